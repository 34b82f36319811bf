import Derived.Test.YtlkdcicpaneakaaKFnExactReplayAll0
import Derived.Test.YtlkdcicpaneakaaKFnExactReplayAll1
import Derived.Test.YtlkdcicpaneakaaProg
import Derived.Below
import Derived.Deep.Draws
import Derived.Deep.AppendLies
import Derived.Maps.AppendAt
import Derived.OwnWalk
import Derived.Laws.BytesArg
import Derived.Laws.MakeOwn
import Derived.Laws.OwnMore
import Derived.Deep.OwnRows
import Derived.Tactics
import Derived.Lib.ConvBytes
import Derived.Laws.Slices
import Derived.WalkKit
import Derived.KernelRfl
import Derived.RowKit3
import Derived.Deep.LoopGhost
import Derived.Deep.QuietTactic
import Derived.BigQuiet
import Derived.WideLaws
import Derived.Deep.DeepCutAuto
import Derived.Deep.CutBlock
import Derived.Deep.RegionHeld3
import Derived.Laws.Rows
import Derived.Lib.AppendStr
import Derived.ArgAppend
import Derived.Laws.IdiomCopy
import Derived.OrdersHeld
import Derived.Laws.BitsLemmas
import Derived.RowKit
import Derived.Deep.Slices
import Derived.OpenShut
import Derived.ChangeArms
import Derived.DataReads
import Derived.ProofKit
import Derived.LoopTactic
import Derived.WalkSpells
import Derived.Laws.BitsAllLaws
import Derived.Shelf.Strings.Builder1
import Derived.Lib.UnsafeStr
namespace Go.Proofs.Ytlkdcicpaneakaa.X
open Go.RowKit Go.Proofs.YtlkdcicpaneakaaW.PrintWords Go.Proofs.YtlkdcicpaneakaaW.PrintLast Go.Proofs.YtlkdcicpaneakaaW.PrintMore
attribute [local go_sem] qaw qax qaH qaI qap qaq qay qaz
set_option linter.unusedVariables false
set_option linter.unusedSimpArgs false
theorem qey (a b : List UInt8) : (Op.bytesLess a b || a == b) = !(Op.bytesLess b a) := by
 induction a generalizing b with
 | nil => cases b <;> rfl
 | cons x a ih =>
  cases b with
  | nil => rfl
  | cons y b =>
   have h := ih b
   simp only [Op.bytesLess, List.cons_beq_cons]
   by_cases h1 : x < y
   ·have h2 : ¬ y < x := by simp [UInt8.lt_iff_toNat_lt] at *; omega
    have h3 : (y == x) = false := by simp [UInt8.lt_iff_toNat_lt, ← UInt8.toNat_inj] at *; omega
    simp [h1, h2, h3]
   ·by_cases h2 : y < x
    ·have h3 : (x == y) = false := by simp [UInt8.lt_iff_toNat_lt, ← UInt8.toNat_inj] at *; omega
     simp [h1, h2, h3]
    ·have h3 : x = y := by simp [UInt8.lt_iff_toNat_lt, ← UInt8.toNat_inj] at *; omega
     subst h3
     simpa [h1] using h
theorem qaA (t : TypeId) (a b : ByteArray) : binOp .geq t (.string a) (.string b) = pure (.bool !(Op.bytesLess a.toList b.toList)) := by simp [binOp, Op.stringOp]
theorem qaB (t : TypeId) (a b : ByteArray) : binOp .leq t (.string a) (.string b) = pure (.bool !(Op.bytesLess b.toList a.toList)) := by rw [← qey]; simp [binOp, Op.stringOp]
theorem qaC (t : TypeId) (a b : ByteArray) : binOp .gtr t (.string a) (.string b) = pure (.bool (Op.bytesLess b.toList a.toList)) := by rw [show Op.bytesLess b.toList a.toList = !(Op.bytesLess a.toList b.toList || a.toList == b.toList) from by rw [qey]; simp]; simp [binOp, Op.stringOp]
def errW : Option Int → Value
 | none => .nilIface
 | some c => .iface 0 (.int .i64 c)
theorem qam : errW none = .nilIface := rfl
theorem qan (c : Int) : errW (some c) = .iface 0 (.int .i64 c) := rfl
theorem info5 : (Try.prog.info? 5).map (fun i => (i.zero, i.size, i.bytes)) = some (some (.int .u8 0), 1, 1) := by kernel_rfl
theorem info41 : (Try.prog.info? 41).map (fun i => (i.zero, i.size, i.bytes)) = some (some (.agg #[(.string ⟨#[]⟩), (.string ⟨#[]⟩), (.int .i64 0), (.slice none 0 0), (.int .i64 0)]), 5, 72) := by kernel_rfl
theorem qcL : (Try.prog.info? 48).map (fun i => (i.zero, i.size, i.bytes)) = some (some (.agg #[(.string ⟨#[]⟩), (.string ⟨#[]⟩)]), 2, 32) := by kernel_rfl
theorem info56 : (Try.prog.info? 56).map (fun i => (i.zero, i.size, i.bytes)) = some (some (.agg #[(.string ⟨#[]⟩), (.string ⟨#[]⟩), (.string ⟨#[]⟩), (.bool false), (.bool false)]), 5, 56) := by kernel_rfl
structure S72 where
 f0 : ByteArray
 f1 : ByteArray
 f2 : ByteArray
 f3 : Bool
 f4 : Bool
def z72 : S72 := ⟨(⟨#[]⟩ : ByteArray), (⟨#[]⟩ : ByteArray), (⟨#[]⟩ : ByteArray), false, false⟩
def k72 : Kd S72 := Kd.iso (Kd.pair Kd.string (Kd.pair Kd.string (Kd.pair Kd.string (Kd.pair Kd.bool Kd.bool)))) (fun x : S72 => (x.f0, x.f1, x.f2, x.f3, x.f4))
theorem k72_open {w : World} {x : S72} {cs : List Value} (h : k72.K w x cs) : cs = [.string x.f0, .string x.f1, .string x.f2, .bool x.f3, .bool x.f4] := by
 obtain ⟨_, _, rfl, rfl, ⟨_, _, rfl, rfl, ⟨_, _, rfl, rfl, ⟨_, _, rfl, rfl, rfl⟩⟩⟩⟩ := h
 exact rfl
def qbz (xs : List S72) (i : Int) : S72 := xs.getD i.toNat z72
theorem qil {w : World} {A : Option Addr} {n : Nat} {xs : List S72} (h : Kd.C k72 w A n xs) (i : Int) (h0 : 0 ≤ i) (h1 : i < n) : ∃ ad , A = some ad ∧ w.cell? (ad.add (i.toNat * 5)) = some (.string (qbz xs i).f0) ∧ w.cell? ⟨(ad.add (i.toNat * 5)).block, (ad.add (i.toNat * 5)).off + 1, none⟩ = some (.string (qbz xs i).f1) ∧ w.cell? ⟨(ad.add (i.toNat * 5)).block, (ad.add (i.toNat * 5)).off + 2, none⟩ = some (.string (qbz xs i).f2) ∧ w.cell? ⟨(ad.add (i.toNat * 5)).block, (ad.add (i.toNat * 5)).off + 3, none⟩ = some (.bool (qbz xs i).f3) ∧ w.cell? ⟨(ad.add (i.toNat * 5)).block, (ad.add (i.toNat * 5)).off + 4, none⟩ = some (.bool (qbz xs i).f4) := by
 obtain ⟨ad, c, e, _, hK, hc0⟩ := Kd.qh1 h z72 i h0 h1
 have hc : ∀ j u, c[j]? = some u → w.cell? (ad.add (i.toNat * 5 + j)) = some u := hc0
 obtain rfl := k72_open hK
 exact ⟨ad, e, hc 0 _ rfl, by rw [← qb3 _ _ 1 (by omega)]; exact hc 1 _ rfl, by rw [← qb3 _ _ 2 (by omega)]; exact hc 2 _ rfl, by rw [← qb3 _ _ 3 (by omega)]; exact hc 3 _ rfl, by rw [← qb3 _ _ 4 (by omega)]; exact hc 4 _ rfl⟩
structure S37 where
 f0 : ByteArray
 f1 : ByteArray
 f2 : Int
 f3 : (List S72)
 f4 : Int
def z37 : S37 := ⟨(⟨#[]⟩ : ByteArray), (⟨#[]⟩ : ByteArray), (0 : Int), ([] : List S72), (0 : Int)⟩
def k37 : Kd S37 := Kd.iso (Kd.pair Kd.string (Kd.pair Kd.string (Kd.pair (Kd.int .i64) (Kd.pair (Kd.slice 72 k72) (Kd.int .i64))))) (fun x : S37 => (x.f0, x.f1, x.f2, x.f3, x.f4))
theorem k37_open {w : World} {x : S37} {cs : List Value} (h : k37.K w x cs) : ∃ A3 c3, cs = [.string x.f0, .string x.f1, .int .i64 x.f2, .slice A3 x.f3.length c3, .int .i64 x.f4] ∧ x.f3.length ≤ c3 ∧ k72.C w A3 x.f3.length x.f3 := by
 obtain ⟨_, _, rfl, rfl, ⟨_, _, rfl, rfl, ⟨_, _, rfl, rfl, ⟨_, _, rfl, ⟨A3, c3, rfl, l3, g3⟩, rfl⟩⟩⟩⟩ := h
 exact ⟨A3, c3, rfl, l3, g3⟩
def qbx (xs : List S37) (i : Int) : S37 := xs.getD i.toNat z37
theorem qim {w : World} {A : Option Addr} {n : Nat} {xs : List S37} (h : Kd.C k37 w A n xs) (i : Int) (h0 : 0 ≤ i) (h1 : i < n) : ∃ ad A3 c3, A = some ad ∧ w.cell? (ad.add (i.toNat * 5)) = some (.string (qbx xs i).f0) ∧ w.cell? ⟨(ad.add (i.toNat * 5)).block, (ad.add (i.toNat * 5)).off + 1, none⟩ = some (.string (qbx xs i).f1) ∧ w.cell? ⟨(ad.add (i.toNat * 5)).block, (ad.add (i.toNat * 5)).off + 2, none⟩ = some (.int .i64 (qbx xs i).f2) ∧ w.cell? ⟨(ad.add (i.toNat * 5)).block, (ad.add (i.toNat * 5)).off + 3, none⟩ = some (.slice A3 (qbx xs i).f3.length c3) ∧ w.cell? ⟨(ad.add (i.toNat * 5)).block, (ad.add (i.toNat * 5)).off + 4, none⟩ = some (.int .i64 (qbx xs i).f4) ∧ (qbx xs i).f3.length ≤ c3 ∧ k72.C w A3 (qbx xs i).f3.length (qbx xs i).f3 := by
 obtain ⟨ad, c, e, _, hK, hc0⟩ := Kd.qh1 h z37 i h0 h1
 have hc : ∀ j u, c[j]? = some u → w.cell? (ad.add (i.toNat * 5 + j)) = some u := hc0
 obtain ⟨A3, c3, rfl, l3, g3⟩ := k37_open hK
 exact ⟨ad, A3, c3, e, hc 0 _ rfl, by rw [← qb3 _ _ 1 (by omega)]; exact hc 1 _ rfl, by rw [← qb3 _ _ 2 (by omega)]; exact hc 2 _ rfl, by rw [← qb3 _ _ 3 (by omega)]; exact hc 3 _ rfl, by rw [← qb3 _ _ 4 (by omega)]; exact hc 4 _ rfl, l3, g3⟩
structure S56 where
 f0 : ByteArray
 f1 : ByteArray
 f2 : ByteArray
 f3 : Bool
 f4 : Bool
def z56 : S56 := ⟨(⟨#[]⟩ : ByteArray), (⟨#[]⟩ : ByteArray), (⟨#[]⟩ : ByteArray), false, false⟩
def k56 : Kd S56 := Kd.iso (Kd.pair Kd.string (Kd.pair Kd.string (Kd.pair Kd.string (Kd.pair Kd.bool Kd.bool)))) (fun x : S56 => (x.f0, x.f1, x.f2, x.f3, x.f4))
theorem k56_open {w : World} {x : S56} {cs : List Value} (h : k56.K w x cs) : cs = [.string x.f0, .string x.f1, .string x.f2, .bool x.f3, .bool x.f4] := by
 obtain ⟨_, _, rfl, rfl, ⟨_, _, rfl, rfl, ⟨_, _, rfl, rfl, ⟨_, _, rfl, rfl, rfl⟩⟩⟩⟩ := h
 exact rfl
theorem qcy {w : World} {base : Nat} {ok : Nat → Prop} {x : S56} {cs : List Value} (h : k56.M w base ok x cs) : cs = [.string x.f0, .string x.f1, .string x.f2, .bool x.f3, .bool x.f4] := by
 obtain ⟨_, _, rfl, rfl, ⟨_, _, rfl, rfl, ⟨_, _, rfl, rfl, ⟨_, _, rfl, rfl, rfl⟩⟩⟩⟩ := h
 exact rfl
theorem qee (w : World) (base : Nat) (ok : Nat → Prop) (x : S56)  : k56.M w base ok x [.string x.f0, .string x.f1, .string x.f2, .bool x.f3, .bool x.f4] := ⟨[.string x.f0], [.string x.f1, .string x.f2, .bool x.f3, .bool x.f4], rfl, rfl, ⟨[.string x.f1], [.string x.f2, .bool x.f3, .bool x.f4], rfl, rfl, ⟨[.string x.f2], [.bool x.f3, .bool x.f4], rfl, rfl, ⟨[.bool x.f3], [.bool x.f4], rfl, rfl, rfl⟩⟩⟩⟩
def qaf (xs : List S56) (i : Int) : S56 := xs.getD i.toNat z56
theorem qdd {w : World} {A : Option Addr} {n : Nat} {xs : List S56} (h : Kd.C k56 w A n xs) (i : Int) (h0 : 0 ≤ i) (h1 : i < n) : ∃ ad , A = some ad ∧ w.cell? (ad.add (i.toNat * 5)) = some (.string (qaf xs i).f0) ∧ w.cell? ⟨(ad.add (i.toNat * 5)).block, (ad.add (i.toNat * 5)).off + 1, none⟩ = some (.string (qaf xs i).f1) ∧ w.cell? ⟨(ad.add (i.toNat * 5)).block, (ad.add (i.toNat * 5)).off + 2, none⟩ = some (.string (qaf xs i).f2) ∧ w.cell? ⟨(ad.add (i.toNat * 5)).block, (ad.add (i.toNat * 5)).off + 3, none⟩ = some (.bool (qaf xs i).f3) ∧ w.cell? ⟨(ad.add (i.toNat * 5)).block, (ad.add (i.toNat * 5)).off + 4, none⟩ = some (.bool (qaf xs i).f4) := by
 obtain ⟨ad, c, e, _, hK, hc0⟩ := Kd.qh1 h z56 i h0 h1
 have hc : ∀ j u, c[j]? = some u → w.cell? (ad.add (i.toNat * 5 + j)) = some u := hc0
 obtain rfl := k56_open hK
 exact ⟨ad, e, hc 0 _ rfl, by rw [← qb3 _ _ 1 (by omega)]; exact hc 1 _ rfl, by rw [← qb3 _ _ 2 (by omega)]; exact hc 2 _ rfl, by rw [← qb3 _ _ 3 (by omega)]; exact hc 3 _ rfl, by rw [← qb3 _ _ 4 (by omega)]; exact hc 4 _ rfl⟩
structure S41 where
 f0 : ByteArray
 f1 : ByteArray
 f2 : Int
 f3 : (List S56)
 f4 : Int
def z41 : S41 := ⟨(⟨#[]⟩ : ByteArray), (⟨#[]⟩ : ByteArray), (0 : Int), ([] : List S56), (0 : Int)⟩
def k41 : Kd S41 := Kd.iso (Kd.pair Kd.string (Kd.pair Kd.string (Kd.pair (Kd.int .i64) (Kd.pair (Kd.slice 56 k56) (Kd.int .i64))))) (fun x : S41 => (x.f0, x.f1, x.f2, x.f3, x.f4))
theorem k41_open {w : World} {x : S41} {cs : List Value} (h : k41.K w x cs) : ∃ A3 c3, cs = [.string x.f0, .string x.f1, .int .i64 x.f2, .slice A3 x.f3.length c3, .int .i64 x.f4] ∧ x.f3.length ≤ c3 ∧ k56.C w A3 x.f3.length x.f3 := by
 obtain ⟨_, _, rfl, rfl, ⟨_, _, rfl, rfl, ⟨_, _, rfl, rfl, ⟨_, _, rfl, ⟨A3, c3, rfl, l3, g3⟩, rfl⟩⟩⟩⟩ := h
 exact ⟨A3, c3, rfl, l3, g3⟩
theorem qfb {w : World} {base : Nat} {ok : Nat → Prop} {x : S41} {cs : List Value} (h : k41.M w base ok x cs) : ∃ v3, cs = [.string x.f0, .string x.f1, .int .i64 x.f2, v3, .int .i64 x.f4] ∧ k56.R 56 w base ok v3 x.f3 := by
 obtain ⟨_, _, rfl, rfl, ⟨_, _, rfl, rfl, ⟨_, _, rfl, rfl, ⟨_, _, rfl, ⟨v3, rfl, g3⟩, rfl⟩⟩⟩⟩ := h
 exact ⟨v3, rfl, g3⟩
theorem qgV (w : World) (base : Nat) (ok : Nat → Prop) (x : S41) {v3 : Value} (g3 : k56.R 56 w base ok v3 x.f3) : k41.M w base ok x [.string x.f0, .string x.f1, .int .i64 x.f2, v3, .int .i64 x.f4] := ⟨[.string x.f0], [.string x.f1, .int .i64 x.f2, v3, .int .i64 x.f4], rfl, rfl, ⟨[.string x.f1], [.int .i64 x.f2, v3, .int .i64 x.f4], rfl, rfl, ⟨[.int .i64 x.f2], [v3, .int .i64 x.f4], rfl, rfl, ⟨[v3], [.int .i64 x.f4], rfl, ⟨v3, rfl, g3⟩, rfl⟩⟩⟩⟩
def qbc (xs : List S41) (i : Int) : S41 := xs.getD i.toNat z41
theorem qeH {w : World} {A : Option Addr} {n : Nat} {xs : List S41} (h : Kd.C k41 w A n xs) (i : Int) (h0 : 0 ≤ i) (h1 : i < n) : ∃ ad A3 c3, A = some ad ∧ w.cell? (ad.add (i.toNat * 5)) = some (.string (qbc xs i).f0) ∧ w.cell? ⟨(ad.add (i.toNat * 5)).block, (ad.add (i.toNat * 5)).off + 1, none⟩ = some (.string (qbc xs i).f1) ∧ w.cell? ⟨(ad.add (i.toNat * 5)).block, (ad.add (i.toNat * 5)).off + 2, none⟩ = some (.int .i64 (qbc xs i).f2) ∧ w.cell? ⟨(ad.add (i.toNat * 5)).block, (ad.add (i.toNat * 5)).off + 3, none⟩ = some (.slice A3 (qbc xs i).f3.length c3) ∧ w.cell? ⟨(ad.add (i.toNat * 5)).block, (ad.add (i.toNat * 5)).off + 4, none⟩ = some (.int .i64 (qbc xs i).f4) ∧ (qbc xs i).f3.length ≤ c3 ∧ k56.C w A3 (qbc xs i).f3.length (qbc xs i).f3 := by
 obtain ⟨ad, c, e, _, hK, hc0⟩ := Kd.qh1 h z41 i h0 h1
 have hc : ∀ j u, c[j]? = some u → w.cell? (ad.add (i.toNat * 5 + j)) = some u := hc0
 obtain ⟨A3, c3, rfl, l3, g3⟩ := k41_open hK
 exact ⟨ad, A3, c3, e, hc 0 _ rfl, by rw [← qb3 _ _ 1 (by omega)]; exact hc 1 _ rfl, by rw [← qb3 _ _ 2 (by omega)]; exact hc 2 _ rfl, by rw [← qb3 _ _ 3 (by omega)]; exact hc 3 _ rfl, by rw [← qb3 _ _ 4 (by omega)]; exact hc 4 _ rfl, l3, g3⟩
structure S48 where
 f0 : ByteArray
 f1 : ByteArray
def z48 : S48 := ⟨(⟨#[]⟩ : ByteArray), (⟨#[]⟩ : ByteArray)⟩
def k48 : Kd S48 := Kd.iso (Kd.pair Kd.string Kd.string) (fun x : S48 => (x.f0, x.f1))
theorem k48_heap : Kd.Heap k48 := Kd.heap_iso _ (Kd.qig Kd.qe7 Kd.qe7)
theorem qho {w : World} {x : S48} {cs : List Value} (h : k48.K w x cs) : cs = [.string x.f0, .string x.f1] := by
 obtain ⟨_, _, rfl, rfl, rfl⟩ := h
 exact rfl
theorem qcN {w : World} {base : Nat} {ok : Nat → Prop} {x : S48} {cs : List Value} (h : k48.M w base ok x cs) : cs = [.string x.f0, .string x.f1] := by
 obtain ⟨_, _, rfl, rfl, rfl⟩ := h
 exact rfl
theorem qcZ (w : World) (base : Nat) (ok : Nat → Prop) (x : S48)  : k48.M w base ok x [.string x.f0, .string x.f1] := ⟨[.string x.f0], [.string x.f1], rfl, rfl, rfl⟩
def qaK (xs : List S48) (i : Int) : S48 := xs.getD i.toNat z48
theorem qcz {w : World} {A : Option Addr} {n : Nat} {xs : List S48} (h : Kd.C k48 w A n xs) (i : Int) (h0 : 0 ≤ i) (h1 : i < n) : ∃ ad , A = some ad ∧ w.cell? (ad.add (i.toNat * 2)) = some (.string (qaK xs i).f0) ∧ w.cell? ⟨(ad.add (i.toNat * 2)).block, (ad.add (i.toNat * 2)).off + 1, none⟩ = some (.string (qaK xs i).f1) := by
 obtain ⟨ad, c, e, _, hK, hc0⟩ := Kd.qh1 h z48 i h0 h1
 have hc : ∀ j u, c[j]? = some u → w.cell? (ad.add (i.toNat * 2 + j)) = some u := hc0
 obtain rfl := qho hK
 exact ⟨ad, e, hc 0 _ rfl, by rw [← qb3 _ _ 1 (by omega)]; exact hc 1 _ rfl⟩
end Go.Proofs.Ytlkdcicpaneakaa.X
namespace Go.Proofs.Ytlkdcicpaneakaa.X
open Go.RowKit Go.Proofs.YtlkdcicpaneakaaW.PrintWords Go.Proofs.YtlkdcicpaneakaaW.PrintLast Go.Proofs.YtlkdcicpaneakaaW.PrintMore
attribute [local go_sem] qaA qaB qaC qaw qax qaH qaI qap qaq qay qaz
set_option linter.unusedVariables false
set_option linter.unusedSimpArgs false
open Go.ChangeShapes Go.WideShapes
def Opens {α : Type} (P : Program) (t : TypeId) (d : Kd α) (wf : α → Prop) : Prop :=
 P.cellsOf t = d.sz ∧ ∀ {H : Type} {enc : TypeId × Value → H} {w : World} {base : Nat} {spare : Nat → Bool} {held : Bool} {fuel : Nat} {cs : List Value} {x : DataW H × List MemPlace},
  DataW.trod enc P w base spare held fuel t cs = some x → ∃ v : α, d.K w v cs ∧ wf v
theorem Opens.int_ {P : Program} {t : TypeId} {k : IntKind} (hu : P.underlying t = some (.int k)) (hc : P.cellsOf t = 1) : Opens P t (Kd.int k) (fun x => (Lit.int k x).wf = true) :=
 ⟨hc, fun h => by
  obtain ⟨n, rfl, _, hw⟩ := DataW.trod_int hu h
  exact ⟨n, rfl, hw⟩⟩
theorem Opens.bool_ {P : Program} {t : TypeId} (hu : P.underlying t = some .bool) (hc : P.cellsOf t = 1) : Opens P t Kd.bool (fun _ => True) :=
 ⟨hc, fun h => by
  obtain ⟨b, rfl, _⟩ := DataW.trod_bool hu h
  exact ⟨b, rfl, trivial⟩⟩
theorem Opens.string_ {P : Program} {t : TypeId} (hu : P.underlying t = some .string) (hc : P.cellsOf t = 1) : Opens P t Kd.string (fun x => x.size ≤ maxLen) :=
 ⟨hc, fun h => by
  obtain ⟨s, rfl, _, hs⟩ := DataW.trod_string hu h
  exact ⟨s, rfl, hs⟩⟩
theorem qgW {α : Type} {n : Nat} {p : Nat → α → Prop} (h : ∀ i, i < n → ∃ x, p i x) : ∃ xs : List α, xs.length = n ∧ ∀ i x, xs[i]? = some x → p i x := by
 induction n with
 | zero => exact ⟨[], rfl, fun i x hx => by simp at hx⟩
 | succ n ih =>
  obtain ⟨xs, hl, hx⟩ := ih (fun i hi => h i (by omega))
  obtain ⟨x, hp⟩ := h n (by omega)
  refine ⟨xs ++ [x], by simp [hl], fun i y hy => ?_⟩
  rcases Nat.lt_or_ge i xs.length with hi | hi
  ·rw [List.getElem?_append_left hi] at hy
   exact hx i y hy
  ·rw [List.getElem?_append_right hi] at hy
   have hi0 : i - xs.length = 0 := by
    have := (List.getElem?_eq_some_iff.1 hy).1
    simpa using this
   rw [hi0] at hy
   obtain rfl : x = y := by simpa using hy
   obtain rfl : i = n := by omega
   exact hp
theorem Opens.row {α : Type} {P : Program} {t e : TypeId} {d : Kd α} {wf : α → Prop} (hu : P.underlying t = some (.slice e)) (he : Opens P e d wf)
  {H : Type} {enc : TypeId × Value → H} {w : World} {base : Nat} {spare : Nat → Bool} {held : Bool} {fuel : Nat} {cs : List Value} {x : DataW H × List MemPlace}
  (h : DataW.trod enc P w base spare held fuel t cs = some x) : ∃ (A : Option Addr) (c : Nat) (l : List α), cs = [.slice A l.length c] ∧ l.length ≤ c ∧ Kd.C d w A l.length l ∧ l.length ≤ maxLen ∧ ∀ y ∈ l, wf y := by
 rcases Go.Deep.open_slice hu h with ⟨rfl, _⟩ | ⟨a, len, cap, m, n, D, Pl, rfl, hb, hl, hm, hmm, rfl, hx⟩
 ·exact ⟨none, 0, [], rfl, Nat.le_refl _, ⟨rfl, by simp, fun hn => absurd hn (by simp)⟩, by simp, by simp⟩
 ·have hlm : len ≤ m := by rw [hmm]; split <;> omega
  obtain ⟨l, hlen, hp⟩ := qgW (n := len) (p := fun i v => wf v ∧ ∃ c : List Value, c.length = d.sz ∧ d.K w v c ∧ ∀ j u, c[j]? = some u → w.cell? (a.add (i * d.sz + j)) = some u) (fun i hi => by
   obtain ⟨cs', h1, h2⟩ := hx i (by omega)
   obtain ⟨v, hv, hw⟩ := he.2 h2
   obtain ⟨_, hcl, hcell⟩ := World.cells?_some h1
   rw [he.1] at hcl
   refine ⟨v, hw, cs', hcl, hv, fun j u hj => ?_⟩
   have hj' := (List.getElem?_eq_some_iff.1 hj).1
   have hc0 := hcell j (by rw [he.1]; omega)
   rw [he.1] at hc0
   rw [← hj, ← hc0]
   congr 1
   unfold Addr.add
   by_cases h0 : i * d.sz = 0 <;> by_cases h3 : j = 0 <;> simp [h0, h3, Nat.add_assoc])
  refine ⟨some a, cap, l, by rw [hlen], by omega, ⟨rfl, by simp only [maxLen] at hm; omega, fun _ => ⟨a, rfl, fun j q hq => ?_⟩⟩, by omega, fun y hy => ?_⟩
  ·obtain ⟨_, c, h1, h2, h3⟩ := hp j q hq
   exact ⟨c, h1, h2, h3⟩
  ·obtain ⟨j, hj⟩ := List.getElem?_of_mem hy
   exact (hp j y hj).1
theorem Opens.qhZ {α : Type} {P : Program} {t e : TypeId} {d : Kd α} {wf : α → Prop} (hu : P.underlying t = some (.slice e)) (hc : P.cellsOf t = 1) (he : Opens P e d wf) :
  Opens P t (Kd.slice e d) (fun xs => xs.length ≤ maxLen ∧ ∀ x ∈ xs, wf x) :=
 ⟨hc, fun h => by
  obtain ⟨A, c, l, rfl, hl, hC, hm, hw⟩ := Opens.row hu he h
  exact ⟨l, ⟨A, c, rfl, hl, hC⟩, hm, hw⟩⟩
theorem Opens.qin {α : Type} {P : Program} {t e : TypeId} {d : Kd α} {wf : List α → Prop} (h : Opens P t (Kd.slice e d) wf)
  {H : Type} {enc : TypeId × Value → H} {w : World} {base : Nat} {spare : Nat → Bool} {held : Bool} {A : Option Addr} {len c : Nat} {x : DataW H} {ps : List MemPlace}
  (ht : DataW.Trod enc P w base spare held t (.slice A len c) x ps) : ∃ l : List α, len = l.length ∧ l.length ≤ c ∧ Kd.C d w A l.length l ∧ wf l := by
 obtain ⟨fuel, hf⟩ := ht
 obtain ⟨l, ⟨A', c', he, hl, hC⟩, hw⟩ := h.2 hf
 simp [Value.cells] at he
 obtain ⟨rfl, rfl, rfl⟩ := he
 exact ⟨l, rfl, hl, hC, hw⟩
end Go.Proofs.Ytlkdcicpaneakaa.X
namespace Go.Proofs.Ytlkdcicpaneakaa.X
open Go.RowKit Go.Proofs.YtlkdcicpaneakaaW.PrintWords Go.Proofs.YtlkdcicpaneakaaW.PrintLast Go.Proofs.YtlkdcicpaneakaaW.PrintMore
attribute [local go_sem] qaA qaB qaC qaw qax qaH qaI qap qaq qay qaz
set_option linter.unusedVariables false
set_option linter.unusedSimpArgs false
def qdl {α : Type} (p : α → Bool) (l : List α) : Int := if l.any p then (l.findIdx p : Int) else -1
theorem qgv {α : Type} {p : α → Bool} {l : List α} {k : Nat} (hk : k < l.length) (hn : ∀ j (hj : j < l.length), j < k → p l[j] = false) (h : p l[k] = true) : qdl p l = k := by
 have hi : l.findIdx p = k := (List.findIdx_eq hk).2 ⟨h, fun j hj => by simpa using hn j (by omega) hj⟩
 have ha : l.any p = true := List.any_eq_true.2 ⟨l[k], List.getElem_mem hk, h⟩
 unfold qdl
 rw [if_pos ha, hi]
theorem qgw {α : Type} {p : α → Bool} {l : List α} (hn : ∀ j (hj : j < l.length), p l[j] = false) : qdl p l = -1 := by
 unfold qdl
 rw [if_neg]
 intro h
 obtain ⟨x, hx, hp⟩ := List.any_eq_true.1 h
 obtain ⟨j, hj, rfl⟩ := List.getElem_of_mem hx
 rw [hn j hj] at hp
 cases hp
set_option maxHeartbeats 1000000 in
set_option maxRecDepth 100000 in
theorem qeL (p : S41 → Bool) (g : Nat) (lb : Array Value) (eg : ∀ args w, (callFunc g args).run Try.prog w = .ok (.enter g args) w) (A0 : Option Addr) (c0 : Nat) (l0 : List S41) (w : World) (hr0 : Kd.C k41 w A0 l0.length l0)
  (hp : ∀ (x : S41) (W : World), x ∈ l0 → Below w.heap.size w W → ∀ (A3 : Option Addr) (c3 : Nat), x.f3.length ≤ c3 → Kd.C k56 W A3 x.f3.length x.f3 → Calls Try.prog g (#[.agg #[.string x.f0, .string x.f1, .int .i64 x.f2, .slice A3 x.f3.length c3, .int .i64 x.f4]] ++ lb) W fun e W' => e = .returned (.bool (p x)) ∧ Below W.heap.size W W') :
  Calls Try.prog 36 #[.slice A0 l0.length c0, .func (.func g) #[] lb] w fun e w' => e = .returned (.int .i64 (qdl p l0)) ∧ Below w.heap.size w w' := by
 have hu := Try.underlying41
 have hm : l0.length ≤ 9223372036854775807 := hr0.2.1
 have HR0 := Aside0.mk hr0
 have HP := Aside0.mk hp
 clear hr0 hp
 go_enter Try.func36, Try.ntmps36
 go_wp2_with fail
 go_loopw [8] (fun v8 wr => ∃ k : Nat, k ≤ l0.length ∧ v8 = .int .i64 k ∧ Aside0 (∀ j (hj : j < l0.length), j < k → p l0[j] = false) ∧ Aside0 (Below w.heap.size w wr)) (fun v8 _ => l0.length - (intOf v8).toNat)
 case atStart => exact ⟨0, Nat.zero_le _, rfl, ⟨fun j hj h => absurd h (by omega)⟩, ⟨Below.refl _ _⟩⟩
 case round =>
  obtain ⟨k, hk, rfl, HN, HB⟩ := hrel
  by_cases hlt : k < l0.length
  ·have p1 : 0 ≤ (k : Int) := by omega
   have q1 : (k : Int) < (l0.length : Int) := by omega
   obtain ⟨ad1, A3, c3, e1, hx0, hx1, hx2, hx3, hx4, hl3, hc3⟩ := qeH HR0.out (k : Int) p1 q1
   have hx : qbc l0 (k : Int) = l0[k] := by unfold qbc; rw [Int.toNat_natCast]; simp [List.getD_eq_getElem?_getD, hlt]
   rw [hx] at hx0 hx1 hx2 hx3 hx4 hl3 hc3
   cases e1
   replace hx0 := (HB.out.cell (World.block_lt_of_cell? w _ hx0)).trans hx0
   replace hx1 := (HB.out.cell (World.block_lt_of_cell? w _ hx1)).trans hx1
   replace hx2 := (HB.out.cell (World.block_lt_of_cell? w _ hx2)).trans hx2
   replace hx3 := (HB.out.cell (World.block_lt_of_cell? w _ hx3)).trans hx3
   replace hx4 := (HB.out.cell (World.block_lt_of_cell? w _ hx4)).trans hx4
   rw [Int.toNat_natCast] at hx0 hx1 hx2 hx3 hx4
   clear hx
   have hb := fun W hW => HP.out l0[k] W (List.getElem_mem hlt) hW A3 c3 hl3 (Kd.qa8 hc3 hW)
   have HB2 := Aside0.mk hb
   clear hb
   cases hpk : p l0[k] with
   | true =>
    have HK := Aside0.mk hpk
    clear hpk
    go_wp2_with fail
    refine (HB2.out _ HB.out).mono ?_
    rintro e w1 ⟨rfl, hb1⟩
    rw [HK.out]
    go_wp2_with fail
    go_ret
    exact ⟨by rw [qgv hlt HN.out HK.out]; rfl, qag HB.out hb1⟩
   | false =>
    have HK := Aside0.mk hpk
    clear hpk
    go_wp2_with fail
    refine (HB2.out _ HB.out).mono ?_
    rintro e w1 ⟨rfl, hb1⟩
    rw [HK.out]
    go_wp2_with fail
    go_roundw
    case rel => exact ⟨k + 1, by omega, by go_num, ⟨fun j hj h => by
     by_cases e : j = k
     ·subst e; exact HK.out
     ·exact HN.out j hj (by omega)⟩, ⟨qag HB.out hb1⟩⟩
    case measure => simp [intOf]; omega
  ·go_wp2_with fail
   go_ret
   exact ⟨by rw [qgw fun j hj => HN.out j hj (by omega)]; rfl, HB.out⟩
set_option maxRecDepth 100000 in
theorem qef (p : S41 → Bool) (g : Nat) (lb : Array Value) (eg : ∀ args w, (callFunc g args).run Try.prog w = .ok (.enter g args) w) (A0 : Option Addr) (c0 : Nat) (l0 : List S41) (w : World) (hr0 : Kd.C k41 w A0 l0.length l0)
  (hp : ∀ (x : S41) (W : World), x ∈ l0 → Below w.heap.size w W → ∀ (A3 : Option Addr) (c3 : Nat), x.f3.length ≤ c3 → Kd.C k56 W A3 x.f3.length x.f3 → Calls Try.prog g (#[.agg #[.string x.f0, .string x.f1, .int .i64 x.f2, .slice A3 x.f3.length c3, .int .i64 x.f4]] ++ lb) W fun e W' => e = .returned (.bool (p x)) ∧ Below W.heap.size W W') :
  Calls Try.prog 18 #[.slice A0 l0.length c0, .func (.func g) #[] lb] w fun e w' => e = .returned (.bool (l0.any p)) ∧ Below w.heap.size w w' := by
 have HC := Aside0.mk (qeL p g lb eg A0 c0 l0 w hr0 hp)
 clear hr0 hp
 cases ha : l0.any p with
 | true =>
  have h1 : 0 ≤ qdl p l0 := by unfold qdl; rw [if_pos ha]; omega
  have h2 : decide (0 ≤ qdl p l0) = true := decide_eq_true h1
  clear ha h1
  generalize qdl p l0 = r at HC h2
  go_enter Try.func18, Try.ntmps18
  go_wp2_with fail
  refine HC.out.mono ?_
  rintro e w1 ⟨rfl, hb1⟩
  go_wp2_with fail
  go_ret
  exact ⟨by first | rfl | simp [h2], hb1⟩
 | false =>
  have h1 : qdl p l0 = -1 := by unfold qdl; rw [if_neg (by rw [ha]; decide)]
  rw [h1] at HC
  clear ha h1
  go_enter Try.func18, Try.ntmps18
  go_wp2_with fail
  refine HC.out.mono ?_
  rintro e w1 ⟨rfl, hb1⟩
  go_wp2_with fail
  go_ret
  exact ⟨rfl, hb1⟩
theorem Ev.succ {α : Type} {g : Nat → Option α} {r : α} (h : Ev (fun k => g (k + 1)) r) : Ev g r := Ev.step (fun _ => rfl) h
theorem Ev.pos {α : Type} {c : Prop} [Decidable c] {g f : Nat → Option α} {r : α} (hc : c) (h : Ev g r) : Ev (fun k => if c then g k else f k) r := Ev.congr (fun _ => if_pos hc) h
theorem Ev.neg {α : Type} {c : Prop} [Decidable c] {g f : Nat → Option α} {r : α} (hc : ¬ c) (h : Ev f r) : Ev (fun k => if c then g k else f k) r := Ev.congr (fun _ => if_neg hc) h
theorem Ev.is {α : Type} {o : Option α} {r : α} (h : o = some r) : Ev (fun _ => o) r := ⟨0, fun _ _ => h⟩
theorem Ev.bindk {α β : Type} {o : Option α} {f : Nat → α → Option β} {a : α} {r : β} (h : o = some a) (k : Ev (fun n => f n a) r) : Ev (fun n => o.bind (f n)) r := Ev.bind (g := fun _ => o) (Ev.is h) k
theorem Ev.same {α : Type} {g : Nat → Option α} {r r' : α} (h : Ev g r) (e : r = r') : Ev g r' := e ▸ h
theorem qcu {n : Nat} (h : n < 9223372036854775807) : wrap64 ((n : Int) + 1) = ((n + 1 : Nat) : Int) := by unfold wrap64; omega
theorem qby {x : Int} (h0 : -9223372036854775808 ≤ x) (h1 : x ≤ 9223372036854775807) : wrap64 x = x := by unfold wrap64; omega
theorem set_mid {α : Type} (pre : List α) (x y : α) (rest : List α) : (pre ++ x :: rest).set pre.length y = pre ++ y :: rest := by simp
theorem qcp {α : Type} (pre : List α) (x : α) : pre.length + 1 = (pre ++ [x]).length := by simp
theorem qdm : maxLen ≤ 9223372036854775807 := by unfold maxLen; decide
mutual
def qbs.l0 : Nat → Int → List Int → Int → Int → Option (Int)
 | 0, _, _, _, _ => none
 | k + 1, x3, x6, x7, x8 => if x8 < x7 then (if 0 ≤ x8 then (if x8 < (x6.length : Int) then (qbs.l1 k (Go.bits .xor .u32 x3 ((rd x6 x8) % 4294967296)) x6 x7 x8 0) else (none)) else (none)) else (some (wrap64 (Go.bits .xor .u32 IntKind.u32.max x3)))
def qbs.l1 : Nat → Int → List Int → Int → Int → Int → Option (Int)
 | 0, _, _, _, _, _ => none
 | k + 1, x3, x6, x7, x8, x16 => if x16 < 8 then (qbs.l1 k (Go.bits .xor .u32 (x3 / 2) ((3988292384 * (Go.bits .and .u32 x3 1)) % 4294967296)) x6 x7 x8 (wrap64 (x16 + 1))) else (qbs.l0 k x3 x6 x7 (wrap64 (x8 + 1)))
end
def qbs.f (k : Nat) (l0 : List Int) : Option (Int) := qbs.l0 k 4294967295 l0 (l0.length : Int) 0
theorem qbs.qbA : ∀ k, (∀ y0 y1 y2 y3, LeO (qbs.l0 k y0 y1 y2 y3) (qbs.l0 (k + 1) y0 y1 y2 y3)) ∧ (∀ y0 y1 y2 y3 y4, LeO (qbs.l1 k y0 y1 y2 y3 y4) (qbs.l1 (k + 1) y0 y1 y2 y3 y4))
 | 0 => ⟨fun _ _ _ _ r h => by simp [qbs.l0] at h, fun _ _ _ _ _ r h => by simp [qbs.l1] at h⟩
 | k + 1 => by
  obtain ⟨ih0, ih1⟩ := qbs.qbA k
  refine ⟨?_, ?_⟩
  ·intro y0 y1 y2 y3
   unfold qbs.l0
   repeat' first
   | (with_reducible exact ih0 _ _ _ _)
   | (with_reducible exact ih1 _ _ _ _ _)
   | (with_reducible exact LeO.refl _)
   | (with_reducible exact LeO.none _)
   | (with_reducible refine LeO.ite ?_ ?_)
   | (with_reducible refine LeO.bind ?_ (fun _ => ?_))
   | exact ih0 _ _ _ _
   | exact ih1 _ _ _ _ _
   | exact LeO.none _
   | refine LeO.ite ?_ ?_
   | refine LeO.bind ?_ (fun _ => ?_)
  ·intro y0 y1 y2 y3 y4
   unfold qbs.l1
   repeat' first
   | (with_reducible exact ih0 _ _ _ _)
   | (with_reducible exact ih1 _ _ _ _ _)
   | (with_reducible exact LeO.refl _)
   | (with_reducible exact LeO.none _)
   | (with_reducible refine LeO.ite ?_ ?_)
   | (with_reducible refine LeO.bind ?_ (fun _ => ?_))
   | exact ih0 _ _ _ _
   | exact ih1 _ _ _ _ _
   | exact LeO.none _
   | refine LeO.ite ?_ ?_
   | refine LeO.bind ?_ (fun _ => ?_)
set_option maxHeartbeats 8000000 in
set_option maxRecDepth 100000 in
theorem qbs.calls (k : Nat) (A0 : Option Addr) (c0 : Nat) (l0 : List Int) (r : Int) (w : World) (hr0 : Kd.C (Kd.int .u8) w A0 l0.length l0) (hc0 : l0.length ≤ c0) (h : qbs.f k l0 = some r) :
  Calls Try.prog 70 #[.slice A0 l0.length c0] w fun e w' => e = .returned (.int .i64 r) ∧ qaF w w' := by
 have HR0 := Aside0.mk hr0
 have HC0 := Aside0.mk hc0
 clear hr0 hc0
 have H : (qbs.l0 k 4294967295 l0 (l0.length : Int) 0) = some r := h
 clear h
 have H' := Aside0.mk H
 clear H
 go_enter Try.func70, Try.ntmps70
 go_wp2
 go_loopg [3, 8] k (fun kq v3 v8 w' => ∃ (x3_1 : Int) (x8_1 : Int), v3 = .int .u32 x3_1 ∧ v8 = .int .i64 x8_1 ∧ Aside0 (qbs.l0 kq x3_1 l0 (l0.length : Int) x8_1 = some r) ∧ Aside0 (kq ≤ k) ∧ qaF w w')
 case atStart => exact ⟨(4294967295), (0), (by first | rfl | (simp; done) | (simp [*]; done)), (by first | rfl | (simp; done) | (simp [*]; done)), H', ⟨Nat.le_refl _⟩, by repeat (first | exact qaF.refl _ | apply qaF.step)⟩
 case round =>
  clear H'
  obtain ⟨x3_1, x8_1, rfl, rfl, HA, HK1, ⟨m1, rfl⟩⟩ := hrel
  cases gk with
  | zero => exact absurd HA.out (by simp [qbs.l0])
  | succ k1 =>
   have H := HA.out
   clear HA
   simp only [qbs.l0] at H
   by_cases c2 : x8_1 < (l0.length : Int)
   ·rw [if_pos c2] at H
    have c2b0 : decide (x8_1 < (l0.length : Int)) = true := decide_eq_true c2
    clear c2
    by_cases c3 : 0 ≤ x8_1
    ·rw [if_pos c3] at H
     have c3b0 : decide (0 ≤ x8_1) = true := decide_eq_true c3
     clear c3
     by_cases c4 : x8_1 < (l0.length : Int)
     ·rw [if_pos c4] at H
      have c4b0 : decide (x8_1 < (l0.length : Int)) = true := decide_eq_true c4
      clear c4
      have H' := Aside0.mk H
      clear H
      have p355 : 0 ≤ (x8_1 : Int) := of_decide_eq_true (by first | (with_reducible assumption) | assumption)
      have q355 : x8_1 < (l0.length : Int) := of_decide_eq_true (by first | (with_reducible assumption) | assumption)
      obtain ⟨ad355, e355, hx355_0⟩ := Kd.at_int HR0.out x8_1 p355 q355
      cases e355
      replace p355 := eq_true p355
      replace q355 := eq_true q355
      go_wp2
      go_loopg [3, 16] k1 (fun kq v3 v16 w' => ∃ (x3_2 : Int) (x16_2 : Int), v3 = .int .u32 x3_2 ∧ v16 = .int .i64 x16_2 ∧ Aside0 (qbs.l1 kq x3_2 l0 (l0.length : Int) x8_1 x16_2 = some r) ∧ Aside0 (kq ≤ k1) ∧ qaF w w')
      case atStart => exact ⟨(Go.bits .xor .u32 x3_1 ((rd l0 x8_1) % 4294967296)), (0), (by first | rfl | (simp; done) | (simp [*]; done)), (by first | rfl | (simp; done) | (simp [*]; done)), H', ⟨Nat.le_refl _⟩, by repeat (first | exact qaF.refl _ | apply qaF.step)⟩
      case round =>
       clear H'
       try clear c2
       try clear c2b0
       try clear p2
       try clear c3
       try clear c3b0
       try clear p3
       try clear q3
       try clear hx3
       try clear c4
       try clear c4b0
       try clear hx355_0
       try clear p355
       try clear q355
       obtain ⟨x3_2, x16_2, rfl, rfl, HA, HK2, ⟨m2, rfl⟩⟩ := hrel
       cases gk with
       | zero => exact absurd HA.out (by simp [qbs.l1])
       | succ k2 =>
        have H := HA.out
        clear HA
        simp only [qbs.l1] at H
        by_cases c5 : x16_2 < 8
        ·rw [if_pos c5] at H
         have c5b0 : decide (x16_2 < 8) = true := decide_eq_true c5
         clear c5
         have H' := Aside0.mk H
         clear H
         go_wp2
         go_roundg k2
         case measure => have := HK1.out; have := HK2.out; omega
         case rel => exact ⟨(Go.bits .xor .u32 (x3_2 / 2) ((3988292384 * (Go.bits .and .u32 x3_2 1)) % 4294967296)), (wrap64 (x16_2 + 1)), (by first | rfl | (simp; done) | (simp [*]; done)), (by first | rfl | (simp; done) | (simp [*]; done)), H', ⟨by have := HK1.out; have := HK2.out; omega⟩, by repeat (first | exact qaF.refl _ | apply qaF.step)⟩
        ·rw [if_neg c5] at H
         have c5b0 : decide (x16_2 < 8) = false := decide_eq_false c5
         clear c5
         have H' := Aside0.mk H
         clear H
         go_wp2
         go_roundg k2
         case measure => have := HK1.out; have := HK2.out; omega
         case rel => exact ⟨(x3_2), (wrap64 (x8_1 + 1)), (by first | rfl | (simp; done) | (simp [*]; done)), (by first | rfl | (simp; done) | (simp [*]; done)), H', ⟨by have := HK1.out; have := HK2.out; omega⟩, by repeat (first | exact qaF.refl _ | apply qaF.step)⟩
     ·rw [if_neg c4] at H
      exact absurd H (by simp)
    ·rw [if_neg c3] at H
     exact absurd H (by simp)
   ·rw [if_neg c2] at H
    have c2b0 : decide (x8_1 < (l0.length : Int)) = false := decide_eq_false c2
    clear c2
    obtain rfl := Option.some.inj H
    go_wp2
    go_ret
    exact ⟨by first | rfl | (simp; done) | (simp [*]; done), by repeat (first | exact qaF.refl _ | apply qaF.step)⟩
end Go.Proofs.Ytlkdcicpaneakaa.X
namespace Go.Proofs.Ytlkdcicpaneakaa.X
open Go.RowKit Go.Proofs.YtlkdcicpaneakaaW.PrintWords Go.Proofs.YtlkdcicpaneakaaW.PrintLast Go.Proofs.YtlkdcicpaneakaaW.PrintMore
attribute [local go_sem] qaA qaB qaC qaw qax qaH qaI qap qaq qay qaz
set_option linter.unusedVariables false
set_option linter.unusedSimpArgs false
def stepN (x : Nat) : Nat := (x / 2) ^^^ (3988292384 * (x % 2))
def step4 (x : Nat) : Nat := stepN (stepN (stepN (stepN x)))
def step8 (x : Nat) : Nat := step4 (step4 x)
def nib (r x : Nat) : Nat := (r / 16) ^^^ step4 ((r ^^^ x) % 16)
def crcF (r : Nat) : List Int → Nat
 | [] => r
 | c :: l => crcF (step8 (r ^^^ c.toNat)) l
theorem qio (x y : Nat) : stepN (x ^^^ y) = stepN x ^^^ stepN y := by
 unfold stepN
 have e : (x ^^^ y) % 2 = (x % 2) ^^^ (y % 2) := Nat.xor_mod_two_pow (n := 1)
 rw [Nat.xor_div_two, e]
 rcases Nat.mod_two_eq_zero_or_one x with hx | hx <;> rcases Nat.mod_two_eq_zero_or_one y with hy | hy <;> rw [hx, hy]
 ·simp
 ·simp [Nat.xor_assoc]
 ·simp only [Nat.mul_one, Nat.mul_zero, Nat.xor_zero]
  rw [Nat.xor_assoc, Nat.xor_assoc, Nat.xor_comm (y / 2)]
 ·simp only [Nat.mul_one, Nat.mul_zero, Nat.xor_zero, Nat.xor_self]
  rw [Nat.xor_assoc, Nat.xor_comm 3988292384, Nat.xor_assoc, Nat.xor_self, Nat.xor_zero]
theorem qip (x y : Nat) : step4 (x ^^^ y) = step4 x ^^^ step4 y := by
 unfold step4
 simp only [qio]
theorem qd2 (y : Nat) : stepN (2 * y) = y := by
 unfold stepN
 rw [show 2 * y / 2 = y by omega, show 2 * y % 2 = 0 by omega]
 simp
theorem qhB (q : Nat) : step4 (16 * q) = q := by
 unfold step4
 rw [show 16 * q = 2 * (2 * (2 * (2 * q))) by omega, qd2, qd2, qd2, qd2]
theorem split16 (r : Nat) : r = (16 * (r / 16)) ^^^ (r % 16) := by
 have hs : r % 16 < 2 ^ 4 := by omega
 have e : r = 2 ^ 4 * (r / 16) + r % 16 := by omega
 have e2 : 16 * (r / 16) = 2 ^ 4 * (r / 16) := by omega
 rw [e2]
 refine Nat.eq_of_testBit_eq fun j => ?_
 rw [Nat.testBit_xor, Nat.testBit_two_pow_mul]
 conv => lhs; rw [e, Nat.testBit_two_pow_mul_add _ hs]
 by_cases hj : j < 4
 ·simp [hj, show ¬ 4 ≤ j by omega]
 ·have hz : (r % 16).testBit j = false := Nat.testBit_lt_two_pow (Nat.lt_of_lt_of_le hs (Nat.pow_le_pow_right (by omega) (by omega)))
  rw [hz]
  simp [hj, show 4 ≤ j by omega]
theorem qhp (r : Nat) : step4 r = (r / 16) ^^^ step4 (r % 16) := by
 conv => lhs; rw [split16 r]
 rw [qip, qhB]
theorem qgx (a b : Nat) : (a ^^^ b) / 16 = a / 16 ^^^ b / 16 := Nat.xor_div_two_pow (n := 4)
theorem qiq (r c : Nat) (hc : c < 256) : step8 (r ^^^ c) = nib (nib r c) (c / 16) := by
 have h1 : step4 (r ^^^ c) = nib r c ^^^ c / 16 := by
  rw [qhp, qgx]
  unfold nib
  rw [Nat.xor_assoc, Nat.xor_assoc, Nat.xor_comm (c / 16)]
 unfold step8
 rw [h1, qhp, qgx, show c / 16 / 16 = 0 by omega, Nat.xor_zero]
 rfl
theorem qd3 {x : Nat} (h : x < 4294967296) : stepN x < 4294967296 := by
 unfold stepN
 refine Nat.xor_lt_two_pow (n := 32) (by omega) ?_
 rcases Nat.mod_two_eq_zero_or_one x with hx | hx <;> rw [hx] <;> decide
theorem qeQ {x : Nat} (h : x < 4294967296) : step4 x < 4294967296 := qd3 (qd3 (qd3 (qd3 h)))
theorem qhq {x : Nat} (h : x < 4294967296) : step8 x < 4294967296 := qeQ (qeQ h)
def isByte (c : Int) : Prop := 0 ≤ c ∧ c < 256
theorem qeg {r : Nat} (h : r < 4294967296) {c : Int} (hc : isByte c) : r ^^^ c.toNat < 4294967296 := Nat.xor_lt_two_pow (n := 32) h (by have := hc.1; have := hc.2; omega)
theorem crcF_lt (l : List Int) : ∀ r, r < 4294967296 → (∀ c, c ∈ l → isByte c) → crcF r l < 4294967296 := by
 induction l with
 | nil => intro r h _; exact h
 | cons c l ih => intro r h hl; exact ih _ (qhq (qeg h (hl c List.mem_cons_self))) fun x hx => hl x (List.mem_cons_of_mem _ hx)
theorem qgX (l m : List Int) : ∀ r, crcF r (l ++ m) = crcF (crcF r l) m := by
 induction l with
 | nil => intro r; rfl
 | cons c l ih => intro r; exact ih _
def qcQ (l : List Int) : Int := ((4294967295 ^^^ crcF 4294967295 l : Nat) : Int)
theorem qir (n : Nat) (h : n < 4294967296) : Go.bits .xor .u32 ((n : Int) / 2) ((3988292384 * (Go.bits .and .u32 (n : Int) 1)) % 4294967296) = ((stepN n : Nat) : Int) := by
 have e1 : Go.bits .and .u32 (n : Int) 1 = ((n % 2 : Nat) : Int) := by
  have := u32_and_nat n 1 h (by decide)
  rw [Nat.and_one_is_mod] at this
  exact this
 rw [e1]
 have e2 : (3988292384 * ((n % 2 : Nat) : Int)) % 4294967296 = ((3988292384 * (n % 2) : Nat) : Int) := by
  rcases Nat.mod_two_eq_zero_or_one n with hx | hx <;> rw [hx] <;> decide
 have e3 : (n : Int) / 2 = ((n / 2 : Nat) : Int) := by omega
 rw [e2, e3, u32_xor_nat _ _ (by omega) (by rcases Nat.mod_two_eq_zero_or_one n with hx | hx <;> rw [hx] <;> decide)]
 rfl
def qgy : Nat → Nat → Nat
 | 0, x => x
 | d + 1, x => qgy d (stepN x)
theorem qis (l : List Int) (n : Int) (i : Int) (d : Nat) : ∀ (x : Nat) (j : Nat) (R : Int), j + d = 8 → x < 4294967296 → Ev (fun k => qbs.l0 k ((qgy d x : Nat) : Int) l n (wrap64 (i + 1))) R → Ev (fun k => qbs.l1 k (x : Int) l n i (j : Int)) R := by
 induction d with
 | zero =>
  intro x j R hj _ h
  refine Ev.succ ?_
  simp only [qbs.l1]
  exact Ev.neg (by omega) h
 | succ d ih =>
  intro x j R hj hx h
  refine Ev.succ ?_
  simp only [qbs.l1, qir x hx, qcu (n := j) (by omega)]
  exact Ev.pos (by omega) (ih _ (j + 1) R (by omega) (qd3 hx) h)
theorem qit (l : List Int) (hl : l.length < 9223372036854775807) (rest : List Int) : ∀ (pre : List Int) (r : Nat), l = pre ++ rest → r < 4294967296 → (∀ c, c ∈ rest → isByte c) →
  Ev (fun k => qbs.l0 k (r : Int) l (l.length : Int) ((pre.length : Nat) : Int)) ((4294967295 ^^^ crcF r rest : Nat) : Int) := by
 induction rest with
 | nil =>
  intro pre r h hr _
  refine Ev.succ ?_
  simp only [qbs.l0]
  have hx : 4294967295 ^^^ r < 4294967296 := Nat.xor_lt_two_pow (n := 32) (by decide) hr
  have e1 : Go.bits .xor .u32 IntKind.u32.max (r : Int) = ((4294967295 ^^^ r : Nat) : Int) := u32_xor_nat 4294967295 r (by decide) hr
  exact Ev.neg (by rw [h]; simp) (Ev.is (by rw [e1, qby (by omega) (by omega)]; rfl))
 | cons c m ih =>
  intro pre r h hr hb
  have hc := hb c List.mem_cons_self
  have hlen : pre.length < l.length := by rw [h]; simp
  have hx : rd l ((pre.length : Nat) : Int) = c := by rw [h]; simp [rd, List.getD_eq_getElem?_getD]
  have hi := ih (pre ++ [c]) (step8 (r ^^^ c.toNat)) (by rw [h]; simp) (qhq (qeg hr hc)) fun x hx => hb x (List.mem_cons_of_mem _ hx)
  rw [← qcp] at hi
  have e1 : Go.bits .xor .u32 (r : Int) (c % 4294967296) = ((r ^^^ c.toNat : Nat) : Int) := by
   have h1 := hc.1
   have h2 := hc.2
   have e : c % 4294967296 = ((c.toNat : Nat) : Int) := by omega
   rw [e, u32_xor_nat _ _ hr (by omega)]
  refine Ev.succ ?_
  simp only [qbs.l0, hx, e1]
  refine Ev.pos (by omega) (Ev.pos (by omega) (Ev.pos (by omega) ?_))
  refine qis l _ _ 8 _ 0 _ rfl (qeg hr hc) ?_
  rw [qcu (n := pre.length) (by omega)]
  exact hi
theorem qgY (l : List Int) (hl : l.length < 9223372036854775807) (hb : ∀ c, c ∈ l → isByte c) : Ev (fun k => qbs.f k l) (qcQ l) := by
 unfold qbs.f
 exact qit l hl l [] 4294967295 rfl (by decide) hb
end Go.Proofs.Ytlkdcicpaneakaa.X
namespace Go.Proofs.Ytlkdcicpaneakaa.X
open Go.RowKit Go.Proofs.YtlkdcicpaneakaaW.PrintWords Go.Proofs.YtlkdcicpaneakaaW.PrintLast Go.Proofs.YtlkdcicpaneakaaW.PrintMore
attribute [local go_sem] qaA qaB qaC qaw qax qaH qaI qap qaq qay qaz
set_option linter.unusedVariables false
set_option linter.unusedSimpArgs false
open Go.Shelf
def qd4 : Go.Shelf.Ren := ⟨fun | 166 => 68 | 167 => 71 | 240 => 82 | 276 => 86 | 169 => 69 | n => n, fun | 0 => 0 | 3 => 3 | 4 => 4 | 5 => 5 | 9 => 9 | 20 => 20 | 37 => 59 | 70 => 93 | 72 => 95 | 75 => 97 | 164 => 111 | 127 => 108 | 80 => 88 | n => n, fun n => n⟩
theorem qiu : Go.Proofs.Lays.n167 Try.prog qd4 := {
 mixed := by kernel_rfl
 f167 := Try.func71.trans (congrArg some (by kernel_rfl))
 f240 := Try.func82.trans (congrArg some (by kernel_rfl))
 f276 := Try.func86.trans (congrArg some (by kernel_rfl))
 t0 := Try.underlying0
 a0 := Try.isAgg0
 z0 := Try.sizeOf0
 v0 := Try.zeroValue0
 t4 := Try.underlying4
 a4 := Try.isAgg4
 z4 := Try.sizeOf4
 v4 := Try.zeroValue4
 t5 := Try.underlying5
 a5 := Try.isAgg5
 z5 := Try.sizeOf5
 v5 := Try.zeroValue5
 t9 := Try.underlying9
 a9 := Try.isAgg9
 z9 := Try.sizeOf9
 v9 := Try.zeroValue9
 t20 := Try.underlying20
 a20 := Try.isAgg20
 z20 := Try.sizeOf20
 v20 := Try.zeroValue20
 t37 := Try.underlying59
 a37 := Try.isAgg59
 z37 := Try.sizeOf59
 v37 := Try.zeroValue59
 t70 := Try.underlying93
 a70 := Try.isAgg93
 z70 := Try.sizeOf93
 v70 := Try.zeroValue93
 t72 := Try.underlying95
 a72 := Try.isAgg95
 z72 := Try.sizeOf95
 v72 := Try.zeroValue95
 t75 := Try.underlying97
 a75 := Try.isAgg97
 z75 := Try.sizeOf97
 v75 := Try.zeroValue97
 t164 := Try.underlying111
 a164 := Try.isAgg111
 z164 := Try.sizeOf111
 v164 := Try.zeroValue111 }
theorem qiv : Go.Proofs.Lays.n169 Try.prog qd4 := {
 mixed := by kernel_rfl
 f169 := Try.func69.trans (congrArg some (by kernel_rfl))
 t0 := Try.underlying0
 a0 := Try.isAgg0
 z0 := Try.sizeOf0
 v0 := Try.zeroValue0
 t3 := Try.underlying3
 a3 := Try.isAgg3
 z3 := Try.sizeOf3
 v3 := Try.zeroValue3
 t9 := Try.underlying9
 a9 := Try.isAgg9
 z9 := Try.sizeOf9
 v9 := Try.zeroValue9
 t37 := Try.underlying59
 a37 := Try.isAgg59
 z37 := Try.sizeOf59
 v37 := Try.zeroValue59
 t70 := Try.underlying93
 a70 := Try.isAgg93
 z70 := Try.sizeOf93
 v70 := Try.zeroValue93
 t72 := Try.underlying95
 a72 := Try.isAgg95
 z72 := Try.sizeOf95
 v72 := Try.zeroValue95
 t127 := Try.underlying108
 a127 := Try.isAgg108
 z127 := Try.sizeOf108
 v127 := Try.zeroValue108 }
theorem qiw : Go.Proofs.Lays.n166 Try.prog qd4 := {
 mixed := by kernel_rfl
 f166 := Try.func68.trans (congrArg some (by kernel_rfl))
 f240 := Try.func82.trans (congrArg some (by kernel_rfl))
 f276 := Try.func86.trans (congrArg some (by kernel_rfl))
 t0 := Try.underlying0
 a0 := Try.isAgg0
 z0 := Try.sizeOf0
 v0 := Try.zeroValue0
 t3 := Try.underlying3
 a3 := Try.isAgg3
 z3 := Try.sizeOf3
 v3 := Try.zeroValue3
 t4 := Try.underlying4
 a4 := Try.isAgg4
 z4 := Try.sizeOf4
 v4 := Try.zeroValue4
 t9 := Try.underlying9
 a9 := Try.isAgg9
 z9 := Try.sizeOf9
 v9 := Try.zeroValue9
 t20 := Try.underlying20
 a20 := Try.isAgg20
 z20 := Try.sizeOf20
 v20 := Try.zeroValue20
 t37 := Try.underlying59
 a37 := Try.isAgg59
 z37 := Try.sizeOf59
 v37 := Try.zeroValue59
 t70 := Try.underlying93
 a70 := Try.isAgg93
 z70 := Try.sizeOf93
 v70 := Try.zeroValue93
 t72 := Try.underlying95
 a72 := Try.isAgg95
 z72 := Try.sizeOf95
 v72 := Try.zeroValue95
 t75 := Try.underlying97
 a75 := Try.isAgg97
 z75 := Try.sizeOf97
 v75 := Try.zeroValue97
 t164 := Try.underlying111
 a164 := Try.isAgg111
 z164 := Try.sizeOf111
 v164 := Try.zeroValue111 }
theorem qgZ : Builder.Extra Try.prog qd4 := {
 sizeBuilder := by kernel_rfl
 liesBuilder := by kernel_rfl
 t5 := Try.underlying5
 a5 := Try.isAgg5
 z5 := Try.sizeOf5
 v5 := Try.zeroValue5
 infoByte := by kernel_rfl
 cellsByte := by kernel_rfl
 sizeByte := by kernel_rfl
 neB5 := by decide }
end Go.Proofs.Ytlkdcicpaneakaa.X
namespace Go.Proofs.Ytlkdcicpaneakaa.X
open Go.RowKit Go.Proofs.YtlkdcicpaneakaaW.PrintWords Go.Proofs.YtlkdcicpaneakaaW.PrintLast Go.Proofs.YtlkdcicpaneakaaW.PrintMore
attribute [local go_sem] qaA qaB qaC qaw qax qaH qaI qap qaq qay qaz
set_option linter.unusedVariables false
set_option linter.unusedSimpArgs false
def qaR.l0 : Nat → Int → List Int → Int → Option (ByteArray)
 | 0, _, _, _ => none
 | k + 1, x0, x5, x6 => if x6 ≥ 0 then (if 0 ≤ x6 then (if x6 < (x5.length : Int) then (qaR.l0 k (x0 / 256) (x5.set (x6 : Int).toNat ((x0) % 256)) (wrap64 (x6 - 1))) else (none)) else (none)) else (some (strOfNums x5))
def qaR.f (k : Nat) (a0 : Int) (a1 : Int) : Option (ByteArray) := if 0 ≤ a1 then (if (a1 : Int).toNat ≤ 281474976710656 then (qaR.l0 k a0 (List.replicate (a1 : Int).toNat 0) (wrap64 (a1 - 1))) else (none)) else (none)
theorem qaR.qbA : ∀ k, (∀ y0 y1 y2, LeO (qaR.l0 k y0 y1 y2) (qaR.l0 (k + 1) y0 y1 y2))
 | 0 => fun _ _ _ r h => by simp [qaR.l0] at h
 | k + 1 => by
  have ih0 := qaR.qbA k
  ·intro y0 y1 y2
   unfold qaR.l0
   repeat' first
   | (with_reducible exact ih0 _ _ _)
   | (with_reducible exact LeO.refl _)
   | (with_reducible exact LeO.none _)
   | (with_reducible refine LeO.ite ?_ ?_)
   | (with_reducible refine LeO.bind ?_ (fun _ => ?_))
   | exact ih0 _ _ _
   | exact LeO.none _
   | refine LeO.ite ?_ ?_
   | refine LeO.bind ?_ (fun _ => ?_)
set_option maxHeartbeats 8000000 in
set_option maxRecDepth 100000 in
theorem qaR.calls (k : Nat) (a0 : Int) (a1 : Int) (r : ByteArray) (w : World) (h : qaR.f k a0 a1 = some r) :
  Calls Try.prog 58 #[.int .i64 a0, .int .i64 a1] w fun e w' => e = .returned (.string r) ∧ Below w.heap.size w w' := by
 have HB := Aside0.mk (Below.refl w.heap.size w)
 have H : (if 0 ≤ a1 then (if (a1 : Int).toNat ≤ 281474976710656 then (qaR.l0 k a0 (List.replicate (a1 : Int).toNat 0) (wrap64 (a1 - 1))) else (none)) else (none)) = some r := h
 clear h
 by_cases c3 : 0 ≤ a1
 ·rw [if_pos c3] at H
  have c3b0 := eq_true c3
  have c3b1 : decide (0 ≤ a1) = true := decide_eq_true c3
  clear c3
  by_cases c4 : (a1 : Int).toNat ≤ 281474976710656
  ·rw [if_pos c4] at H
   have c4b0 := eq_true c4
   have c4b1 : decide ((a1 : Int).toNat ≤ 281474976710656) = true := decide_eq_true c4
   clear c4
   obtain ⟨y356, hy356⟩ : ∃ y_ : List Int, y_ = (List.replicate (a1 : Int).toNat 0) := ⟨_, rfl⟩
   replace H : (qaR.l0 k a0 y356 (wrap64 (a1 - 1))) = some r := by first | (rw [hy356]; with_reducible exact H) | (have H2_ := (Option.bind_some _ _).symm.trans H; rw [hy356]; with_reducible exact H2_) | (have H2_ := (Option.bind_some _ _).symm.trans H; with_reducible exact H2_) | with_reducible exact H | (rw [hy356]; exact H) | exact H
   have Ny356 := Aside0.mk hy356
   clear hy356
   have H' := Aside0.mk H
   clear H
   go_enter Try.func58, Try.ntmps58
   go_wp2_with (first | ((with_reducible refine qaM (N := 8) rfl ?_); refine Kd.qh3 (Kd.int .u8) _ 5 rfl (N := 8) rfl 59 _ _ rfl a1 rfl rfl Try.underlying59 (.int .u8 0) 1 info5 rfl (by decide) (by omega) 0 (ok := fun _ => True) (okp := fun _ => True) rfl (fun _ hk => hk) trivial (of_decide_eq_true (by first | (with_reducible assumption) | assumption)) (Nat.le_trans (Nat.mul_le_mul_right _ (of_decide_eq_true (by first | (with_reducible assumption) | assumption) : a1.toNat ≤ 281474976710656)) (by omega)) (Below.refl _ _) (Nat.le_refl _) ?_; intro v357 w5 ho6 hb hg_ hnew_; clear hg_ hnew_; (first | rw [← Ny356.out] at ho6 | (simp only [Int.reduceToNat] at ho6; rw [← Ny356.out] at ho6)); have n0_ := Aside0.mk (Kd.qbh ho6 (qak (by repeat (first | (with_reducible first | exact HB.out | apply qac | apply qaa | apply qab) | exact HB.out)))); have n1_ := Aside0.mk (qag (by repeat (first | (with_reducible first | exact HB.out | apply qac | apply qaa | apply qab) | exact HB.out)) hb); clear HB; have HO358 := n0_; have HB := n1_; clear n0_ n1_; clear hb ho6))
   go_loopg [0, 6] k (fun kq v0 v6 w' => ∃ (x0_1 : Int) (x5_1 : List Int) (x6_1 : Int), v0 = .int .i64 x0_1 ∧ v6 = .int .i64 x6_1 ∧ Aside0 (qaR.l0 kq x0_1 x5_1 x6_1 = some r) ∧ Aside0 (kq ≤ k) ∧ Aside0 (Kd.R (Kd.int .u8) 5 w' w.heap.size (fun _ => True) v357 x5_1) ∧ Aside0 (Below w.heap.size w w'))
   case atStart => exact ⟨(a0), (y356), (wrap64 (a1 - 1)), (by first | rfl | (simp; done) | (simp [*]; done)), (by first | rfl | (simp; done) | (simp [*]; done)), H', ⟨Nat.le_refl _⟩, ⟨by (with_reducible repeat (first | apply Kd.qar | apply Kd.qas | apply Kd.qaD)); exact HO358.out⟩, ⟨by repeat (first | (with_reducible first | exact HB.out | apply qac | apply qaa | apply qab) | exact HB.out)⟩⟩
   case round =>
    clear H'
    try clear p2
    try clear c3
    try clear c3b0
    try clear c3b1
    try clear c4
    try clear c4b0
    try clear c4b1
    try clear c5
    try clear p6
    obtain ⟨x0_1, x5_1, x6_1, rfl, rfl, HA, HK1, HO_5, HB⟩ := hrel
    cases gk with
    | zero => exact absurd HA.out (by simp [qaR.l0])
    | succ k1 =>
     have H := HA.out
     clear HA
     simp only [qaR.l0] at H
     by_cases c7 : x6_1 ≥ 0
     ·rw [if_pos c7] at H
      have c7b0 : decide (0 ≤ x6_1) = true := decide_eq_true c7
      clear c7
      by_cases c8 : 0 ≤ x6_1
      ·rw [if_pos c8] at H
       have c8b0 : decide (0 ≤ x6_1) = true := decide_eq_true c8
       clear c8
       by_cases c9 : x6_1 < (x5_1.length : Int)
       ·rw [if_pos c9] at H
        have c9b0 : decide (x6_1 < (x5_1.length : Int)) = true := decide_eq_true c9
        clear c9
        obtain ⟨y359, hy359⟩ : ∃ y_ : List Int, y_ = (x5_1.set (x6_1 : Int).toNat ((x0_1) % 256)) := ⟨_, rfl⟩
        replace H : (qaR.l0 k1 (x0_1 / 256) y359 (wrap64 (x6_1 - 1))) = some r := by first | (rw [hy359]; with_reducible exact H) | (have H2_ := (Option.bind_some _ _).symm.trans H; rw [hy359]; with_reducible exact H2_) | (have H2_ := (Option.bind_some _ _).symm.trans H; with_reducible exact H2_) | with_reducible exact H | (rw [hy359]; exact H) | exact H
        have Ny359 := Aside0.mk hy359
        clear hy359
        have H' := Aside0.mk H
        clear H
        have p10 : 0 ≤ (x6_1 : Int) := of_decide_eq_true (by first | (with_reducible assumption) | assumption)
        have q10 : (x6_1 : Int) < ((x5_1.length : Int) : Int) := of_decide_eq_true (by first | (with_reducible assumption) | assumption)
        obtain ⟨go10, co10, eo10, gb10, gl10, cl10, HG10⟩ := Kd.qdM HO_5.out (by omega)
        (first | cases eo10 | (injection eo10 with ea_ en_ ec_; (first | subst ea_ | (injection ea_ with ea_; subst ea_)); subst ec_; clear en_))
        have GB10 := Aside0.mk gb10
        have GG10 := Aside0.mk HG10
        clear gb10 gl10 HG10
        obtain ⟨hx10_0, hf10_0⟩ := Kd.R_celln 0 HO_5.out (x6_1 : Int) p10 q10
        replace p10 := eq_true p10
        replace q10 := eq_true q10
        have HP11 := Kd.R_putg HO_5.out (x6_1 : Int) ((x0_1) % 256)
        go_wp2_with (first | ((with_reducible refine qcr (t := 5) (p := 19) rfl ?_); refine qcg (t := 5) (p := 19) (v := ?vo_w12) (w1 := (wr.setCell ⟨go10, (x6_1 : Int).toNat, none⟩ (.int .u8 ((x0_1) % 256)))) ?hg ?ho ?hn ?hr ?_; (case ho => rfl); (case hg => rfl); (case hn => rfl); (case hr => first | (go_simp; done) | (go_simp; rfl)); intro w12 hw; have hg : wr.grownBy w12 (some go10) := (by rw [hw]; exact HP11.2); have hp_ : Kd.R (Kd.int .u8) 5 w12 w.heap.size (fun _ => True) (.slice (some ⟨go10, 0, none⟩) x5_1.length co10) y359 := (by rw [hw, Ny359.out]; exact HP11.1); clear HP11; have n0_ := Aside0.mk (hp_); have n1_ := Aside0.mk ((by rw [hw]; exact qah (HB.out) GB10.out : Below w.heap.size w w12)); clear HO_5 HB; have HO_5 := n0_; have HB := n1_; clear n0_ n1_; clear hg hw hp_))
        go_roundg k1
        case measure => have := HK1.out; omega
        case rel => exact ⟨(x0_1 / 256), (y359), (wrap64 (x6_1 - 1)), (by first | rfl | (simp; done) | (simp [*]; done)), (by first | rfl | (simp; done) | (simp [*]; done)), H', ⟨by have := HK1.out; omega⟩, ⟨by (with_reducible repeat (first | apply Kd.qar | apply Kd.qas | apply Kd.qaD)); exact HO_5.out⟩, ⟨by repeat (first | (with_reducible first | exact HB.out | apply qac | apply qaa | apply qab) | exact HB.out)⟩⟩
       ·rw [if_neg c9] at H
        exact absurd H (by simp)
      ·rw [if_neg c8] at H
       exact absurd H (by simp)
     ·rw [if_neg c7] at H
      have c7b0 : decide (0 ≤ x6_1) = false := decide_eq_false c7
      clear c7
      obtain rfl := Option.some.inj H
      have hcv13 := qfH (P := Try.prog) Try.underlying59 Try.underlying5 Try.underlying9 (Kd.qel HO_5.out)
      go_wp2
      go_ret
      exact ⟨by first | rfl | (simp [qam, qan] <;> rfl) | (simp [*, qam, qan] <;> rfl), by repeat (first | (with_reducible first | exact HB.out | apply qac | apply qaa | apply qab) | exact HB.out)⟩
  ·rw [if_neg c4] at H
   exact absurd H (by simp)
 ·rw [if_neg c3] at H
  exact absurd H (by simp)
set_option maxRecDepth 100000
def numT (n : Int) : ByteArray := strOfNums [n / 256 % 256, n % 256]
theorem qdA (n : Int) : (numT n).size = 2 := rfl
theorem qhC (n : Int) : Ev (fun k => qaR.f k n 2) (numT n) := by
 unfold qaR.f
 refine Ev.pos (by omega) (Ev.pos (by omega) ?_)
 rw [show (2 : Int).toNat = 2 from rfl, show List.replicate 2 (0 : Int) = [0, 0] from rfl, qby (x := 2 - 1) (by omega) (by omega)]
 refine Ev.succ ?_
 simp only [qaR.l0]
 refine Ev.pos (by omega) (Ev.pos (by omega) (Ev.pos (by simp) ?_))
 rw [qby (x := 2 - 1 - 1) (by omega) (by omega)]
 refine Ev.succ ?_
 simp only [qaR.l0]
 refine Ev.pos (by omega) (Ev.pos (by omega) (Ev.pos (by simp) ?_))
 rw [qby (x := 2 - 1 - 1 - 1) (by omega) (by omega)]
 refine Ev.succ ?_
 simp only [qaR.l0]
 exact Ev.neg (by omega) (Ev.is rfl)
def qbB (a : ByteArray) (l : List ByteArray) : ByteArray := l.foldl (fun a t => a ++ (numT (t.size : Int) ++ t)) a
def qbV (l : List ByteArray) : ByteArray := qbB (strOfNums [(l.length : Int) % 256]) l
def qb8.f (l0 : List ByteArray) : Option ByteArray := if l0.length ≤ 1000000 ∧ (∀ t, t ∈ l0 → t.size ≤ 1000000) then some (qbV l0) else none
theorem qf0 (B b : Nat) (bs : List Value) (c : Int) (w : World) (h : Lib.IsBuilder 95 5 B b bs w) (hlen : bs.length + 1 ≤ 140737488355328) (hBw : B ≤ w.heap.size) :
  Calls Try.prog 71 #[.pointer (some ⟨b, 0, none⟩), .int .u8 c] w fun e w' => e = .returned .nilIface ∧ (Lib.BuilderAt 95 5 B b (.pointer (some ⟨b, 0, none⟩)) (bs ++ [.int .u8 c]) w' ∧ Below B w w') := Any.Builder_WriteByte qiu qgZ B b bs c w h hlen hBw
theorem qdn (B b : Nat) (bs : List Value) (s : ByteArray) (w : World) (h : Lib.IsBuilder 95 5 B b bs w) (hlen : bs.length + s.size ≤ 140737488355328) (hBw : B ≤ w.heap.size) :
  Calls Try.prog 68 #[.pointer (some ⟨b, 0, none⟩), .string s] w fun e w' => e = .returned (.tuple #[.int .i64 s.size, .nilIface]) ∧ (Lib.BuilderAt 95 5 B b (.pointer (some ⟨b, 0, none⟩)) (bs ++ Lib.strCells s) w' ∧ Below B w w') := Any.Builder_WriteString qiw qgZ B b bs s w h hlen hBw
theorem qez (B b : Nat) (l : List UInt8) (w : World) (h : Lib.IsBuilder 95 5 B b (Lib.byteCells l) w) (hBw : B ≤ w.heap.size) :
  Calls Try.prog 69 #[.pointer (some ⟨b, 0, none⟩)] w fun e w' => e = .returned (.string ⟨l.toArray⟩) ∧ Below B w w' := Any.Builder_String_any qiv qgZ B b l w h hBw
theorem qdo {T e : TypeId} {B b : Nat} {bs : List Value} {w w' : World} (h : Lib.IsBuilder T e B b bs w) (hb : Below w.heap.size w w') : Lib.IsBuilder T e B b bs w' := by
 have own : ∀ v, w.ownsRow B e 1 v bs.length bs → w'.ownsRow B e 1 v bs.length bs := by
  rintro v ⟨h1, h2⟩
  refine ⟨h1, ?_⟩
  rcases h2 with hn | ⟨g, cap, cur, rfl, hB, hg, rest⟩
  ·exact .inl hn
  ·exact .inr ⟨g, cap, cur, rfl, hB, qao hg hb, rest⟩
 rcases h with ⟨hB, v, hk, ho, hn⟩ | ⟨hB, v, hk, ho, hn⟩
 ·exact .inl ⟨hB, v, qao hk hb, own v ho, hn⟩
 ·exact .inr ⟨hB, v, qao hk hb, own v ho, hn⟩
theorem qdQ (a : ByteArray) (l : List ByteArray) (t : ByteArray) : qbB a (l ++ [t]) = qbB a l ++ (numT (t.size : Int) ++ t) := by
 unfold qbB
 rw [List.foldl_append]
 rfl
theorem qdR (l : List ByteArray) : ∀ a : ByteArray, (∀ t, t ∈ l → t.size ≤ 1000000) → (qbB a l).size ≤ a.size + 1000002 * l.length := by
 induction l with
 | nil => intro a _; exact Nat.le_add_right _ _
 | cons t l ih =>
  intro a h
  have h1 := h t List.mem_cons_self
  have h2 := ih (a ++ (numT (t.size : Int) ++ t)) fun x hx => h x (List.mem_cons_of_mem _ hx)
  have h3 : (a ++ (numT (t.size : Int) ++ t)).size = a.size + (2 + t.size) := by rw [ByteArray.size_append, ByteArray.size_append, qdA]
  rw [h3] at h2
  simp only [List.length_cons]
  show (qbB (a ++ (numT (t.size : Int) ++ t)) l).size ≤ _
  omega
set_option maxHeartbeats 2000000 in
theorem qb8.calls (A0 : Option Addr) (c0 : Nat) (l0 : List ByteArray) (r : ByteArray) (w : World) (hr0 : Kd.C Kd.string w A0 l0.length l0) (hc0 : l0.length ≤ c0) (h : qb8.f l0 = some r) :
  Calls Try.prog 59 #[.slice A0 l0.length c0] w fun e w' => e = .returned (.string r) ∧ Below w.heap.size w w' := by
 unfold qb8.f at h
 by_cases hs : l0.length ≤ 1000000 ∧ (∀ t, t ∈ l0 → t.size ≤ 1000000)
 ·rw [if_pos hs] at h
  obtain rfl := Option.some.inj h
  obtain ⟨hs1, hs2⟩ := hs
  have HS := Aside0.mk hs2
  have HR := Aside0.mk hr0
  clear hr0 h hs2
  have ea : strOfNums [(l0.length : Int) % 256] = strOfNums [(l0.length : Int) % 256] := rfl
  go_enter Try.func59, Try.ntmps59
  go_wp2_with fail
  have hsz : (w.alloc (.cells #[.pointer none, .slice none 0 0] 95 (0, 0))).heap.size = w.heap.size + 1 := by
   show (w.heap.push _).size = _
   rw [Array.size_push]
  refine (qf0 w.heap.size w.heap.size [] ((l0.length : Int) % 256) _ (Lib.fresh_isBuilder 95 5 w) (by simp) (by omega)).mono ?_
  rintro e w1 ⟨rfl, hB1, hb1⟩
  have HB1 := Aside0.mk (show Lib.IsBuilder 95 5 w.heap.size w.heap.size (Lib.byteCells (strOfNums [(l0.length : Int) % 256]).data.toList) w1 from by
   have e : Lib.byteCells (strOfNums [(l0.length : Int) % 256]).data.toList = [] ++ [Value.int .u8 ((l0.length : Int) % 256)] := by
    simp [Lib.byteCells, strOfNums]
    omega
   rw [e]; exact .inr hB1)
  have HB := Aside0.mk (show Below w.heap.size w w1 from ((Below.refl _ w).alloc (Nat.le_refl _) _).trans hb1)
  clear hB1 hb1 hsz
  go_wp2_with fail
  go_loopw [13] (fun v13 wr => ∃ k : Nat, k ≤ l0.length ∧ v13 = .int .i64 k ∧ Aside0 (Lib.IsBuilder 95 5 w.heap.size w.heap.size (Lib.byteCells (qbB (strOfNums [(l0.length : Int) % 256]) (l0.take k)).data.toList) wr) ∧ Aside0 (Below w.heap.size w wr)) (fun v13 _ => l0.length - (intOf v13).toNat)
  case atStart => exact ⟨0, Nat.zero_le _, rfl, ⟨by rw [List.take_zero]; exact HB1.out⟩, HB⟩
  case round =>
   clear HB HB1
   obtain ⟨k, hk, rfl, HI, HB⟩ := hrel
   have hfs := qdR (l0.take k) (strOfNums [(l0.length : Int) % 256]) fun t ht => HS.out t (List.mem_of_mem_take ht)
   rw [List.length_take] at hfs
   have ha1 : (strOfNums [(l0.length : Int) % 256]).size = 1 := rfl
   rw [ha1] at hfs
   by_cases hlt : k < l0.length
   ·have c1 : decide ((k : Int) < (l0.length : Int)) = true := decide_eq_true (by omega)
    have p1 : 0 ≤ (k : Int) := by omega
    have q1 : (k : Int) < (l0.length : Int) := by omega
    obtain ⟨ad, e, hx⟩ := Kd.qgi HR.out (k : Int) p1 q1
    cases e
    have et : rdOf ByteArray.empty l0 (k : Int) = l0[k] := by unfold rdOf; rw [Int.toNat_natCast]; simp [List.getD_eq_getElem?_getD, hlt]
    rw [et, Int.toNat_natCast] at hx
    have htk : l0.take (k + 1) = l0.take k ++ [l0[k]] := List.take_succ_eq_append_getElem hlt
    have hts := HS.out l0[k] (List.getElem_mem hlt)
    replace hx := (HB.out.cell (World.block_lt_of_cell? w _ hx)).trans hx
    clear et
    generalize l0[k] = t at hx htk hts
    obtain ⟨K, hK⟩ := qhC (t.size : Int)
    have hK2 := Aside0.mk (hK K (Nat.le_refl _))
    clear hK
    replace p1 := eq_true p1
    replace q1 := eq_true q1
    go_wp2_with fail
    refine (qaR.calls K _ _ _ _ hK2.out).mono ?_
    rintro e w2 ⟨rfl, hb2⟩
    have hns := qdA (t.size : Int)
    have hov : (9223372036854775807 < (numT (t.size : Int)).size + t.size) = False := eq_false (by omega)
    generalize hN : numT (t.size : Int) = nb at *
    go_wp2_with fail
    refine (qdn w.heap.size w.heap.size _ (nb ++ t) _ (qdo HI.out hb2) (by
     rw [Lib.byteCells_length, ByteArray.size_append, Array.length_toList]
     have : (qbB (strOfNums [(l0.length : Int) % 256]) (l0.take k)).data.size = (qbB (strOfNums [(l0.length : Int) % 256]) (l0.take k)).size := rfl
     omega) (by have := HB.out.size; have := hb2.size; omega)).mono ?_
    rintro e w3 ⟨rfl, hB3, hb3⟩
    have HB3 := Aside0.mk (qag HB.out hb2)
    have HN := Aside0.mk hN
    have HTK := Aside0.mk htk
    clear hN htk hov hns hfs
    go_wp2_with fail
    refine ⟨⟨k + 1, by omega, rfl, ⟨?_⟩, ⟨HB3.out.trans hb3⟩⟩, by simp [intOf]; omega⟩
    rw [HTK.out, qdQ, HN.out]
    have e : Lib.byteCells (qbB (strOfNums [(l0.length : Int) % 256]) (l0.take k) ++ (nb ++ t)).data.toList = Lib.byteCells (qbB (strOfNums [(l0.length : Int) % 256]) (l0.take k)).data.toList ++ Lib.strCells (nb ++ t) := by
     rw [Lib.strCells_eq, ← Lib.byteCells_append, ByteArray.data_append, Array.toList_append]
    rw [e]
    exact .inr hB3
   ·have e : k = l0.length := by omega
    have c1 : decide ((k : Int) < (l0.length : Int)) = false := decide_eq_false (by omega)
    have e9 : l0.take k = l0 := by rw [e, List.take_length]
    rw [e9] at HI
    go_wp2_with fail
    refine (qez w.heap.size w.heap.size _ _ HI.out HB.out.size).mono ?_
    rintro e w2 ⟨rfl, hb2⟩
    go_wp2_with fail
    go_ret
    exact ⟨by first | rfl | simp [qbV], HB.out.trans hb2⟩
 ·rw [if_neg hs] at h
  cases h
end Go.Proofs.Ytlkdcicpaneakaa.X
namespace Go.Proofs.Ytlkdcicpaneakaa.X
open Go.RowKit Go.Proofs.YtlkdcicpaneakaaW.PrintWords Go.Proofs.YtlkdcicpaneakaaW.PrintLast Go.Proofs.YtlkdcicpaneakaaW.PrintMore
attribute [local go_sem] qaA qaB qaC qaw qax qaH qaI qap qaq qay qaz
set_option linter.unusedVariables false
set_option linter.unusedSimpArgs false
theorem qdS (s : ByteArray) : ∀ c, c ∈ bytesOf s → isByte c := by
 intro c hc
 unfold bytesOf at hc
 obtain ⟨b, _, rfl⟩ := List.mem_map.1 hc
 have := b.toNat_lt
 exact ⟨by omega, by omega⟩
def qcJ.f (a0 : ByteArray) : Option Int := if a0.size ≤ 1000000000 then some (qcQ (bytesOf a0)) else none
set_option maxRecDepth 100000 in
set_option maxHeartbeats 2000000 in
theorem qcJ.calls (a0 : ByteArray) (r : Int) (w : World) (h : qcJ.f a0 = some r) :
  Calls Try.prog 57 #[.string a0] w fun e w' => e = .returned (.int .i64 r) ∧ Below w.heap.size w w' := by
 unfold qcJ.f at h
 by_cases hs : a0.size ≤ 1000000000
 ·rw [if_pos hs] at h
  obtain rfl := Option.some.inj h
  clear h
  obtain ⟨K, hK⟩ := qgY (bytesOf a0) (by rw [bytesOf_length]; omega) (qdS a0)
  have hK2 := Aside0.mk (hK K (Nat.le_refl _))
  clear hK
  have kb := fun W => qgL (P := Try.prog) 9 59 5 Try.underlying9 Try.underlying59 Try.underlying5 a0 W
  go_enter Try.func57, Try.ntmps57
  go_wp2_with fail
  have hc : Kd.C (Kd.int .u8) (Lib.bytesWorld w 5 a0) (some ⟨w.heap.size, 0, none⟩) (bytesOf a0).length (bytesOf a0) := by
   rw [bytesOf_length]
   exact Kd.qfK (qgM w 5 a0 (by omega))
  have hl : (bytesOf a0).length ≤ grownCap w a0.size 0 5 := by rw [bytesOf_length]; exact grownCap_ge _ _ _ _
  have hq := qbs.calls K _ _ _ _ _ hc hl hK2.out
  rw [bytesOf_length] at hq
  refine hq.mono ?_
  rintro e w1 ⟨rfl, hd⟩
  go_wp2_with fail
  go_ret
  exact ⟨rfl, (qgN (Below.refl _ w) (Nat.le_refl _) _ a0).trans (by have := hd.below; exact this.mono (by rw [Lib.bytesWorld_size]; omega))⟩
 ·rw [if_neg hs] at h
  cases h
set_option maxRecDepth 100000
def qbD (i : Nat) : Array Value := ((List.range 16).map fun j => Value.int .i64 (if j < i then ((step4 j : Nat) : Int) else 0)).toArray
def itN : Nat → Nat → Nat
 | 0, x => x
 | k + 1, x => stepN (itN k x)
theorem itN_lt (k x : Nat) (h : x < 4294967296) : itN k x < 4294967296 := by
 induction k with
 | zero => exact h
 | succ k ih => exact qd3 ih
theorem qdF (a b : Nat) (ha : a < 9223372036854775808) (hb : b < 9223372036854775808) : bits .xor .i64 (a : Int) (b : Int) = ((a ^^^ b : Nat) : Int) := by
 have h := Nat.xor_lt_two_pow (n := 63) ha hb
 show IntKind.i64.wrap ((BitVec.ofInt 64 (a : Int) ^^^ BitVec.ofInt 64 (b : Int)).toNat : Nat) = _
 rw [BitVec.toNat_xor, ofInt_u64 a (by omega), ofInt_u64 b (by omega), IntKind.wrap_i64]
 omega
theorem qfc (a b : Nat) (ha : a < 9223372036854775808) (hb : b < 9223372036854775808) : bits .and .i64 (a : Int) (b : Int) = ((a &&& b : Nat) : Int) := by
 have h := Nat.and_lt_two_pow a (n := 63) hb
 show IntKind.i64.wrap ((BitVec.ofInt 64 (a : Int) &&& BitVec.ofInt 64 (b : Int)).toNat : Nat) = _
 rw [BitVec.toNat_and, ofInt_u64 a (by omega), ofInt_u64 b (by omega), IntKind.wrap_i64]
 omega
theorem qg0 (n : Nat) (h : n < 4294967296) : bits .xor .i64 ((n : Int) / 2) (wrap64 (bits .and .i64 (n : Int) 1 * 3988292384)) = ((stepN n : Nat) : Int) := by
 have e1 : bits .and .i64 (n : Int) 1 = ((n % 2 : Nat) : Int) := by
  have := qfc n 1 (by omega) (by decide)
  rw [Nat.and_one_is_mod] at this
  exact this
 rw [e1]
 have e2 : wrap64 (((n % 2 : Nat) : Int) * 3988292384) = ((3988292384 * (n % 2) : Nat) : Int) := by
  have h1 : n % 2 ≤ 1 := by omega
  rw [qby (by omega) (by omega)]
  omega
 have e3 : (n : Int) / 2 = ((n / 2 : Nat) : Int) := by omega
 rw [e2, e3, qdF _ _ (by omega) (by rcases Nat.mod_two_eq_zero_or_one n with hx | hx <;> rw [hx] <;> decide)]
 rfl
theorem qdT (i : Nat) (h : i < 16) (j : Nat) : (qbD j)[i]? = some (.int .i64 (if i < j then ((step4 i : Nat) : Int) else 0)) := by
 unfold qbD
 simp [h]
theorem qeh (j : Nat) : (qbD j).size = 16 := by unfold qbD; simp
theorem qhD (i : Nat) (h : i < 16) : (qbD i).setIfInBounds i (.int .i64 ((step4 i : Nat) : Int)) = qbD (i + 1) := by
 refine Array.ext_getElem? fun k => ?_
 rw [Array.getElem?_setIfInBounds, qeh]
 by_cases hk : k < 16
 ·rw [qdT k hk, qdT k hk]
  by_cases e : i = k
  ·subst e; simp [h]
  ·rw [if_neg e]
   by_cases h2 : k < i
   ·simp [h2, show k < i + 1 by omega]
   ·simp [h2, show ¬ k < i + 1 by omega]
 ·rw [if_neg (by omega)]
  rw [Array.getElem?_eq_none (by rw [qeh]; omega), Array.getElem?_eq_none (by rw [qeh]; omega)]
theorem blk_old2 (w : World) (o : Obj) (i : Nat) (h : i < w.heap.size) : (w.alloc o).heap[i]? = w.heap[i]? := by
 show (w.heap.push o)[i]? = _
 rw [Array.getElem?_push, if_neg (by omega)]
theorem qfN (w : World) (A B : Obj) : ((w.alloc A).alloc B).heap[w.heap.size]? = some A ∧ ((w.alloc A).alloc B).heap[w.heap.size + 1]? = some B ∧ Below w.heap.size w ((w.alloc A).alloc B) := by
 have hs : (w.alloc A).heap.size = w.heap.size + 1 := (by show (w.heap.push A).size = _; rw [Array.size_push])
 refine ⟨?_, ?_, ?_⟩
 ·exact (blk_old2 (w.alloc A) B w.heap.size (by omega)).trans (qdw w A)
 ·rw [← hs]; exact qdw (w.alloc A) B
 ·exact ((Below.refl _ w).alloc (Nat.le_refl _) _).alloc (by omega) _
def set16 (w : World) (g : Nat) (y0 y1 y2 y3 y4 y5 y6 y7 y8 y9 y10 y11 y12 y13 y14 y15 : Int) : World := ((((((((((((((((w.setCell ⟨g, 0, none⟩ (.int .i64 y0)).setCell ⟨g, 1, none⟩ (.int .i64 y1)).setCell ⟨g, 2, none⟩ (.int .i64 y2)).setCell ⟨g, 3, none⟩ (.int .i64 y3)).setCell ⟨g, 4, none⟩ (.int .i64 y4)).setCell ⟨g, 5, none⟩ (.int .i64 y5)).setCell ⟨g, 6, none⟩ (.int .i64 y6)).setCell ⟨g, 7, none⟩ (.int .i64 y7)).setCell ⟨g, 8, none⟩ (.int .i64 y8)).setCell ⟨g, 9, none⟩ (.int .i64 y9)).setCell ⟨g, 10, none⟩ (.int .i64 y10)).setCell ⟨g, 11, none⟩ (.int .i64 y11)).setCell ⟨g, 12, none⟩ (.int .i64 y12)).setCell ⟨g, 13, none⟩ (.int .i64 y13)).setCell ⟨g, 14, none⟩ (.int .i64 y14)).setCell ⟨g, 15, none⟩ (.int .i64 y15))
theorem qix {w : World} {g : Nat} {t : TypeId} (h : w.heap[g]? = some (.cells (qbD 0) t (0, 0))) (y0 y1 y2 y3 y4 y5 y6 y7 y8 y9 y10 y11 y12 y13 y14 y15 : Int) : (set16 w g y0 y1 y2 y3 y4 y5 y6 y7 y8 y9 y10 y11 y12 y13 y14 y15).heap[g]? = some (.cells #[.int .i64 y0, .int .i64 y1, .int .i64 y2, .int .i64 y3, .int .i64 y4, .int .i64 y5, .int .i64 y6, .int .i64 y7, .int .i64 y8, .int .i64 y9, .int .i64 y10, .int .i64 y11, .int .i64 y12, .int .i64 y13, .int .i64 y14, .int .i64 y15] t (0, 0)) := by
 have h : w.heap[g]? = some (.cells #[.int .i64 0, .int .i64 0, .int .i64 0, .int .i64 0, .int .i64 0, .int .i64 0, .int .i64 0, .int .i64 0, .int .i64 0, .int .i64 0, .int .i64 0, .int .i64 0, .int .i64 0, .int .i64 0, .int .i64 0, .int .i64 0] t (0, 0)) := h
 exact (qaY (cs' := #[.int .i64 y0, .int .i64 y1, .int .i64 y2, .int .i64 y3, .int .i64 y4, .int .i64 y5, .int .i64 y6, .int .i64 y7, .int .i64 y8, .int .i64 y9, .int .i64 y10, .int .i64 y11, .int .i64 y12, .int .i64 y13, .int .i64 y14, .int .i64 y15]) (qaY (cs' := #[.int .i64 y0, .int .i64 y1, .int .i64 y2, .int .i64 y3, .int .i64 y4, .int .i64 y5, .int .i64 y6, .int .i64 y7, .int .i64 y8, .int .i64 y9, .int .i64 y10, .int .i64 y11, .int .i64 y12, .int .i64 y13, .int .i64 y14, .int .i64 0]) (qaY (cs' := #[.int .i64 y0, .int .i64 y1, .int .i64 y2, .int .i64 y3, .int .i64 y4, .int .i64 y5, .int .i64 y6, .int .i64 y7, .int .i64 y8, .int .i64 y9, .int .i64 y10, .int .i64 y11, .int .i64 y12, .int .i64 y13, .int .i64 0, .int .i64 0]) (qaY (cs' := #[.int .i64 y0, .int .i64 y1, .int .i64 y2, .int .i64 y3, .int .i64 y4, .int .i64 y5, .int .i64 y6, .int .i64 y7, .int .i64 y8, .int .i64 y9, .int .i64 y10, .int .i64 y11, .int .i64 y12, .int .i64 0, .int .i64 0, .int .i64 0]) (qaY (cs' := #[.int .i64 y0, .int .i64 y1, .int .i64 y2, .int .i64 y3, .int .i64 y4, .int .i64 y5, .int .i64 y6, .int .i64 y7, .int .i64 y8, .int .i64 y9, .int .i64 y10, .int .i64 y11, .int .i64 0, .int .i64 0, .int .i64 0, .int .i64 0]) (qaY (cs' := #[.int .i64 y0, .int .i64 y1, .int .i64 y2, .int .i64 y3, .int .i64 y4, .int .i64 y5, .int .i64 y6, .int .i64 y7, .int .i64 y8, .int .i64 y9, .int .i64 y10, .int .i64 0, .int .i64 0, .int .i64 0, .int .i64 0, .int .i64 0]) (qaY (cs' := #[.int .i64 y0, .int .i64 y1, .int .i64 y2, .int .i64 y3, .int .i64 y4, .int .i64 y5, .int .i64 y6, .int .i64 y7, .int .i64 y8, .int .i64 y9, .int .i64 0, .int .i64 0, .int .i64 0, .int .i64 0, .int .i64 0, .int .i64 0]) (qaY (cs' := #[.int .i64 y0, .int .i64 y1, .int .i64 y2, .int .i64 y3, .int .i64 y4, .int .i64 y5, .int .i64 y6, .int .i64 y7, .int .i64 y8, .int .i64 0, .int .i64 0, .int .i64 0, .int .i64 0, .int .i64 0, .int .i64 0, .int .i64 0]) (qaY (cs' := #[.int .i64 y0, .int .i64 y1, .int .i64 y2, .int .i64 y3, .int .i64 y4, .int .i64 y5, .int .i64 y6, .int .i64 y7, .int .i64 0, .int .i64 0, .int .i64 0, .int .i64 0, .int .i64 0, .int .i64 0, .int .i64 0, .int .i64 0]) (qaY (cs' := #[.int .i64 y0, .int .i64 y1, .int .i64 y2, .int .i64 y3, .int .i64 y4, .int .i64 y5, .int .i64 y6, .int .i64 0, .int .i64 0, .int .i64 0, .int .i64 0, .int .i64 0, .int .i64 0, .int .i64 0, .int .i64 0, .int .i64 0]) (qaY (cs' := #[.int .i64 y0, .int .i64 y1, .int .i64 y2, .int .i64 y3, .int .i64 y4, .int .i64 y5, .int .i64 0, .int .i64 0, .int .i64 0, .int .i64 0, .int .i64 0, .int .i64 0, .int .i64 0, .int .i64 0, .int .i64 0, .int .i64 0]) (qaY (cs' := #[.int .i64 y0, .int .i64 y1, .int .i64 y2, .int .i64 y3, .int .i64 y4, .int .i64 0, .int .i64 0, .int .i64 0, .int .i64 0, .int .i64 0, .int .i64 0, .int .i64 0, .int .i64 0, .int .i64 0, .int .i64 0, .int .i64 0]) (qaY (cs' := #[.int .i64 y0, .int .i64 y1, .int .i64 y2, .int .i64 y3, .int .i64 0, .int .i64 0, .int .i64 0, .int .i64 0, .int .i64 0, .int .i64 0, .int .i64 0, .int .i64 0, .int .i64 0, .int .i64 0, .int .i64 0, .int .i64 0]) (qaY (cs' := #[.int .i64 y0, .int .i64 y1, .int .i64 y2, .int .i64 0, .int .i64 0, .int .i64 0, .int .i64 0, .int .i64 0, .int .i64 0, .int .i64 0, .int .i64 0, .int .i64 0, .int .i64 0, .int .i64 0, .int .i64 0, .int .i64 0]) (qaY (cs' := #[.int .i64 y0, .int .i64 y1, .int .i64 0, .int .i64 0, .int .i64 0, .int .i64 0, .int .i64 0, .int .i64 0, .int .i64 0, .int .i64 0, .int .i64 0, .int .i64 0, .int .i64 0, .int .i64 0, .int .i64 0, .int .i64 0]) (qaY (cs' := #[.int .i64 y0, .int .i64 0, .int .i64 0, .int .i64 0, .int .i64 0, .int .i64 0, .int .i64 0, .int .i64 0, .int .i64 0, .int .i64 0, .int .i64 0, .int .i64 0, .int .i64 0, .int .i64 0, .int .i64 0, .int .i64 0]) h 0 _ rfl) 1 _ rfl) 2 _ rfl) 3 _ rfl) 4 _ rfl) 5 _ rfl) 6 _ rfl) 7 _ rfl) 8 _ rfl) 9 _ rfl) 10 _ rfl) 11 _ rfl) 12 _ rfl) 13 _ rfl) 14 _ rfl) 15 _ rfl)
theorem qg1 {w a : World} {g B : Nat} (h : Below B a w) (hg : B ≤ g) (y0 y1 y2 y3 y4 y5 y6 y7 y8 y9 y10 y11 y12 y13 y14 y15 : Int) : Below B a (set16 w g y0 y1 y2 y3 y4 y5 y6 y7 y8 y9 y10 y11 y12 y13 y14 y15) := ((((((((((((((((h.setCell (p := ⟨g, 0, none⟩) hg _).setCell (p := ⟨g, 1, none⟩) hg _).setCell (p := ⟨g, 2, none⟩) hg _).setCell (p := ⟨g, 3, none⟩) hg _).setCell (p := ⟨g, 4, none⟩) hg _).setCell (p := ⟨g, 5, none⟩) hg _).setCell (p := ⟨g, 6, none⟩) hg _).setCell (p := ⟨g, 7, none⟩) hg _).setCell (p := ⟨g, 8, none⟩) hg _).setCell (p := ⟨g, 9, none⟩) hg _).setCell (p := ⟨g, 10, none⟩) hg _).setCell (p := ⟨g, 11, none⟩) hg _).setCell (p := ⟨g, 12, none⟩) hg _).setCell (p := ⟨g, 13, none⟩) hg _).setCell (p := ⟨g, 14, none⟩) hg _).setCell (p := ⟨g, 15, none⟩) hg _)
def tabZ (j : Nat) : Int := ((step4 j : Nat) : Int)
set_option maxHeartbeats 2000000 in
theorem qfC (w : World) : Calls Try.prog 50 #[] w fun e w' => e = .returned (.agg (qbD 16)) ∧ Below w.heap.size w w' := by
 go_enter Try.func50, Try.ntmps50
 go_wp2_with fail
 go_loopw [2] (fun v2 wr => ∃ i : Nat, i ≤ 16 ∧ v2 = .int .i64 i ∧ Aside0 (wr.heap[w.heap.size]? = some (.cells (qbD 0) 80 (0, 0))) ∧ Aside0 (wr.heap[w.heap.size + 1]? = some (.cells (qbD i) 80 (0, 0))) ∧ Aside0 (Below w.heap.size w wr)) (fun v2 _ => 16 - (intOf v2).toNat)
 case atStart =>
  have h := qfN w (.cells (qbD 0) 80 (0, 0)) (.cells (qbD 0) 80 (0, 0))
  exact ⟨0, by omega, rfl, ⟨h.1⟩, ⟨h.2.1⟩, ⟨h.2.2⟩⟩
 case round =>
  obtain ⟨i, hi, rfl, HR, HT, HB⟩ := hrel
  by_cases hlt : i < 16
  ·have c0 : decide ((i : Int) < 16) = true := decide_eq_true (by omega)
   go_wp2_with fail
   go_loopw [3, 4] (fun v3 v4 w2 => ∃ k : Nat, k ≤ 4 ∧ v3 = .int .i64 ((itN k i : Nat) : Int) ∧ v4 = .int .i64 k ∧ w2 = wr) (fun v3 v4 _ => 4 - (intOf v4).toNat)
   case atStart => exact ⟨0, by omega, rfl, rfl, rfl⟩
   case round =>
    obtain ⟨k, hk, rfl, rfl, rfl⟩ := hrel
    have hx := itN_lt k i (by omega)
    by_cases hk2 : k < 4
    ·have c1 : decide ((k : Int) < 4) = true := decide_eq_true (by omega)
     generalize hX : itN k i = x at *
     go_wp2_with fail
     refine ⟨⟨k + 1, by omega, ?_, ?_, trivial⟩, ?_⟩
     ·rw [qg0 x hx, ← hX]; rfl
     ·rfl
     ·simp [intOf]; omega
    ·have e : k = 4 := by omega
     subst e
     have hs : itN 4 i = step4 i := rfl
     rw [hs] at *
     have hcell : wr.cell? ⟨w.heap.size + 1, i, none⟩ = some (.int .i64 0) := (qad HT.out i).trans (by rw [qdT i hlt]; simp)
     have hfz := qae HT.out i
     have p1 : (0 ≤ (i : Int)) = True := eq_true (by omega)
     have p2 : ((i : Int) < 16) = True := eq_true (by omega)
     generalize hX : step4 i = x at *
     go_wp2_with fail
     exact ⟨⟨i + 1, by omega, rfl, ⟨qbH HR.out (by show w.heap.size ≠ w.heap.size + 1; omega) _⟩, ⟨qaY HT.out i _ (by rw [← hX]; exact qhD i hlt)⟩, ⟨HB.out.setCell (p := ⟨w.heap.size + 1, i, none⟩) (by show w.heap.size ≤ w.heap.size + 1; omega) _⟩⟩, by simp [intOf]; omega⟩
  ·have e : i = 16 := by omega
   subst e
   have hc0 := (qad HT.out 0).trans (show (qbD 16)[0]? = some (.int .i64 (tabZ 0)) from rfl)
   have hc1 := (qad HT.out 1).trans (show (qbD 16)[1]? = some (.int .i64 (tabZ 1)) from rfl)
   have hc2 := (qad HT.out 2).trans (show (qbD 16)[2]? = some (.int .i64 (tabZ 2)) from rfl)
   have hc3 := (qad HT.out 3).trans (show (qbD 16)[3]? = some (.int .i64 (tabZ 3)) from rfl)
   have hc4 := (qad HT.out 4).trans (show (qbD 16)[4]? = some (.int .i64 (tabZ 4)) from rfl)
   have hc5 := (qad HT.out 5).trans (show (qbD 16)[5]? = some (.int .i64 (tabZ 5)) from rfl)
   have hc6 := (qad HT.out 6).trans (show (qbD 16)[6]? = some (.int .i64 (tabZ 6)) from rfl)
   have hc7 := (qad HT.out 7).trans (show (qbD 16)[7]? = some (.int .i64 (tabZ 7)) from rfl)
   have hc8 := (qad HT.out 8).trans (show (qbD 16)[8]? = some (.int .i64 (tabZ 8)) from rfl)
   have hc9 := (qad HT.out 9).trans (show (qbD 16)[9]? = some (.int .i64 (tabZ 9)) from rfl)
   have hc10 := (qad HT.out 10).trans (show (qbD 16)[10]? = some (.int .i64 (tabZ 10)) from rfl)
   have hc11 := (qad HT.out 11).trans (show (qbD 16)[11]? = some (.int .i64 (tabZ 11)) from rfl)
   have hc12 := (qad HT.out 12).trans (show (qbD 16)[12]? = some (.int .i64 (tabZ 12)) from rfl)
   have hc13 := (qad HT.out 13).trans (show (qbD 16)[13]? = some (.int .i64 (tabZ 13)) from rfl)
   have hc14 := (qad HT.out 14).trans (show (qbD 16)[14]? = some (.int .i64 (tabZ 14)) from rfl)
   have hc15 := (qad HT.out 15).trans (show (qbD 16)[15]? = some (.int .i64 (tabZ 15)) from rfl)
   have hf0 := qae HR.out 0
   have hf1 := qae HR.out 1
   have hf2 := qae HR.out 2
   have hf3 := qae HR.out 3
   have hf4 := qae HR.out 4
   have hf5 := qae HR.out 5
   have hf6 := qae HR.out 6
   have hf7 := qae HR.out 7
   have hf8 := qae HR.out 8
   have hf9 := qae HR.out 9
   have hf10 := qae HR.out 10
   have hf11 := qae HR.out 11
   have hf12 := qae HR.out 12
   have hf13 := qae HR.out 13
   have hf14 := qae HR.out 14
   have hf15 := qae HR.out 15
   have hd0 := (qad HR.out 0).trans (show (qbD 0)[0]? = some (.int .i64 0) from rfl)
   have hd1 := (qad HR.out 1).trans (show (qbD 0)[1]? = some (.int .i64 0) from rfl)
   have hd2 := (qad HR.out 2).trans (show (qbD 0)[2]? = some (.int .i64 0) from rfl)
   have hd3 := (qad HR.out 3).trans (show (qbD 0)[3]? = some (.int .i64 0) from rfl)
   have hd4 := (qad HR.out 4).trans (show (qbD 0)[4]? = some (.int .i64 0) from rfl)
   have hd5 := (qad HR.out 5).trans (show (qbD 0)[5]? = some (.int .i64 0) from rfl)
   have hd6 := (qad HR.out 6).trans (show (qbD 0)[6]? = some (.int .i64 0) from rfl)
   have hd7 := (qad HR.out 7).trans (show (qbD 0)[7]? = some (.int .i64 0) from rfl)
   have hd8 := (qad HR.out 8).trans (show (qbD 0)[8]? = some (.int .i64 0) from rfl)
   have hd9 := (qad HR.out 9).trans (show (qbD 0)[9]? = some (.int .i64 0) from rfl)
   have hd10 := (qad HR.out 10).trans (show (qbD 0)[10]? = some (.int .i64 0) from rfl)
   have hd11 := (qad HR.out 11).trans (show (qbD 0)[11]? = some (.int .i64 0) from rfl)
   have hd12 := (qad HR.out 12).trans (show (qbD 0)[12]? = some (.int .i64 0) from rfl)
   have hd13 := (qad HR.out 13).trans (show (qbD 0)[13]? = some (.int .i64 0) from rfl)
   have hd14 := (qad HR.out 14).trans (show (qbD 0)[14]? = some (.int .i64 0) from rfl)
   have hd15 := (qad HR.out 15).trans (show (qbD 0)[15]? = some (.int .i64 0) from rfl)
   have hy : qbD 16 = #[.int .i64 (tabZ 0), .int .i64 (tabZ 1), .int .i64 (tabZ 2), .int .i64 (tabZ 3), .int .i64 (tabZ 4), .int .i64 (tabZ 5), .int .i64 (tabZ 6), .int .i64 (tabZ 7), .int .i64 (tabZ 8), .int .i64 (tabZ 9), .int .i64 (tabZ 10), .int .i64 (tabZ 11), .int .i64 (tabZ 12), .int .i64 (tabZ 13), .int .i64 (tabZ 14), .int .i64 (tabZ 15)] := rfl
   generalize tabZ 0 = y0 at *
   generalize tabZ 1 = y1 at *
   generalize tabZ 2 = y2 at *
   generalize tabZ 3 = y3 at *
   generalize tabZ 4 = y4 at *
   generalize tabZ 5 = y5 at *
   generalize tabZ 6 = y6 at *
   generalize tabZ 7 = y7 at *
   generalize tabZ 8 = y8 at *
   generalize tabZ 9 = y9 at *
   generalize tabZ 10 = y10 at *
   generalize tabZ 11 = y11 at *
   generalize tabZ 12 = y12 at *
   generalize tabZ 13 = y13 at *
   generalize tabZ 14 = y14 at *
   generalize tabZ 15 = y15 at *
   have HY := Aside0.mk hy
   clear hy
   go_wp2_with fail
   change bodyPost _ _ _ _ _ (set16 wr w.heap.size y0 y1 y2 y3 y4 y5 y6 y7 y8 y9 y10 y11 y12 y13 y14 y15)
   have BF := Aside0.mk (qix HR.out y0 y1 y2 y3 y4 y5 y6 y7 y8 y9 y10 y11 y12 y13 y14 y15)
   have HB2 := Aside0.mk (qg1 HB.out (Nat.le_refl _) y0 y1 y2 y3 y4 y5 y6 y7 y8 y9 y10 y11 y12 y13 y14 y15)
   generalize set16 wr w.heap.size y0 y1 y2 y3 y4 y5 y6 y7 y8 y9 y10 y11 y12 y13 y14 y15 = W at BF HB2 ⊢
   refine bodyPost_ret (results_cell_row rfl _ _ w.heap.size 80 #[.int .i64 y0, .int .i64 y1, .int .i64 y2, .int .i64 y3, .int .i64 y4, .int .i64 y5, .int .i64 y6, .int .i64 y7, .int .i64 y8, .int .i64 y9, .int .i64 y10, .int .i64 y11, .int .i64 y12, .int .i64 y13, .int .i64 y14, .int .i64 y15] (0, 0) _ rfl BF.out Try.underlying80 rfl (by kernel_rfl)) rfl ?_
   exact ⟨by rw [HY.out], HB2.out⟩
end Go.Proofs.Ytlkdcicpaneakaa.X
namespace Go.Proofs.Ytlkdcicpaneakaa.X
open Go.RowKit Go.Proofs.YtlkdcicpaneakaaW.PrintWords Go.Proofs.YtlkdcicpaneakaaW.PrintLast Go.Proofs.YtlkdcicpaneakaaW.PrintMore
attribute [local go_sem] qaA qaB qaC qaw qax qaH qaI qap qaq qay qaz
set_option linter.unusedVariables false
set_option linter.unusedSimpArgs false
def qca (a : ByteArray) (l : List S48) : ByteArray := l.foldl (fun a p => a ++ qbV [p.f0, p.f1]) a
theorem qd7 (a : ByteArray) (l : List S48) (p : S48) : qca a (l ++ [p]) = qca a l ++ qbV [p.f0, p.f1] := by
 unfold qca
 rw [List.foldl_append]
 rfl
def qc7 (l : List S48) : Prop := l.length ≤ 1000 ∧ ∀ p, p ∈ l → p.f0.size ≤ 1000 ∧ p.f1.size ≤ 1000
instance (l : List S48) : Decidable (qc7 l) := by unfold qc7; infer_instance
theorem qdp (a b : ByteArray) (ha : a.size ≤ 1000) (hb : b.size ≤ 1000) : (qbV [a, b]).size ≤ 2005 := by
 show (qbB (strOfNums [2]) [a, b]).size ≤ 2005
 simp only [qbB, List.foldl_cons, List.foldl_nil, ByteArray.size_append, qdA]
 have : (strOfNums [2]).size = 1 := rfl
 omega
theorem qd8 (l : List S48) : ∀ a : ByteArray, (∀ p, p ∈ l → p.f0.size ≤ 1000 ∧ p.f1.size ≤ 1000) → (qca a l).size ≤ a.size + 2005 * l.length := by
 induction l with
 | nil => intro a _; exact Nat.le_add_right _ _
 | cons p l ih =>
  intro a h
  have h1 := h p List.mem_cons_self
  have h2 := ih (a ++ qbV [p.f0, p.f1]) fun x hx => h x (List.mem_cons_of_mem _ hx)
  have h3 := qdp p.f0 p.f1 h1.1 h1.2
  rw [ByteArray.size_append] at h2
  simp only [List.length_cons]
  show (qca (a ++ qbV [p.f0, p.f1]) l).size ≤ _
  omega
def qb2.f (l0 : List S48) : Option Int := if qc7 l0 then some (qcQ (bytesOf (qca ByteArray.empty l0))) else none
set_option maxRecDepth 100000 in
set_option maxHeartbeats 4000000 in
theorem qb2.calls (A0 : Option Addr) (c0 : Nat) (l0 : List S48) (r : Int) (w : World) (hr0 : Kd.C k48 w A0 l0.length l0) (hc0 : l0.length ≤ c0) (h : qb2.f l0 = some r) :
  Calls Try.prog 56 #[.slice A0 l0.length c0] w fun e w' => e = .returned (.int .i64 r) ∧ Below w.heap.size w w' := by
 unfold qb2.f at h
 by_cases hs : qc7 l0
 ·rw [if_pos hs] at h
  obtain rfl := Option.some.inj h
  obtain ⟨hs1, hs2⟩ := hs
  have hu := Try.underlying48
  have HS := Aside0.mk hs2
  have HR := Aside0.mk hr0
  clear hr0 h hs2
  go_enter Try.func56, Try.ntmps56
  go_wp2_with fail
  have HB1 := Aside0.mk (Lib.fresh_isBuilder 95 5 w)
  have HB := Aside0.mk (show Below w.heap.size w (w.alloc (.cells #[.pointer none, .slice none 0 0] 95 (0, 0))) from (Below.refl _ w).alloc (Nat.le_refl _) _)
  go_loopw [9] (fun v9 wr => ∃ k : Nat, k ≤ l0.length ∧ v9 = .int .i64 k ∧ Aside0 (Lib.IsBuilder 95 5 w.heap.size w.heap.size (Lib.byteCells (qca ByteArray.empty (l0.take k)).data.toList) wr) ∧ Aside0 (Below w.heap.size w wr)) (fun v9 _ => l0.length - (intOf v9).toNat)
  case atStart => exact ⟨0, Nat.zero_le _, rfl, ⟨by rw [List.take_zero]; exact HB1.out⟩, HB⟩
  case round =>
   clear HB HB1
   obtain ⟨k, hk, rfl, HI, HB⟩ := hrel
   have hfs := qd8 (l0.take k) ByteArray.empty fun t ht => HS.out t (List.mem_of_mem_take ht)
   rw [List.length_take] at hfs
   have ha1 : ByteArray.empty.size = 0 := rfl
   rw [ha1] at hfs
   by_cases hlt : k < l0.length
   ·have c1 : decide ((k : Int) < (l0.length : Int)) = true := decide_eq_true (by omega)
    have p1 : 0 ≤ (k : Int) := by omega
    have q1 : (k : Int) < (l0.length : Int) := by omega
    obtain ⟨ad, e, hx0, hx1⟩ := qcz HR.out (k : Int) p1 q1
    cases e
    have et : qaK l0 (k : Int) = l0[k] := by unfold qaK; rw [Int.toNat_natCast]; simp [List.getD_eq_getElem?_getD, hlt]
    rw [et, Int.toNat_natCast] at hx0 hx1
    have htk : l0.take (k + 1) = l0.take k ++ [l0[k]] := List.take_succ_eq_append_getElem hlt
    have hts := HS.out l0[k] (List.getElem_mem hlt)
    replace hx0 := (HB.out.cell (World.block_lt_of_cell? w _ hx0)).trans hx0
    replace hx1 := (HB.out.cell (World.block_lt_of_cell? w _ hx1)).trans hx1
    clear et
    generalize l0[k] = t at hx0 hx1 htk hts
    replace p1 := eq_true p1
    replace q1 := eq_true q1
    have HTK := Aside0.mk htk
    clear htk
    go_wp2_with fail
    obtain ⟨_, h2, hb0⟩ := qfN wr (.cells #[.string t.f0, .string t.f1] 48) (.cells #[.string t.f0, .string t.f1] 9)
    have hC : Kd.C Kd.string ((wr.alloc (.cells #[.string t.f0, .string t.f1] 48)).alloc (.cells #[.string t.f0, .string t.f1] 9)) (some ⟨wr.heap.size + 1, 0, none⟩) [t.f0, t.f1].length [t.f0, t.f1] := Kd.qfK (d := ByteArray.empty) ⟨rfl, by show 2 ≤ _; omega, fun _ => ⟨_, rfl, fun j hj => by
     rw [add_plain, qad h2 j]
     match j, hj with
     | 0, _ => rfl
     | 1, _ => rfl
     | j + 2, hj => exact absurd hj (by show ¬ j + 2 < 2; omega)⟩⟩
    have hf2 : qb8.f [t.f0, t.f1] = some (qbV [t.f0, t.f1]) := by
     unfold qb8.f
     rw [if_pos ⟨by show 2 ≤ _; omega, fun x hx => by
      rcases List.mem_cons.1 hx with rfl | hx
      ·omega
      ·rcases List.mem_cons.1 hx with rfl | hx
       ·omega
       ·cases hx⟩]
    refine (qb8.calls _ 2 [t.f0, t.f1] _ _ hC (Nat.le_refl _) hf2).mono ?_
    rintro e w2 ⟨rfl, hb2⟩
    have hbw : Below wr.heap.size wr w2 := qag hb0 hb2
    have hsz2 := qdp t.f0 t.f1 hts.1 hts.2
    have HBW := Aside0.mk hbw
    clear h2 hb0 hC hf2 hb2 hbw
    generalize hN : qbV [t.f0, t.f1] = nb at *
    have HN := Aside0.mk hN
    clear hN
    go_wp2_with fail
    refine (qdn w.heap.size w.heap.size _ nb _ (qdo HI.out HBW.out) (by
     rw [Lib.byteCells_length, Array.length_toList]
     have : (qca ByteArray.empty (l0.take k)).data.size = (qca ByteArray.empty (l0.take k)).size := rfl
     omega) (by have := HB.out.size; have := HBW.out.size; omega)).mono ?_
    rintro e w3 ⟨rfl, hB3, hb3⟩
    have HB3 := Aside0.mk (qag HB.out HBW.out)
    go_wp2_with fail
    refine ⟨⟨k + 1, by omega, rfl, ⟨?_⟩, ⟨HB3.out.trans hb3⟩⟩, by simp [intOf]; omega⟩
    rw [HTK.out, qd7, HN.out]
    have e : Lib.byteCells (qca ByteArray.empty (l0.take k) ++ nb).data.toList = Lib.byteCells (qca ByteArray.empty (l0.take k)).data.toList ++ Lib.strCells nb := by
     rw [Lib.strCells_eq, ← Lib.byteCells_append, ByteArray.data_append, Array.toList_append]
    rw [e]
    exact .inr hB3
   ·have e : k = l0.length := by omega
    have c1 : decide ((k : Int) < (l0.length : Int)) = false := decide_eq_false (by omega)
    have e9 : l0.take k = l0 := by rw [e, List.take_length]
    rw [e9] at HI hfs
    go_wp2_with fail
    refine (qez w.heap.size w.heap.size _ _ HI.out HB.out.size).mono ?_
    rintro e w2 ⟨rfl, hb2⟩
    go_wp2_with fail
    refine (qcJ.calls _ _ _ (show qcJ.f _ = some (qcQ (bytesOf (qca ByteArray.empty l0))) from ?_)).mono ?_
    ·unfold qcJ.f
     rw [if_pos (by show (qca ByteArray.empty l0).size ≤ _; omega)]
    rintro e w3 ⟨rfl, hb3⟩
    go_wp2_with fail
    go_ret
    exact ⟨rfl, qag (HB.out.trans hb2) hb3⟩
 ·rw [if_neg hs] at h
  cases h
end Go.Proofs.Ytlkdcicpaneakaa.X
