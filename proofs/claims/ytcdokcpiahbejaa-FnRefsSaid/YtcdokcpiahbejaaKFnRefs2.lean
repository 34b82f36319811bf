import Derived.Test.YtcdokcpiahbejaaKFnRefs1
import Derived.Test.YtcdokcpiahbejaaProg
import Derived.Deep.Slices
import Derived.OpenShut
import Derived.ChangeArms
import Derived.DataReads
import Derived.ProofKit
import Derived.Lib.Bytealg
import Derived.Laws.Externs
import Derived.Laws.Strings
import Derived.Sort.Walk0
namespace Go.Proofs.Ytcdokcpiahbejaa.X
open Go.RowKit Go.Proofs.YtcdokcpiahbejaaW.PrintWords Go.Proofs.YtcdokcpiahbejaaW.PrintLast Go.Proofs.YtcdokcpiahbejaaW.PrintMore
attribute [local go_sem] qat qau qaJ qaK qam qan qav qaw
set_option linter.unusedVariables false
set_option linter.unusedSimpArgs false
theorem qeV (a b : List UInt8) : (Op.bytesLess a b || a == b) = !(Op.bytesLess b a) := by
 induction a generalizing b with
 | nil => cases b <;> rfl
 | cons x a ih =>
  cases b with
  | nil => rfl
  | cons y b =>
   have h := ih b
   simp only [Op.bytesLess, List.cons_beq_cons]
   by_cases h1 : x < y
   ·have h2 : ¬ y < x := by simp [UInt8.lt_iff_toNat_lt] at *; omega
    have h3 : (y == x) = false := by simp [UInt8.lt_iff_toNat_lt, ← UInt8.toNat_inj] at *; omega
    simp [h1, h2, h3]
   ·by_cases h2 : y < x
    ·have h3 : (x == y) = false := by simp [UInt8.lt_iff_toNat_lt, ← UInt8.toNat_inj] at *; omega
     simp [h1, h2, h3]
    ·have h3 : x = y := by simp [UInt8.lt_iff_toNat_lt, ← UInt8.toNat_inj] at *; omega
     subst h3
     simpa [h1] using h
theorem qax (t : TypeId) (a b : ByteArray) : binOp .geq t (.string a) (.string b) = pure (.bool !(Op.bytesLess a.toList b.toList)) := by simp [binOp, Op.stringOp]
theorem qay (t : TypeId) (a b : ByteArray) : binOp .leq t (.string a) (.string b) = pure (.bool !(Op.bytesLess b.toList a.toList)) := by rw [← qeV]; simp [binOp, Op.stringOp]
theorem qaz (t : TypeId) (a b : ByteArray) : binOp .gtr t (.string a) (.string b) = pure (.bool (Op.bytesLess b.toList a.toList)) := by rw [show Op.bytesLess b.toList a.toList = !(Op.bytesLess a.toList b.toList || a.toList == b.toList) from by rw [qeV]; simp]; simp [binOp, Op.stringOp]
def errW : Option Int → Value
 | none => .nilIface
 | some c => .iface 0 (.int .i64 c)
theorem qb8 : errW none = .nilIface := rfl
theorem qb9 (c : Int) : errW (some c) = .iface 0 (.int .i64 c) := rfl
theorem info3 : (Try.prog.info? 3).map (fun i => (i.zero, i.size, i.bytes)) = some (some (.int .i64 0), 1, 8) := by kernel_rfl
theorem info4 : (Try.prog.info? 4).map (fun i => (i.zero, i.size, i.bytes)) = some (some (.bool false), 1, 1) := by kernel_rfl
theorem info9 : (Try.prog.info? 9).map (fun i => (i.zero, i.size, i.bytes)) = some (some (.string ⟨#[]⟩), 1, 16) := by kernel_rfl
theorem info75 : (Try.prog.info? 75).map (fun i => (i.zero, i.size, i.bytes)) = some (some (.agg #[(.bool false), (.slice none 0 0), (.slice none 0 0), (.slice none 0 0)]), 4, 80) := by kernel_rfl
theorem qcK : (Try.prog.info? 77).map (fun i => (i.zero, i.size, i.bytes)) = some (some (.agg #[(.string ⟨#[]⟩), (.string ⟨#[]⟩)]), 2, 32) := by kernel_rfl
theorem qd1 : (Try.prog.info? 118).map (fun i => (i.zero, i.size, i.bytes)) = some (some (.agg #[(.string ⟨#[]⟩), (.int .i64 0)]), 2, 24) := by kernel_rfl
structure S77 where
 f0 : ByteArray
 f1 : ByteArray
def z77 : S77 := ⟨(⟨#[]⟩ : ByteArray), (⟨#[]⟩ : ByteArray)⟩
def k77 : Kd S77 := Kd.iso (Kd.pair Kd.string Kd.string) (fun x : S77 => (x.f0, x.f1))
theorem k77_open {w : World} {x : S77} {cs : List Value} (h : k77.K w x cs) : cs = [.string x.f0, .string x.f1] := by
 obtain ⟨_, _, rfl, rfl, rfl⟩ := h
 exact rfl
theorem qfy (w : World) (base : Nat) (ok : Nat → Prop) (x : S77)  : k77.M w base ok x [.string x.f0, .string x.f1] := ⟨[.string x.f0], [.string x.f1], rfl, rfl, rfl⟩
def qaq (xs : List S77) (i : Int) : S77 := xs.getD i.toNat z77
theorem qce {w : World} {A : Option Addr} {n : Nat} {xs : List S77} (h : Kd.C k77 w A n xs) (i : Int) (h0 : 0 ≤ i) (h1 : i < n) : ∃ ad , A = some ad ∧ w.cell? (ad.add (i.toNat * 2)) = some (.string (qaq xs i).f0) ∧ w.cell? ⟨(ad.add (i.toNat * 2)).block, (ad.add (i.toNat * 2)).off + 1, none⟩ = some (.string (qaq xs i).f1) := by
 obtain ⟨ad, c, e, _, hK, hc0⟩ := Kd.C_get h z77 i h0 h1
 have hc : ∀ j u, c[j]? = some u → w.cell? (ad.add (i.toNat * 2 + j)) = some u := hc0
 obtain rfl := k77_open hK
 exact ⟨ad, e, hc 0 _ rfl, by rw [← qdW _ _ 1 (by omega)]; exact hc 1 _ rfl⟩
structure S75 where
 f0 : Bool
 f1 : (List S77)
 f2 : (List ByteArray)
 f3 : (List Int)
def z75 : S75 := ⟨false, ([] : List S77), ([] : List ByteArray), ([] : List Int)⟩
def k75 : Kd S75 := Kd.iso (Kd.pair Kd.bool (Kd.pair (Kd.slice 77 k77) (Kd.pair (Kd.slice 9 Kd.string) (Kd.slice 3 (Kd.int .i64))))) (fun x : S75 => (x.f0, x.f1, x.f2, x.f3))
theorem k75_open {w : World} {x : S75} {cs : List Value} (h : k75.K w x cs) : ∃ A1 c1 A2 c2 A3 c3, cs = [.bool x.f0, .slice A1 x.f1.length c1, .slice A2 x.f2.length c2, .slice A3 x.f3.length c3] ∧ x.f1.length ≤ c1 ∧ k77.C w A1 x.f1.length x.f1 ∧ x.f2.length ≤ c2 ∧ Kd.string.C w A2 x.f2.length x.f2 ∧ x.f3.length ≤ c3 ∧ (Kd.int .i64).C w A3 x.f3.length x.f3 := by
 obtain ⟨_, _, rfl, rfl, ⟨_, _, rfl, ⟨A1, c1, rfl, l1, g1⟩, ⟨_, _, rfl, ⟨A2, c2, rfl, l2, g2⟩, ⟨A3, c3, rfl, l3, g3⟩⟩⟩⟩ := h
 exact ⟨A1, c1, A2, c2, A3, c3, rfl, l1, g1, l2, g2, l3, g3⟩
theorem qjq {w : World} {base : Nat} {ok : Nat → Prop} {x : S75} {cs : List Value} (h : k75.M w base ok x cs) : ∃ v1 v2 v3, cs = [.bool x.f0, v1, v2, v3] ∧ k77.R 77 w base ok v1 x.f1 ∧ Kd.string.R 9 w base ok v2 x.f2 ∧ (Kd.int .i64).R 3 w base ok v3 x.f3 := by
 obtain ⟨_, _, rfl, rfl, ⟨_, _, rfl, ⟨v1, rfl, g1⟩, ⟨_, _, rfl, ⟨v2, rfl, g2⟩, ⟨v3, rfl, g3⟩⟩⟩⟩ := h
 exact ⟨v1, v2, v3, rfl, g1, g2, g3⟩
theorem qhQ (w : World) (base : Nat) (ok : Nat → Prop) (x : S75) {v1 : Value} (g1 : k77.R 77 w base ok v1 x.f1) {v2 : Value} (g2 : Kd.string.R 9 w base ok v2 x.f2) {v3 : Value} (g3 : (Kd.int .i64).R 3 w base ok v3 x.f3) : k75.M w base ok x [.bool x.f0, v1, v2, v3] := ⟨[.bool x.f0], [v1, v2, v3], rfl, rfl, ⟨[v1], [v2, v3], rfl, ⟨v1, rfl, g1⟩, ⟨[v2], [v3], rfl, ⟨v2, rfl, g2⟩, ⟨v3, rfl, g3⟩⟩⟩⟩
def qaH (xs : List S75) (i : Int) : S75 := xs.getD i.toNat z75
theorem qfz {w : World} {A : Option Addr} {n : Nat} {xs : List S75} (h : Kd.C k75 w A n xs) (i : Int) (h0 : 0 ≤ i) (h1 : i < n) : ∃ ad A1 c1 A2 c2 A3 c3, A = some ad ∧ w.cell? (ad.add (i.toNat * 4)) = some (.bool (qaH xs i).f0) ∧ w.cell? ⟨(ad.add (i.toNat * 4)).block, (ad.add (i.toNat * 4)).off + 1, none⟩ = some (.slice A1 (qaH xs i).f1.length c1) ∧ w.cell? ⟨(ad.add (i.toNat * 4)).block, (ad.add (i.toNat * 4)).off + 2, none⟩ = some (.slice A2 (qaH xs i).f2.length c2) ∧ w.cell? ⟨(ad.add (i.toNat * 4)).block, (ad.add (i.toNat * 4)).off + 3, none⟩ = some (.slice A3 (qaH xs i).f3.length c3) ∧ (qaH xs i).f1.length ≤ c1 ∧ k77.C w A1 (qaH xs i).f1.length (qaH xs i).f1 ∧ (qaH xs i).f2.length ≤ c2 ∧ Kd.string.C w A2 (qaH xs i).f2.length (qaH xs i).f2 ∧ (qaH xs i).f3.length ≤ c3 ∧ (Kd.int .i64).C w A3 (qaH xs i).f3.length (qaH xs i).f3 := by
 obtain ⟨ad, c, e, _, hK, hc0⟩ := Kd.C_get h z75 i h0 h1
 have hc : ∀ j u, c[j]? = some u → w.cell? (ad.add (i.toNat * 4 + j)) = some u := hc0
 obtain ⟨A1, c1, A2, c2, A3, c3, rfl, l1, g1, l2, g2, l3, g3⟩ := k75_open hK
 exact ⟨ad, A1, c1, A2, c2, A3, c3, e, hc 0 _ rfl, by rw [← qdW _ _ 1 (by omega)]; exact hc 1 _ rfl, by rw [← qdW _ _ 2 (by omega)]; exact hc 2 _ rfl, by rw [← qdW _ _ 3 (by omega)]; exact hc 3 _ rfl, l1, g1, l2, g2, l3, g3⟩
structure S25 where
 f0 : (List S75)
structure S94 where
 f0 : (List Int)
 f1 : Int
 f2 : Int
structure S118 where
 f0 : ByteArray
 f1 : Int
def z118 : S118 := ⟨(⟨#[]⟩ : ByteArray), (0 : Int)⟩
def k118 : Kd S118 := Kd.iso (Kd.pair Kd.string (Kd.int .i64)) (fun x : S118 => (x.f0, x.f1))
theorem qjr {w : World} {x : S118} {cs : List Value} (h : k118.K w x cs) : cs = [.string x.f0, .int .i64 x.f1] := by
 obtain ⟨_, _, rfl, rfl, rfl⟩ := h
 exact rfl
theorem k118_mkM (w : World) (base : Nat) (ok : Nat → Prop) (x : S118)  : k118.M w base ok x [.string x.f0, .int .i64 x.f1] := ⟨[.string x.f0], [.int .i64 x.f1], rfl, rfl, rfl⟩
def qb2 (xs : List S118) (i : Int) : S118 := xs.getD i.toNat z118
theorem qeW {w : World} {A : Option Addr} {n : Nat} {xs : List S118} (h : Kd.C k118 w A n xs) (i : Int) (h0 : 0 ≤ i) (h1 : i < n) : ∃ ad , A = some ad ∧ w.cell? (ad.add (i.toNat * 2)) = some (.string (qb2 xs i).f0) ∧ w.cell? ⟨(ad.add (i.toNat * 2)).block, (ad.add (i.toNat * 2)).off + 1, none⟩ = some (.int .i64 (qb2 xs i).f1) := by
 obtain ⟨ad, c, e, _, hK, hc0⟩ := Kd.C_get h z118 i h0 h1
 have hc : ∀ j u, c[j]? = some u → w.cell? (ad.add (i.toNat * 2 + j)) = some u := hc0
 obtain rfl := qjr hK
 exact ⟨ad, e, hc 0 _ rfl, by rw [← qdW _ _ 1 (by omega)]; exact hc 1 _ rfl⟩
end Go.Proofs.Ytcdokcpiahbejaa.X
namespace Go.Proofs.Ytcdokcpiahbejaa.X
open Go.RowKit Go.Proofs.YtcdokcpiahbejaaW.PrintWords Go.Proofs.YtcdokcpiahbejaaW.PrintLast Go.Proofs.YtcdokcpiahbejaaW.PrintMore
theorem zab {p q0 : Prop} (x0 : q0) (h : q0 → p := by intro z0; repeat (first | (with_reducible first | exact HB.o | apply qas | apply qaQ | apply qaP | refine qa4 ?_ z0) | exact HB.o)) : p := h x0
theorem zac {p q : Prop} (x : q) (h : q → p := by intro x9; (with_reducible repeat (first | refine qaj ?_ _ | refine qai ?_ | refine qah ?_ _)); exact x9) : p := h x
theorem zad {p q : Prop} (x : q) (h : q → p := by intro x9; repeat (first | exact x9 | (with_reducible refine Kd.qep ?_ _) | (with_reducible refine Kd.qeq ?_ _) | (with_reducible refine Kd.qe2 ?_))) : p := h x
theorem zae {p q : Prop} (x : q) (h : q → p := by intro x9; (with_reducible repeat (first | apply Kd.qaV | apply Kd.qa0 | apply Kd.qa6)); exact x9) : p := h x
theorem zaf {p q0 q1 : Prop} (x0 : q0) (x1 : q1) (h : q0 → q1 → p := by intro z0 z1; repeat (first | (with_reducible first | exact HB.o | apply qas | apply qaQ | apply qaP | refine qa4 ?_ z0 | refine qa4 ?_ z1) | exact HB.o)) : p := h x0 x1
theorem zag {p q : Prop} (x : q) (h : q → p := by intro x9; (with_reducible repeat (first | apply Kd.qcO | apply Kd.qcP | apply Kd.qc9)); exact x9) : p := h x
theorem zah {p q0 q1 q2 : Prop} (x0 : q0) (x1 : q1) (x2 : q2) (h : q0 → q1 → q2 → p := by intro z0 z1 z2; repeat (first | (with_reducible first | exact HB.o | apply qas | apply qaQ | apply qaP | refine qa4 ?_ z0 | refine qa4 ?_ z1 | refine qa4 ?_ z2) | exact HB.o)) : p := h x0 x1 x2
theorem nf_ {x : Bool} {C : Prop} (h : x = false) (k : x = true) : C := by rw [h] at k; cases k
theorem nt_ {x : Bool} {C : Prop} (h : x = true) (k : x = false) : C := by rw [h] at k; cases k
theorem zbX {p : Prop} (h : p := by rfl) : p := h
theorem zbW {p : Prop} (h : p := by simp) : p := h
theorem zbV {p : Prop} (h : p := by omega) : p := h
theorem zbT {p : Prop} (h : p := by decide) : p := h
theorem zbU {p : Prop} (h : p := by go_num) : p := h
theorem zbS {p : Prop} (h : p := by kernel_rfl) : p := h
theorem zbR {p : Prop} (h : p := by simp; omega) : p := h
theorem zbQ {p : Prop} (h : p := by rw [h]; simp) : p := h
theorem zbP {p : Prop} (h : p := by go_simp; try rfl) : p := h
theorem zbO {p : Prop} (h : p := by unfold wrap64; omega) : p := h
theorem zbN {p : Prop} (h : p := by have := HC.o; omega) : p := h
theorem zbK {p : Prop} (h : p := by have := q7.o; omega) : p := h
theorem zbL {p : Prop} (h : p := by exact k118_mkM _ _ _ _) : p := h
theorem zbM {p : Prop} (h : p := by have := HL2.o; omega) : p := h
theorem zbJ {p : Prop} (h : p := by have := hx.rng q hq; omega) : p := h
theorem zbI {p : Prop} (h : p := by simpa [Addr.add] using mB) : p := h
theorem zbF {p : Prop} (h : p := by rw [IntKind.wrap_i64]; omega) : p := h
theorem zbG {p : Prop} (h : p := by rw [List.length_take]; omega) : p := h
theorem zbH {p : Prop} (h : p := by rw [List.length_drop]; omega) : p := h
theorem zbE {p : Prop} (h : p := by rw [if_pos rfl] at H; exact H) : p := h
theorem zbC {p : Prop} (h : p := by first | rfl | (simp [*]; done)) : p := h
theorem zbD {p : Prop} (h : p := by rw [List.length_append]; omega) : p := h
theorem zbB {p : Prop} (h : p := by rw [hbg.len]; exact qcT _ _) : p := h
theorem zbz {p : Prop} (h : p := by first | omega | exact Nat.le_refl _) : p := h
theorem zbA {p : Prop} (h : p := by simpa [Kd.bool, Kd.scalar] using hq) : p := h
theorem zbx {p : Prop} (h : p := by have := q7.o; have := p7.o; omega) : p := h
theorem zby {p : Prop} (h : p := by have := HME.o; have := HKL.o; omega) : p := h
theorem zbv {p : Prop} (h : p := by first | (go_simp; done) | (go_simp; rfl)) : p := h
theorem zbw {p : Prop} (h : p := by have := eO.o; have := p7.o; omega) : p := h
theorem zbt {p : Prop} (h : p := by go_simp; (try simp only [qbw]); try rfl) : p := h
theorem zbu {p : Prop} (h : p := by rw [ha]; exact (qee rfl).trans rfl) : p := h
theorem zbs {p : Prop} (h : p := by first | rfl | (simp; done) | (simp [*]; done)) : p := h
theorem zbr {p : Prop} (h : p := by rw [hW2]; exact qas (Below.refl _ _) _) : p := h
theorem zbg {p : Prop} (h : p := by rw [ha.o]; exact qa2 0 hb_ rfl rfl rfl) : p := h
theorem zbh {p : Prop} (h : p := by rw [ha.o]; exact qa2 1 hb_ rfl rfl rfl) : p := h
theorem zbi {p : Prop} (h : p := by rw [ha.o]; exact qa2 2 hb_ rfl rfl rfl) : p := h
theorem zbj {p : Prop} (h : p := by rw [ha.o]; exact qa2 3 hb_ rfl rfl rfl) : p := h
theorem zbk {p : Prop} (h : p := by rw [ha.o]; exact qa2 4 hb_ rfl rfl rfl) : p := h
theorem zbl {p : Prop} (h : p := by rw [ha.o]; exact qa2 5 hb_ rfl rfl rfl) : p := h
theorem zbm {p : Prop} (h : p := by rw [ha.o]; exact qa2 6 hb_ rfl rfl rfl) : p := h
theorem zbn {p : Prop} (h : p := by rw [ha.o]; exact qa2 7 hb_ rfl rfl rfl) : p := h
theorem zbo {p : Prop} (h : p := by rw [ha.o]; exact qa2 8 hb_ rfl rfl rfl) : p := h
theorem zbp {p : Prop} (h : p := by rw [ha.o]; exact qa2 9 hb_ rfl rfl rfl) : p := h
theorem zbq {p : Prop} (h : p := by rw [ha.o]; exact qhP (v := undef) rfl) : p := h
theorem zaN {p : Prop} (h : p := by first | (with_reducible assumption) | assumption) : p := h
theorem zaO {p : Prop} (h : p := by simp only [qa7, Bool.false_eq_true, if_false]) : p := h
theorem zaP {p : Prop} (h : p := by rw [ha.o]; exact qa2 10 hb_ rfl rfl rfl) : p := h
theorem zaQ {p : Prop} (h : p := by rw [ha.o]; exact qa2 11 hb_ rfl rfl rfl) : p := h
theorem zaR {p : Prop} (h : p := by rw [ha.o]; exact qa2 12 hb_ rfl rfl rfl) : p := h
theorem zaS {p : Prop} (h : p := by rw [ha.o]; exact qa2 13 hb_ rfl rfl rfl) : p := h
theorem zaT {p : Prop} (h : p := by rw [ha.o]; exact qa2 14 hb_ rfl rfl rfl) : p := h
theorem zaU {p : Prop} (h : p := by rw [ha.o]; exact qa2 15 hb_ rfl rfl rfl) : p := h
theorem zaV {p : Prop} (h : p := by rw [ha.o]; exact qa2 16 hb_ rfl rfl rfl) : p := h
theorem zaW {p : Prop} (h : p := by rw [ha.o]; exact qa2 17 hb_ rfl rfl rfl) : p := h
theorem zaX {p : Prop} (h : p := by rw [ha.o]; exact qa2 18 hb_ rfl rfl rfl) : p := h
theorem zaY {p : Prop} (h : p := by rw [ha.o]; exact qa2 19 hb_ rfl rfl rfl) : p := h
theorem zaZ {p : Prop} (h : p := by rw [ha.o]; exact qa2 20 hb_ rfl rfl rfl) : p := h
theorem zba {p : Prop} (h : p := by rw [ha.o]; exact qa2 21 hb_ rfl rfl rfl) : p := h
theorem zbb {p : Prop} (h : p := by rw [ha.o]; exact qa2 22 hb_ rfl rfl rfl) : p := h
theorem zbc {p : Prop} (h : p := by rw [ha.o]; exact qa2 23 hb_ rfl rfl rfl) : p := h
theorem zbd {p : Prop} (h : p := by rw [ha.o]; exact qa2 24 hb_ rfl rfl rfl) : p := h
theorem zbe {p : Prop} (h : p := by rw [ha.o]; exact qa2 25 hb_ rfl rfl rfl) : p := h
theorem zbf {p : Prop} (h : p := by rw [ha.o]; exact qa2 26 hb_ rfl rfl rfl) : p := h
theorem zaM {p : Prop} (h : p := by rw [List.length_append, List.length_append]; omega) : p := h
theorem zaL {p : Prop} (h : p := by repeat (first | exact qcI.refl _ | apply qcI.step)) : p := h
theorem zaK {p : Prop} (h : p := by rw [if_neg (show ¬ (false = true) by decide)] at H; exact H) : p := h
theorem zaI {p : Prop} (h : p := by rw [ha]; exact (qdz (hoff 12 (by kernel_rfl)) rfl).trans rfl) : p := h
theorem zaJ {p : Prop} (h : p := by rw [ha]; exact (qdz (hoff 14 (by kernel_rfl)) rfl).trans rfl) : p := h
theorem zaH {p : Prop} (h : p := by simp only [List.length_append, List.length_cons, List.length_nil]; omega) : p := h
theorem zaG {p : Prop} (h : p := by have := JS.o; have := p7.o; have := oB.o; have := lH.o; omega) : p := h
theorem zaF {p : Prop} (h : p := by first | rfl | (simp [qb8, qb9] <;> rfl) | (simp [*, qb8, qb9] <;> rfl)) : p := h
theorem zaA {p : Prop} (h : p := by (with_reducible repeat (first | apply Kd.qaV | apply Kd.qa0 | apply Kd.qa6)); exact Y8.o) : p := h
theorem zaB {p : Prop} (h : p := by (with_reducible repeat (first | apply Kd.qaV | apply Kd.qa0 | apply Kd.qa6)); exact QA.o) : p := h
theorem zaC {p : Prop} (h : p := by (with_reducible repeat (first | apply Kd.qaV | apply Kd.qa0 | apply Kd.qa6)); exact MJ.o) : p := h
theorem zaD {p : Prop} (h : p := by (with_reducible repeat (first | apply Kd.qaV | apply Kd.qa0 | apply Kd.qa6)); exact GJ.o) : p := h
theorem zaE {p : Prop} (h : p := by (with_reducible repeat (first | apply Kd.qaV | apply Kd.qa0 | apply Kd.qa6)); exact P5.o) : p := h
theorem zax {p : Prop} (h : p := by (with_reducible repeat (first | apply Kd.qaV | apply Kd.qa0 | apply Kd.qa6)); exact BE.o) : p := h
theorem zay {p : Prop} (h : p := by (with_reducible repeat (first | apply Kd.qaV | apply Kd.qa0 | apply Kd.qa6)); exact MG.o) : p := h
theorem zaz {p : Prop} (h : p := by (with_reducible repeat (first | apply Kd.qaV | apply Kd.qa0 | apply Kd.qa6)); exact yH.o) : p := h
theorem zau {p : Prop} (h : p := by (with_reducible repeat (first | apply Kd.qcO | apply Kd.qcP | apply Kd.qc9)); exact SB.o) : p := h
theorem zav {p : Prop} (h : p := by have h_ := kJ.o; simp only [eq_iff_iff, iff_false]; intro e_; rw [e_] at h_; exact absurd h_ (by decide)) : p := h
theorem zaw {p : Prop} (h : p := by have h_ := MN.o; simp only [eq_iff_iff, iff_false]; intro e_; rw [e_] at h_; exact absurd h_ (by decide)) : p := h
theorem zat {p : Prop} (h : p := by have := hx.inc hj.1 hj.2; rw [show (b - ((d + 1 : Nat) : Int)) + 1 = b - (d : Int) by omega] at this; exact this) : p := h
theorem zar {p : Prop} (h : p := by rw [hg]; exact Nat.ne_of_lt (qbH (g := Z8) (o := .cells #[.slice P0 t0.length O0] 25 (0, 0)) (zac S4.o))) : p := h
theorem zas {p : Prop} (h : p := by rw [hg]; exact Nat.ne_of_gt (qbH (g := Z8) (o := .cells #[.slice P0 t0.length O0] 25 (0, 0)) (zac S4.o))) : p := h
theorem zaq {p : Prop} (h : p := by repeat (first | (with_reducible first | exact HB.o | apply qas | apply qaQ | apply qaP) | exact HB.o)) : p := h
theorem zap {p : Prop} (h : p := by repeat (first | (with_reducible first | exact HBW.o | apply qas | apply qaQ | apply qaP) | exact HBW.o)) : p := h
theorem zao {p : Prop} (h : p := by (try simp only [List.map_toArray, List.map_cons, List.map_nil]); first | done | rfl | (simp only [List.length_drop, List.length_take]; rfl)) : p := h
theorem zan {p : Prop} (h : p := by first | exact Kd.qgq _ _ _ _ _ | exact Kd.N_nil _ _ _ _ _ | exact Kd.V_nil _ _ _ _ _ | exact Kd.Q_nil _ _ _ _ _ | exact Kd.S_nil _ _ _ _ _) : p := h
theorem zam {p : Prop} (h : p := by repeat (first | (with_reducible first | exact HK.o | apply qaT.set_ | apply qiH | apply qgZ | apply qiI) | exact HK.o)) : p := h
theorem zal {p : Prop} (h : p := by rw [hg]; exact (qaC (by repeat (first | (with_reducible first | exact HB.o | apply qas | apply qaQ | apply qaP) | exact HB.o)))) : p := h
theorem zak {p : Prop} (h : p := by rw [hg]; exact (qaC (by repeat (first | (with_reducible first | exact HBW.o | apply qas | apply qaQ | apply qaP) | exact HBW.o)))) : p := h
theorem zai {p : Prop} (h : p := by repeat (first | (with_reducible first | exact HI0.o | apply IsS94.alloc | apply IsS94.drewN | apply IsS94.drew | apply IsS94.qff | apply IsS94.qfg) | exact HI0.o)) : p := h
theorem zaj {p : Prop} (h : p := by first | rfl | (simp [qb8, qb9] <;> rfl) | (simp only [← rH]; first | rfl | (simp [qb8, qb9] <;> rfl)) | (simp [*, qb8, qb9] <;> rfl)) : p := h
theorem _root_.Go.Shut.o {p : Prop} (h : Go.Shut p) : p := Go.Shut.out h
theorem z_ {p : Prop} (h : p) : Aside0 p := ⟨h⟩
end Go.Proofs.Ytcdokcpiahbejaa.X
namespace Go.Proofs.Ytcdokcpiahbejaa.X
open Go.RowKit Go.Proofs.YtcdokcpiahbejaaW.PrintWords Go.Proofs.YtcdokcpiahbejaaW.PrintLast Go.Proofs.YtcdokcpiahbejaaW.PrintMore
attribute [local go_sem] qax qay qaz qat qau qaJ qaK qam qan qav qaw
set_option linter.unusedVariables false
set_option linter.unusedSimpArgs false
open Go.ChangeShapes Go.WideShapes
def Opens {α : Type} (P : Program) (t : TypeId) (d : Kd α) (wf : α → Prop) : Prop :=
 P.cellsOf t = d.sz ∧ ∀ {H : Type} {enc : TypeId × Value → H} {w : World} {base : Nat} {spare : Nat → Bool} {held : Bool} {fuel : Nat} {cs : List Value} {x : DataW H × List MemPlace},
  DataW.trod enc P w base spare held fuel t cs = some x → ∃ v : α, d.K w v cs ∧ wf v
theorem Opens.int_ {P : Program} {t : TypeId} {k : IntKind} (hu : P.underlying t = some (.int k)) (hc : P.cellsOf t = 1) : Opens P t (Kd.int k) (fun x => (Lit.int k x).wf = true) :=
 ⟨hc, fun h => by
  obtain ⟨n, rfl, _, hw⟩ := DataW.trod_int hu h;exact ⟨n, rfl, hw⟩⟩
theorem qhR {α : Type} {n : Nat} {p : Nat → α → Prop} (h : ∀ i, i < n → ∃ x, p i x) : ∃ xs : List α, xs.length = n ∧ ∀ i x, xs[i]? = some x → p i x := by
 induction n with
 | zero => exact ⟨[], rfl, fun i x hx => by simp at hx⟩
 | succ n ih =>
  obtain ⟨xs, hl, hx⟩ := ih (fun i hi => h i zbV);obtain ⟨x, hp⟩ := h n zbV;refine ⟨xs ++ [x], by simp [hl], fun i y hy => ?_⟩
  rcases Nat.lt_or_ge i xs.length with hi | hi
  ·rw [List.getElem?_append_left hi] at hy;exact hx i y hy
  ·rw [List.getElem?_append_right hi] at hy;have hi0 : i - xs.length = 0 := by
    have := (List.getElem?_eq_some_iff.1 hy).1
    simpa using this
   rw [hi0] at hy;obtain rfl : x = y := by simpa using hy
   obtain rfl : i = n := zbV;exact hp
theorem Opens.row {α : Type} {P : Program} {t e : TypeId} {d : Kd α} {wf : α → Prop} (hu : P.underlying t = some (.slice e)) (he : Opens P e d wf)
  {H : Type} {enc : TypeId × Value → H} {w : World} {base : Nat} {spare : Nat → Bool} {held : Bool} {fuel : Nat} {cs : List Value} {x : DataW H × List MemPlace}
  (h : DataW.trod enc P w base spare held fuel t cs = some x) : ∃ (A : Option Addr) (c : Nat) (l : List α), cs = [.slice A l.length c] ∧ l.length ≤ c ∧ Kd.C d w A l.length l ∧ l.length ≤ maxLen ∧ ∀ y ∈ l, wf y := by
 rcases Go.Deep.open_slice hu h with ⟨rfl, _⟩ | ⟨a, len, cap, m, n, D, Pl, rfl, hb, hl, hm, hmm, rfl, hx⟩
 ·exact ⟨none, 0, [], rfl, Nat.le_refl _, ⟨rfl, zbW, fun hn => absurd hn zbW⟩, zbW, zbW⟩
 ·have hlm : len ≤ m := by rw [hmm]; split <;> omega
  obtain ⟨l, hlen, hp⟩ := qhR (n := len) (p := fun i v => wf v ∧ ∃ c : List Value, c.length = d.sz ∧ d.K w v c ∧ ∀ j u, c[j]? = some u → w.cell? (a.add (i * d.sz + j)) = some u) (fun i hi => by
   obtain ⟨cs', h1, h2⟩ := hx i zbV;obtain ⟨v, hv, hw⟩ := he.2 h2;obtain ⟨_, hcl, hcell⟩ := World.cells?_some h1;rw [he.1] at hcl;refine ⟨v, hw, cs', hcl, hv, fun j u hj => ?_⟩;have hj' := (List.getElem?_eq_some_iff.1 hj).1;have hc0 := hcell j (by rw [he.1]; omega);rw [he.1] at hc0;rw [← hj, ← hc0]
   congr 1
   unfold Addr.add
   by_cases h0 : i * d.sz = 0 <;> by_cases h3 : j = 0 <;> simp [h0, h3, Nat.add_assoc])
  refine ⟨some a, cap, l, by rw [hlen], zbV, ⟨rfl, by simp only [maxLen] at hm; omega, fun _ => ⟨a, rfl, fun j q hq => ?_⟩⟩, zbV, fun y hy => ?_⟩
  ·obtain ⟨_, c, h1, h2, h3⟩ := hp j q hq;exact ⟨c, h1, h2, h3⟩
  ·obtain ⟨j, hj⟩ := List.getElem?_of_mem hy;exact (hp j y hj).1
theorem Opens.slice_ {α : Type} {P : Program} {t e : TypeId} {d : Kd α} {wf : α → Prop} (hu : P.underlying t = some (.slice e)) (hc : P.cellsOf t = 1) (he : Opens P e d wf) :
  Opens P t (Kd.slice e d) (fun xs => xs.length ≤ maxLen ∧ ∀ x ∈ xs, wf x) :=
 ⟨hc, fun h => by
  obtain ⟨A, c, l, rfl, hl, hC, hm, hw⟩ := Opens.row hu he h;exact ⟨l, ⟨A, c, rfl, hl, hC⟩, hm, hw⟩⟩
theorem Opens.qjs {α : Type} {P : Program} {t e : TypeId} {d : Kd α} {wf : List α → Prop} (h : Opens P t (Kd.slice e d) wf)
  {H : Type} {enc : TypeId × Value → H} {w : World} {base : Nat} {spare : Nat → Bool} {held : Bool} {A : Option Addr} {len c : Nat} {x : DataW H} {ps : List MemPlace}
  (ht : DataW.Trod enc P w base spare held t (.slice A len c) x ps) : ∃ l : List α, len = l.length ∧ l.length ≤ c ∧ Kd.C d w A l.length l ∧ wf l := by
 obtain ⟨fuel, hf⟩ := ht;obtain ⟨l, ⟨A', c', he, hl, hC⟩, hw⟩ := h.2 hf;simp [Value.cells] at he;obtain ⟨rfl, rfl, rfl⟩ := he;exact ⟨l, rfl, hl, hC, hw⟩
end Go.Proofs.Ytcdokcpiahbejaa.X
namespace Go.Proofs.Ytcdokcpiahbejaa.X
open Go.RowKit Go.Proofs.YtcdokcpiahbejaaW.PrintWords Go.Proofs.YtcdokcpiahbejaaW.PrintLast Go.Proofs.YtcdokcpiahbejaaW.PrintMore
attribute [local go_sem] qax qay qaz qat qau qaJ qaK qam qan qav qaw
set_option linter.unusedVariables false
set_option linter.unusedSimpArgs false
theorem Ev.succ {α : Type} {g : Nat → Option α} {r : α} (h : Ev (fun k => g (k + 1)) r) : Ev g r := Ev.step (fun _ => rfl) h
theorem Ev.pos {α : Type} {c : Prop} [Decidable c] {g f : Nat → Option α} {r : α} (hc : c) (h : Ev g r) : Ev (fun k => if c then g k else f k) r := Ev.congr (fun _ => if_pos hc) h
theorem Ev.neg {α : Type} {c : Prop} [Decidable c] {g f : Nat → Option α} {r : α} (hc : ¬ c) (h : Ev f r) : Ev (fun k => if c then g k else f k) r := Ev.congr (fun _ => if_neg hc) h
theorem Ev.is {α : Type} {o : Option α} {r : α} (h : o = some r) : Ev (fun _ => o) r := ⟨0, fun _ _ => h⟩
theorem Ev.bindk {α β : Type} {o : Option α} {f : Nat → α → Option β} {a : α} {r : β} (h : o = some a) (k : Ev (fun n => f n a) r) : Ev (fun n => o.bind (f n)) r := Ev.bind (g := fun _ => o) (Ev.is h) k
theorem Ev.same {α : Type} {g : Nat → Option α} {r r' : α} (h : Ev g r) (e : r = r') : Ev g r' := e ▸ h
theorem qev {n : Nat} (h : n < 9223372036854775807) : wrap64 ((n : Int) + 1) = ((n + 1 : Nat) : Int) := zbO
theorem qef {α : Type} (pre : List α) (x : α) : pre.length + 1 = (pre ++ [x]).length := zbW
def qaE.f (a0 : Int) (a1 : Int) (a2 : Int) : Option (Bool) := if a1 ≤ a0 then (some (decide (a0 ≤ a2))) else (some false)
set_option maxHeartbeats 8000000 in
set_option maxRecDepth 100000 in
theorem qaE.calls (a0 : Int) (a1 : Int) (a2 : Int) (r : Bool) (w : World) (h : qaE.f a0 a1 a2 = some r) :
  Calls Try.prog 63 #[.int .i64 a0, .int .i64 a1, .int .i64 a2] w fun e w' => e = .returned (.bool r) ∧ qcI w w' := by
 have H : (if a1 ≤ a0 then (some (decide (a0 ≤ a2))) else (some false)) = some r := h;clear h
 by_cases c4 : a1 ≤ a0
 ·rw [if_pos c4] at H;have GB : decide (a1 ≤ a0) = true := decide_eq_true c4;clear c4;obtain rfl := Option.some.inj H
  go_enter Try.func63, Try.ntmps63
  go_wp2
  go_ret
  exact ⟨zbs, zaL⟩
 ·rw [if_neg c4] at H;have GB : decide (a1 ≤ a0) = false := decide_eq_false c4;clear c4;obtain rfl := Option.some.inj H
  go_enter Try.func63, Try.ntmps63
  go_wp2
  go_ret
  exact ⟨zbs, zaL⟩
def qaX.f (a0 : Int) (a1 : Int) (a2 : Int) : Option (Bool) := if a0 ≥ a1 then (some (decide (a0 ≤ a2))) else (some false)
set_option maxHeartbeats 8000000 in
set_option maxRecDepth 100000 in
theorem qaX.calls (a0 : Int) (a1 : Int) (a2 : Int) (r : Bool) (w : World) (h : qaX.f a0 a1 a2 = some r) :
  Calls Try.prog 72 #[.int .i64 a0, .int .i64 a1, .int .i64 a2] w fun e w' => e = .returned (.bool r) ∧ qcI w w' := by
 have H : (if a0 ≥ a1 then (some (decide (a0 ≤ a2))) else (some false)) = some r := h;clear h
 by_cases c4 : a0 ≥ a1
 ·rw [if_pos c4] at H;have GB : decide (a1 ≤ a0) = true := decide_eq_true c4;clear c4;obtain rfl := Option.some.inj H
  go_enter Try.func72, Try.ntmps72
  go_wp2
  go_ret
  exact ⟨zbs, zaL⟩
 ·rw [if_neg c4] at H;have GB : decide (a1 ≤ a0) = false := decide_eq_false c4;clear c4;obtain rfl := Option.some.inj H
  go_enter Try.func72, Try.ntmps72
  go_wp2
  go_ret
  exact ⟨zbs, zaL⟩
def qbV.f (a0 : ByteArray) : Option (Bool) := (qaX.f (a0.size : Int) 1 30).bind fun uP => (some uP)
set_option maxHeartbeats 8000000 in
set_option maxRecDepth 100000 in
theorem qbV.calls (a0 : ByteArray) (r : Bool) (w : World) (h : qbV.f a0 = some r) :
  Calls Try.prog 46 #[.string a0] w fun e w' => e = .returned (.bool r) ∧ qcI w w' := by
 have H : ((qaX.f (a0.size : Int) 1 30).bind fun uP => (some uP)) = some r := h;clear h;replace H := Option.bind_eq_some_iff.mp H;obtain ⟨uP, LH, H⟩ := H;try dsimp only at H
 have A2 := z_ LH;clear LH;obtain rfl := Option.some.inj H
 go_enter Try.func46, Try.ntmps46
 go_wp2_with (first | ((with_reducible refine qaD (f := 72) rfl ?_); refine qbk (some 5) rfl rfl Try.func72 zbS rfl #[.int .i64 (a0.size : Int), .int .i64 1, .int .i64 30] rfl zao ?_; (with_reducible refine (qaX.calls (a0.size : Int) 1 30 uP _ A2.o).mono ?_); rintro e w' ⟨rfl, ⟨nd, rfl⟩⟩; refine ⟨_, rfl, ?_⟩))
 go_ret
 exact ⟨zbs, zaL⟩
def keyB (s : ByteArray) : Bool := decide (1 ≤ s.size) && decide (s.size ≤ 30)
theorem spec_key (s : ByteArray) : qaE.f (s.size : Int) 1 30 = some (keyB s) := by
 unfold qaE.f keyB
 by_cases h : 1 ≤ s.size
 ·rw [if_pos zbV, decide_eq_true h];have e : ((s.size : Int) ≤ 30) = (s.size ≤ 30) := propext zbV;simp [e]
 ·rw [if_neg zbV, decide_eq_false h];rfl
theorem qin (s : ByteArray) : qbV.f s = some (keyB s) := by
 unfold qbV.f qaX.f keyB
 by_cases h : 1 ≤ s.size
 ·rw [if_pos zbV, decide_eq_true h];have e : ((s.size : Int) ≤ 30) = (s.size ≤ 30) := propext zbV;simp [e]
 ·rw [if_neg zbV, decide_eq_false h];rfl
def qcy (f : Nat → Bool) : Nat → Nat → Bool
 | _, 0 => true
 | i, d + 1 => f i && qcy f (i + 1) d
def allB (f : Nat → Bool) (n : Nat) : Bool := qcy f 0 n
theorem qfA (f : Nat → Bool) (d : Nat) : ∀ i, qcy f i d = true ↔ ∀ j, i ≤ j → j < i + d → f j = true := by
 induction d with
 | zero => intro i; simp only [qcy, true_iff]; intro j h1 h2; omega
 | succ d ih =>
  intro i;simp only [qcy, Bool.and_eq_true, ih];refine ⟨fun h j h1 h2 => ?_, fun h => ⟨h i zbV zbV, fun j h1 h2 => h j zbV zbV⟩⟩
  rcases Nat.lt_or_ge i j with h3 | h3
  ·exact h.2 j h3 zbV
  ·rw [show j = i from zbV]; exact h.1
theorem qio {f : Nat → Bool} {n : Nat} : allB f n = true ↔ ∀ j, j < n → f j = true := by
 unfold allB;rw [qfA];exact ⟨fun h j hj => h j zbV zbV, fun h j _ hj => h j zbV⟩
theorem Ev.qcy {g : Nat → Int → Option Bool} (f : Nat → Bool) (fin : Bool) (n : Nat) (hend : Ev (fun k => g k (n : Int)) fin) (hstep : ∀ i : Nat, i < n → ∀ r, Ev (fun k => g k ((i + 1 : Nat) : Int)) r → Ev (fun k => g k (i : Int)) (f i && r)) (d : Nat) : ∀ i : Nat, i + d = n → Ev (fun k => g k (i : Int)) (qcy f i d && fin) := by
 induction d with
 | zero => intro i hi; rw [show i = n from zbV]; simpa [X.qcy] using hend
 | succ d ih =>
  intro i hi;have := hstep i zbV _ (ih (i + 1) zbV)
  simpa [X.qcy, Bool.and_assoc] using this
theorem Ev.all {g : Nat → Int → Option Bool} (f : Nat → Bool) (fin : Bool) (n : Nat) (hend : Ev (fun k => g k (n : Int)) fin) (hstep : ∀ i : Nat, i < n → ∀ r, Ev (fun k => g k ((i + 1 : Nat) : Int)) r → Ev (fun k => g k (i : Int)) (f i && r)) : Ev (fun k => g k 0) (allB f n && fin) := Ev.qcy f fin n hend hstep n 0 zbV
theorem qg8 {n : Nat} (h : n < 9223372036854775807) (h0 : 0 < n) : wrap64 ((n : Int) - 1) = ((n - 1 : Nat) : Int) := zbO
theorem qg9 {n : Nat} (h : n < 9223372036854775807) : wrap64 (((n + 1 : Nat) : Int) - 1) = ((n : Nat) : Int) := zbO
theorem on_ {b : Nat → Bool} {L : List (Nat × Tmp × Value)} {a a0 : Act} {i : Nat} {t : Tmp} {v : Value} (ha : a = qa7 a0 b L) (k : Nat) (h : L[k]? = some (i, t, v)) (h2 : ((L.drop (k + 1)).all fun x => !(x.2.1 == t)) = true) (h3 : b i = true) (h4 : Nat.ble (t + 1) a0.tmps.size = true) : a.tmps[t]? = some v := by
 rw [ha];exact qg6 (e := (i, t, v)) k h h2 h3 h4
theorem zon_ {b : Nat → Bool} {L : List (Nat × Tmp × Value)} {a a0 : Act} {i : Nat} {t : Tmp} {v : Value} {P : Nat → Prop} (ha : a = qa7 a0 b L) (k : Nat) (h : L[k]? = some (i, t, v)) (h2 : ((L.drop (k + 1)).all fun x => !(x.2.1 == t)) = true) (hon : ∀ i, P i → b i = true) (p : P i := by kernel_rfl) (h4 : Nat.ble (t + 1) a0.tmps.size = true := by rfl) : a.tmps[t]? = some v := on_ ha k h h2 (hon i p) h4
def inB (x a b : Int) : Bool := decide (a ≤ x) && decide (x ≤ b)
theorem qhS (x a b : Int) : qaE.f x a b = some (inB x a b) := by
 unfold qaE.f inB
 by_cases h : a ≤ x <;> simp [h]
theorem qgB (x a b : Int) : qaX.f x a b = some (inB x a b) := by
 unfold qaX.f inB
 by_cases h : a ≤ x
 ·rw [if_pos zbV]; simp [h]
 ·rw [if_neg zbV]; simp [h]
theorem qcH {a b c : List UInt8} (h : Op.bytesLess a b = true) (k : Op.bytesLess b c = true) : Op.bytesLess a c = true := by
 rw [bytesLess_eq] at *;simp only [decide_eq_true_eq] at *;exact List.lt_trans h k
theorem qdu (a : List UInt8) : Op.bytesLess a a = false := by
 rw [bytesLess_eq];simp only [decide_eq_false_iff_not];exact List.lt_irrefl a
theorem qhT {a b : List UInt8} (h : Op.bytesLess a b = true) : Op.bytesLess b a = false := by
 cases k : Op.bytesLess b a with
 | false => rfl
 | true => have := qcH h k; rw [qdu] at this; cases this
theorem qfB {a b : List UInt8} (h : Op.bytesLess a b = false) (k : Op.bytesLess b a = false) : a = b := by
 have := qeV a b;rw [h, k] at this
 simpa using this
def Rises (l : List S77) : Prop := l.Pairwise fun a b => Op.bytesLess a.f0.toList b.f0.toList = true
instance risesDec (l : List S77) : Decidable (Rises l) := by unfold Rises; infer_instance
theorem qip {l : List S77} (h : Rises l) {i j : Nat} (hj : j < l.length) (hij : i < j) : Op.bytesLess (l[i]'zbV).f0.toList l[j].f0.toList = true := (List.pairwise_iff_getElem.1 h) i j zbV hj hij
def okP (p : S77) : Bool := keyB p.f0 && decide (p.f1.size ≤ 90)
def chainB : Option S77 → List S77 → Bool
 | _, [] => true
 | none, p :: r => okP p && chainB (some p) r
 | some q, p :: r => okP p && (Op.bytesLess q.f0.toList p.f0.toList && chainB (some p) r)
def qda (l : List S77) : Bool := decide (l.length ≤ 60) && chainB none l
theorem qha (l : List S77) : ∀ q, chainB (some q) l = true → (∀ p ∈ l, okP p = true) ∧ (q :: l).Pairwise fun a b => Op.bytesLess a.f0.toList b.f0.toList = true := by
 induction l with
 | nil => intro q _; exact ⟨fun p hp => (by cases hp), List.pairwise_singleton _ _⟩
 | cons p r ih =>
  intro q h;simp only [chainB, Bool.and_eq_true] at h;obtain ⟨h1, h2, h3⟩ := h;obtain ⟨i1, i2⟩ := ih p h3;refine ⟨fun x hx => ?_, List.pairwise_cons.2 ⟨fun x hx => ?_, i2⟩⟩
  ·rcases List.mem_cons.1 hx with rfl | hx
   ·exact h1
   ·exact i1 x hx
  ·rcases List.mem_cons.1 hx with rfl | hx
   ·exact h2
   ·exact qcH h2 ((List.pairwise_cons.1 i2).1 x hx)
theorem qhU {l : List S77} (h : chainB none l = true) : (∀ p ∈ l, okP p = true) ∧ Rises l := by
 cases l with
 | nil => exact ⟨fun p hp => (by cases hp), List.Pairwise.nil⟩
 | cons p r =>
  simp only [chainB, Bool.and_eq_true] at h;obtain ⟨i1, i2⟩ := qha r p h.2;refine ⟨fun x hx => ?_, i2⟩
  rcases List.mem_cons.1 hx with rfl | hx
  ·exact h.1
  ·exact i1 x hx
theorem qjt (l : List S77) : ∀ q, (∀ p ∈ l, okP p = true) → ((q :: l).Pairwise fun a b => Op.bytesLess a.f0.toList b.f0.toList = true) → chainB (some q) l = true := by
 induction l with
 | nil => intro q _ _; rfl
 | cons p r ih =>
  intro q h1 h2;simp only [chainB, Bool.and_eq_true];exact ⟨h1 p List.mem_cons_self, (List.pairwise_cons.1 h2).1 p List.mem_cons_self, ih p (fun x hx => h1 x (List.mem_cons_of_mem _ hx)) (List.pairwise_cons.1 h2).2⟩
theorem qf0 {l : List S77} (h1 : ∀ p ∈ l, okP p = true) (h2 : Rises l) : chainB none l = true := by
 cases l with
 | nil => rfl
 | cons p r =>
  simp only [chainB, Bool.and_eq_true];exact ⟨h1 p List.mem_cons_self, qjt r p (fun x hx => h1 x (List.mem_cons_of_mem _ hx)) h2⟩
theorem qd2 {l : List S77} : qda l = true ↔ l.length ≤ 60 ∧ (∀ p ∈ l, okP p = true) ∧ Rises l := by
 unfold qda;rw [Bool.and_eq_true, decide_eq_true_eq];exact ⟨fun h => ⟨h.1, qhU h.2⟩, fun h => ⟨h.1, qf0 h.2.1 h.2.2⟩⟩
theorem qhb (l : List S77) (pre rest : List S77) (x : S77) (h : l = pre ++ x :: rest) : qaq l ((pre.length : Nat) : Int) = x := by
 subst h;simp [qaq, List.getD_eq_getElem?_getD]
def qbR.f (G1 : ByteArray) (iA : ByteArray) : Option (Bool) := (qbV.f G1).bind fun JO => (if JO = true then (some (decide ((iA.size : Int) ≤ 90))) else (some false))
set_option maxHeartbeats 8000000 in
set_option maxRecDepth 100000 in
theorem qbR.calls (G1 : ByteArray) (iA : ByteArray) (r : Bool) (w : World) (h : qbR.f G1 iA = some r) :
  Calls Try.prog 107 #[.agg #[.string G1, .string iA]] w fun e w' => e = .returned (.bool r) ∧ Below w.heap.size w w' := by
 have YO := Try.underlying77;have HB := z_ (Below.refl w.heap.size w);have H : ((qbV.f G1).bind fun JO => (if JO = true then (some (decide ((iA.size : Int) ≤ 90))) else (some false))) = some r := h;clear h;replace H := Option.bind_eq_some_iff.mp H;obtain ⟨JO, LH, H⟩ := H;try dsimp only at H
 have A2 := z_ LH;clear LH
 by_cases c3 : JO = true
 ·subst c3;have H1 : (some (decide ((iA.size : Int) ≤ 90))) = some r := zbE;clear H;have H := H1;clear H1;obtain rfl := Option.some.inj H
  go_enter Try.func107, Try.ntmps107
  go_wp2_with (first | ((with_reducible refine qaG (N := 1) rfl ?_); (try (refine qbe zbX ?_; dsimp only)); refine qaS zbX (N := 1) zbX (cs := #[.string G1, .string iA]) (t := 77) zbv ?_; intro tF hg w4 hbox hb; have H0 := z_ (qad zaq hb); have I0 := z_ (hbox); have K0 := z_ ((zal : w.heap.size ≤ tF)); have U0 := z_ ((zal : w.heap.size ≤ tF)); clear HB; have HB := H0; have xF := I0; have MX := K0; have VP := U0; clear H0 I0 K0 U0 hb hbox hg; have fD : w4.cell? ⟨tF, 0, none⟩ = some (.string G1) := (qac xF.o 0).trans rfl; have aD : w4.cell? ⟨tF, 1, none⟩ = some (.string iA) := (qac xF.o 1).trans rfl; have gD := qab xF.o 0; have kD := qab xF.o 1) | ((with_reducible refine qaD (f := 46) rfl ?_); refine qbk (some 5) rfl rfl Try.func46 zbS rfl #[.string G1] rfl zao ?_; (with_reducible refine (qbV.calls G1 true _ A2.o).mono ?_); rintro e w' ⟨rfl, ⟨nd, rfl⟩⟩; refine ⟨_, rfl, ?_⟩))
  go_ret
  exact ⟨zaF, zab VP.o⟩
 ·replace c3 := Bool.eq_false_iff.mpr c3;subst c3;have H1 : (some false) = some r := zaK;clear H;have H := H1;clear H1;obtain rfl := Option.some.inj H
  go_enter Try.func107, Try.ntmps107
  go_wp2_with (first | ((with_reducible refine qaG (N := 1) rfl ?_); (try (refine qbe zbX ?_; dsimp only)); refine qaS zbX (N := 1) zbX (cs := #[.string G1, .string iA]) (t := 77) zbv ?_; intro tF hg w6 hbox hb; have H0 := z_ (qad zaq hb); have I0 := z_ (hbox); have K0 := z_ ((zal : w.heap.size ≤ tF)); have U0 := z_ ((zal : w.heap.size ≤ tF)); clear HB; have HB := H0; have xF := I0; have MX := K0; have VP := U0; clear H0 I0 K0 U0 hb hbox hg; have tL : w6.cell? ⟨tF, 0, none⟩ = some (.string G1) := (qac xF.o 0).trans rfl; have UV : w6.cell? ⟨tF, 1, none⟩ = some (.string iA) := (qac xF.o 1).trans rfl; have SK := qab xF.o 0; have iW := qab xF.o 1) | ((with_reducible refine qaD (f := 46) rfl ?_); refine qbk (some 5) rfl rfl Try.func46 zbS rfl #[.string G1] rfl zao ?_; (with_reducible refine (qbV.calls G1 false _ A2.o).mono ?_); rintro e w' ⟨rfl, ⟨nd, rfl⟩⟩; refine ⟨_, rfl, ?_⟩))
  go_ret
  exact ⟨zaF, zab VP.o⟩
theorem qhc (p : S77) : qbR.f p.f0 p.f1 = some (okP p) := by
 unfold qbR.f okP;have e : ((p.f1.size : Int) ≤ 90) = (p.f1.size ≤ 90) := propext zbV;rw [qin, Option.bind_some]
 cases keyB p.f0 <;> simp [e]
def qbD.f (G1 : ByteArray) (iA : ByteArray) : Option (Bool) := (qaE.f (G1.size : Int) 1 30).bind fun tO => (if tO = true then (some (decide ((iA.size : Int) ≤ 90))) else (some false))
set_option maxHeartbeats 8000000 in
set_option maxRecDepth 100000 in
theorem qbD.calls (G1 : ByteArray) (iA : ByteArray) (r : Bool) (w : World) (h : qbD.f G1 iA = some r) :
  Calls Try.prog 113 #[.agg #[.string G1, .string iA]] w fun e w' => e = .returned (.bool r) ∧ Below w.heap.size w w' := by
 have YO := Try.underlying77;have HB := z_ (Below.refl w.heap.size w);have H : ((qaE.f (G1.size : Int) 1 30).bind fun tO => (if tO = true then (some (decide ((iA.size : Int) ≤ 90))) else (some false))) = some r := h;clear h;replace H := Option.bind_eq_some_iff.mp H;obtain ⟨tO, LH, H⟩ := H;try dsimp only at H
 have A2 := z_ LH;clear LH
 by_cases c3 : tO = true
 ·subst c3;have H1 : (some (decide ((iA.size : Int) ≤ 90))) = some r := zbE;clear H;have H := H1;clear H1;obtain rfl := Option.some.inj H
  go_enter Try.func113, Try.ntmps113
  go_wp2_with (first | ((with_reducible refine qaG (N := 1) rfl ?_); (try (refine qbe zbX ?_; dsimp only)); refine qaS zbX (N := 1) zbX (cs := #[.string G1, .string iA]) (t := 77) zbv ?_; intro LE hg w4 hbox hb; have H0 := z_ (qad zaq hb); have I0 := z_ (hbox); have K0 := z_ ((zal : w.heap.size ≤ LE)); have U0 := z_ ((zal : w.heap.size ≤ LE)); clear HB; have HB := H0; have MD := I0; have OX := K0; have wO := U0; clear H0 I0 K0 U0 hb hbox hg; have fD : w4.cell? ⟨LE, 0, none⟩ = some (.string G1) := (qac MD.o 0).trans rfl; have aD : w4.cell? ⟨LE, 1, none⟩ = some (.string iA) := (qac MD.o 1).trans rfl; have gD := qab MD.o 0; have kD := qab MD.o 1) | ((with_reducible refine qaD (f := 63) rfl ?_); refine qbk (some 6) rfl rfl Try.func63 zbS rfl #[.int .i64 (G1.size : Int), .int .i64 1, .int .i64 30] rfl zao ?_; (with_reducible refine (qaE.calls (G1.size : Int) 1 30 true _ A2.o).mono ?_); rintro e w' ⟨rfl, ⟨nd, rfl⟩⟩; refine ⟨_, rfl, ?_⟩))
  go_ret
  exact ⟨zaF, zab wO.o⟩
 ·replace c3 := Bool.eq_false_iff.mpr c3;subst c3;have H1 : (some false) = some r := zaK;clear H;have H := H1;clear H1;obtain rfl := Option.some.inj H
  go_enter Try.func113, Try.ntmps113
  go_wp2_with (first | ((with_reducible refine qaG (N := 1) rfl ?_); (try (refine qbe zbX ?_; dsimp only)); refine qaS zbX (N := 1) zbX (cs := #[.string G1, .string iA]) (t := 77) zbv ?_; intro LE hg w6 hbox hb; have H0 := z_ (qad zaq hb); have I0 := z_ (hbox); have K0 := z_ ((zal : w.heap.size ≤ LE)); have U0 := z_ ((zal : w.heap.size ≤ LE)); clear HB; have HB := H0; have MD := I0; have OX := K0; have wO := U0; clear H0 I0 K0 U0 hb hbox hg; have tL : w6.cell? ⟨LE, 0, none⟩ = some (.string G1) := (qac MD.o 0).trans rfl; have UV : w6.cell? ⟨LE, 1, none⟩ = some (.string iA) := (qac MD.o 1).trans rfl; have SK := qab MD.o 0; have iW := qab MD.o 1) | ((with_reducible refine qaD (f := 63) rfl ?_); refine qbk (some 6) rfl rfl Try.func63 zbS rfl #[.int .i64 (G1.size : Int), .int .i64 1, .int .i64 30] rfl zao ?_; (with_reducible refine (qaE.calls (G1.size : Int) 1 30 false _ A2.o).mono ?_); rintro e w' ⟨rfl, ⟨nd, rfl⟩⟩; refine ⟨_, rfl, ?_⟩))
  go_ret
  exact ⟨zaF, zab wO.o⟩
theorem qhd (p : S77) : qbD.f p.f0 p.f1 = some (okP p) := by
 unfold qbD.f okP;have e : ((p.f1.size : Int) ≤ 90) = (p.f1.size ≤ 90) := propext zbV;rw [spec_key, Option.bind_some]
 cases keyB p.f0 <;> simp [e]
structure Later (w : World) where
 val : World
 below : Below w.heap.size w val
instance Later.here (w : World) : Inhabited (Later w) := ⟨⟨w, Below.refl _ _⟩⟩
theorem Later.cell {w : World} (p : Later w) {a : Addr} {v : Value} (h : w.cell? a = some v) : p.val.cell? a = some v := qdK p.below h
theorem qbq {P : Program} {id : Nat} {Q : Exit → Act → World → Prop} {a : Act} {w : World} {l : List Oper} (hm : P.follows .mixedOrders = true) (hB : Region.lexB .any l.toArray = true)
  (h : wpQuiet P l.toArray (fun w' => ∃ p : Later w.drew, w' = p.val) (fun a' => ∀ w', (∃ p : Later w.drew, w' = p.val) → Q .normal a' w') l a) : (Code.region id l.toArray true).wp P Q a w :=
 wp_region_quiet (C := fun w' => ∃ p : Later w.drew, w' = p.val) hm hB ⟨⟨w.drew, Below.refl _ _⟩, rfl⟩ (by simpa using h)
theorem Calls.qca {P : Program} {f : FuncId} {args : Array Value} {w : World} {p : Later w} {v : Value}
  (h : Calls P f args p.val fun e w' => e = .returned v ∧ Below p.val.heap.size p.val w') : Calls P f args p.val fun e w'' => e = .returned v ∧ ∃ q : Later w, w'' = q.val :=
 h.mono fun _ _ ⟨he, hb⟩ => ⟨he, ⟨_, qad p.below hb⟩, rfl⟩
theorem Calls.qaY {P : Program} {f : FuncId} {args : Array Value} {w : World} {p : Later w} {v : Value}
  (h : Calls P f args p.val fun e w' => e = .returned v ∧ qcI p.val w') : Calls P f args p.val fun e w'' => e = .returned v ∧ ∃ q : Later w, w'' = q.val :=
 Calls.qca (h.mono fun _ _ ⟨he, hb⟩ => ⟨he, hb.below⟩)
def qak.l0 : Nat → List (S77) → List (S77) → Int → Int → Option (Bool)
 | 0, _, _, _, _ => none
 | k + 1, x0, x5, x6, x7 => if x7 < x6 then (if 0 ≤ x7 then (if x7 < (x5.length : Int) then ((qbR.f ((qaq x5 x7).f0) ((qaq x5 x7).f1)).bind fun IW => (if IW = true then (if x7 > 0 then (if 0 ≤ (wrap64 (x7 - 1)) then (if (wrap64 (x7 - 1)) < (x0.length : Int) then (if ((Op.bytesLess (((qaq x0 (wrap64 (x7 - 1))).f0).toList) (((qaq x5 x7).f0).toList)) = true) then (qak.l0 k x0 x5 x6 (wrap64 (x7 + 1))) else (some false)) else (none)) else (none)) else (qak.l0 k x0 x5 x6 (wrap64 (x7 + 1)))) else (some false))) else (none)) else (none)) else (some true)
def qak.f (k : Nat) (l0 : List (S77)) : Option (Bool) := qak.l0 k l0 l0 (l0.length : Int) 0
theorem qak.qbW : ∀ k, (∀ y0 y1 y2 y3, LeO (qak.l0 k y0 y1 y2 y3) (qak.l0 (k + 1) y0 y1 y2 y3))
 | 0 => fun _ _ _ _ r h => by simp [qak.l0] at h
 | k + 1 => by
  have d6 := qak.qbW k
  ·intro y0 y1 y2 y3;unfold qak.l0
   repeat' first
   | (with_reducible exact d6 _ _ _ _)
   | (with_reducible exact LeO.refl _)
   | (with_reducible exact LeO.none _)
   | (with_reducible refine LeO.ite ?_ ?_)
   | (with_reducible refine LeO.bind ?_ (fun _ => ?_))
   | exact d6 _ _ _ _
   | exact LeO.none _
   | refine LeO.ite ?_ ?_
   | refine LeO.bind ?_ (fun _ => ?_)
theorem qak.mono : ∀ a0 k, LeO (qak.f k a0) (qak.f (k + 1) a0) := by
 intro a0 k;have d6 := qak.qbW k;unfold qak.f
 repeat' first
   | (with_reducible exact d6 _ _ _ _)
   | (with_reducible exact LeO.refl _)
   | (with_reducible exact LeO.none _)
   | (with_reducible refine LeO.ite ?_ ?_)
   | (with_reducible refine LeO.bind ?_ (fun _ => ?_))
   | exact d6 _ _ _ _
   | exact LeO.none _
   | refine LeO.ite ?_ ?_
   | refine LeO.bind ?_ (fun _ => ?_)
def qak.T4 : Bool × List (List Nat × List Nat) := (true, [([], []), ([0], [0]), ([1], [1]), ([2, 1], [2]), ([3], [3]), ([4, 3], [3, 4]), ([5, 3, 3], [3, 5]), ([6], [6]), ([6], [6]), ([8, 6], [6, 8]), ([7, 9, 6], [6, 7, 9]), ([10, 6], [6, 10]), ([11, 6], [6, 11]), ([6], [6]), ([13, 6], [6, 13]), ([12, 14, 6], [6, 12, 14]), ([6, 15, 3], [3, 6, 15]), ([3, 16], [3, 16])])
def qak.B4 : List Nat := [0, 1, 3, 7, 15, 31, 63, 127, 127, 383, 1023, 2047, 4095, 127, 8319, 32767, 65535, 131071]
theorem qak.tab4 : rtab .any (opsOf Try.f98 4) = qak.T4 := zbS
theorem qak.bits4 : qbv qak.T4.2 qak.B4 = true := zbS
set_option maxHeartbeats 8000000 in
set_option maxRecDepth 100000 in
theorem qak.calls (k : Nat) (A0 : Option Addr) (c0 : Nat) (l0 : List (S77)) (r : Bool) (w : World) (hr0 : Kd.C k77 w A0 l0.length l0) (hc0 : l0.length ≤ c0) (h : qak.f k l0 = some r) :
  Calls Try.prog 98 #[.slice A0 l0.length c0] w fun e w' => e = .returned (.bool r) ∧ Below w.heap.size w w' := by
 have YO := Try.underlying77;have I7 := z_ hr0;have OF := z_ hc0;clear hr0 hc0;have HB := z_ (Below.refl w.heap.size w);have H : (qak.l0 k l0 l0 (l0.length : Int) 0) = some r := h;clear h;have H' := z_ H;clear H
 go_enter Try.func98, Try.ntmps98
 go_wp2
 go_loopg [7] k (fun kq v7 w' => ∃ (V0 : Int), v7 = .int .i64 V0 ∧ Aside0 (qak.l0 kq l0 l0 (l0.length : Int) V0 = some r) ∧ Aside0 (kq ≤ k) ∧ Aside0 (Below w.heap.size w w'))
 case atStart => exact ⟨(0), zbs, H', ⟨Nat.le_refl _⟩, ⟨zaq⟩⟩
 case round =>
  clear H';obtain ⟨V0, rfl, HA, q7, HB⟩ := hrel
  cases gk with
  | zero => exact absurd HA.o (by simp [qak.l0])
  | succ k1 =>
   have H := HA.o;clear HA;simp only [qak.l0] at H
   by_cases c2 : V0 < (l0.length : Int)
   ·rw [if_pos c2] at H;have iG : decide (V0 < (l0.length : Int)) = true := decide_eq_true c2;clear c2
    by_cases c3 : 0 ≤ V0
    ·rw [if_pos c3] at H;have M9 : decide (0 ≤ V0) = true := decide_eq_true c3;clear c3
     by_cases c4 : V0 < (l0.length : Int)
     ·rw [if_pos c4] at H;have GB : decide (V0 < (l0.length : Int)) = true := decide_eq_true c4;clear c4;replace H := Option.bind_eq_some_iff.mp H;obtain ⟨IW, JI, H⟩ := H;try dsimp only at H
      have A5 := z_ JI;clear JI
      by_cases c6 : IW = true
      ·subst c6;have H1 : (if V0 > 0 then (if 0 ≤ (wrap64 (V0 - 1)) then (if (wrap64 (V0 - 1)) < (l0.length : Int) then (if ((Op.bytesLess (((qaq l0 (wrap64 (V0 - 1))).f0).toList) (((qaq l0 V0).f0).toList)) = true) then (qak.l0 k1 l0 l0 (l0.length : Int) (wrap64 (V0 + 1))) else (some false)) else (none)) else (none)) else (qak.l0 k1 l0 l0 (l0.length : Int) (wrap64 (V0 + 1)))) = some r := zbE;clear H;have H := H1;clear H1
       by_cases c7 : V0 > 0
       ·rw [if_pos c7] at H;have GC : decide (0 < V0) = true := decide_eq_true c7;clear c7;obtain ⟨MF, YP⟩ : ∃ j_ : Int, (wrap64 (V0 - 1)) = j_ := ⟨_, rfl⟩
        replace H : (if 0 ≤ (MF) then (if (MF) < (l0.length : Int) then (if ((Op.bytesLess (((qaq l0 (MF)).f0).toList) (((qaq l0 V0).f0).toList)) = true) then (qak.l0 k1 l0 l0 (l0.length : Int) (wrap64 (V0 + 1))) else (some false)) else (none)) else (none)) = some r := by first | (rw [YP] at H; exact H) | (simp only [YP] at H ⊢; exact H)
        (try rw [YP] at A5)
        have hji8w : (IntKind.i64.wrap (V0 - 1)) = MF := (qbw _).trans YP
        by_cases c9 : 0 ≤ (MF)
        ·rw [if_pos c9] at H;have CO : decide (0 ≤ (MF)) = true := decide_eq_true c9;clear c9
         by_cases c10 : (MF) < (l0.length : Int)
         ·rw [if_pos c10] at H;have XF : decide ((MF) < (l0.length : Int)) = true := decide_eq_true c10;clear c10
          by_cases c11 : ((Op.bytesLess (((qaq l0 (MF)).f0).toList) (((qaq l0 V0).f0).toList)) = true)
          ·rw [if_pos c11] at H;have CE : (Op.bytesLess (((qaq l0 (MF)).f0).toList) (((qaq l0 V0).f0).toList)) = true := c11;clear c11;have H' := z_ H;clear H;have eD : 0 ≤ (V0 : Int) := of_decide_eq_true zaN;have lD : V0 < (l0.length : Int) := of_decide_eq_true zaN;obtain ⟨xB, wL, F6, C6⟩ := qce I7.o V0 eD lD
           cases wL
           replace F6 := (HB.o.cell (World.block_lt_of_cell? w _ F6)).trans F6;replace C6 := (HB.o.cell (World.block_lt_of_cell? w _ C6)).trans C6;replace eD := eq_true eD;replace lD := eq_true lD;try go_wp2_with (first | ((with_reducible refine qaG (N := 4) rfl ?_); refine qaS zbX (N := 4) zbX (cs := #[.string (⟨#[]⟩ : ByteArray), .string (⟨#[]⟩ : ByteArray)]) (t := 77) zbv ?_; intro V2 hg sL hbox hb; have H0 := z_ (qad zaq hb); have I0 := z_ (hbox); have K0 := z_ ((zal : w.heap.size ≤ V2)); have U0 := z_ ((zal : w.heap.size ≤ V2)); clear HB; have HB := H0; have Q1 := I0; have yO := K0; have JB := U0; clear H0 I0 K0 U0 hb hbox hg; have vI : sL.cell? ⟨V2, 0, none⟩ = some (.string (⟨#[]⟩ : ByteArray)) := (qac Q1.o 0).trans rfl; have RM : sL.cell? ⟨V2, 1, none⟩ = some (.string (⟨#[]⟩ : ByteArray)) := (qac Q1.o 1).trans rfl; have WH := qab Q1.o 0; have lM := qab Q1.o 1))
           have H0 : Aside0 (((sL.setCell ⟨V2, 0, none⟩ (.string ((qaq l0 V0).f0))).setCell ⟨V2, 1, none⟩ (.string ((qaq l0 V0).f1))).heap[V2]? = some (.cells #[.string ((qaq l0 V0).f0), .string ((qaq l0 V0).f1)] 77 (0, 0))) := ⟨by (with_reducible repeat (first | refine qaj ?_ _ | refine qai ?_ | refine qah ?_ _)); refine qbm (cs := #[.string ((qaq l0 V0).f0), .string (⟨#[]⟩ : ByteArray)]) ?_ 1 _ rfl; (with_reducible repeat (first | refine qaj ?_ _ | refine qai ?_ | refine qah ?_ _)); refine qbm (cs := #[.string (⟨#[]⟩ : ByteArray), .string (⟨#[]⟩ : ByteArray)]) ?_ 0 _ rfl; (with_reducible repeat (first | refine qaj ?_ _ | refine qai ?_ | refine qah ?_ _)); exact Q1.o⟩;have I0 : Aside0 (Below w.heap.size w ((sL.setCell ⟨V2, 0, none⟩ (.string ((qaq l0 V0).f0))).setCell ⟨V2, 1, none⟩ (.string ((qaq l0 V0).f1)))) := ⟨zab JB.o⟩
           (try clear Q1)
           (try clear HB)
           generalize ((sL.setCell ⟨V2, 0, none⟩ (.string ((qaq l0 V0).f0))).setCell ⟨V2, 1, none⟩ (.string ((qaq l0 V0).f1))) = CK at H0 I0 ⊢;have Q1 := H0;have HB := I0;clear H0 I0;have H0 := z_ (qai Q1.o);have I0 := z_ (qaP HB.o);clear Q1 HB;have Q1 := H0;have HB := I0;clear H0 I0;have YK : 0 ≤ ((MF) : Int) := of_decide_eq_true zaN;have PL : (MF) < (l0.length : Int) := of_decide_eq_true zaN;obtain ⟨pP, KV, i7, f7⟩ := qce I7.o (MF) YK PL;have mF := f7;have oD := i7;obtain rfl : xB = pP := (by injection KV);replace i7 := (HB.o.cell (World.block_lt_of_cell? w _ i7)).trans i7;replace f7 := (HB.o.cell (World.block_lt_of_cell? w _ f7)).trans f7;replace YK := eq_true YK;replace PL := eq_true PL;refine qbq zbS zbS ?_;have Q4 := z_ (show CK.drew.cell? ⟨V2, 0, none⟩ = some (.string ((qaq l0 V0).f0)) from (qac Q1.o 0).trans rfl);have P4 := z_ (show CK.drew.cell? ⟨V2, 1, none⟩ = some (.string ((qaq l0 V0).f1)) from (qac Q1.o 1).trans rfl);have W6 := z_ (show CK.drew.cell? (xB.add (((MF)).toNat * 2)) = some (.string ((qaq l0 (MF)).f0)) from ((HB.o.cell (World.block_lt_of_cell? w _ oD)).trans oD));have X6 := z_ (show CK.drew.cell? ⟨(xB.add (((MF)).toNat * 2)).block, (xB.add (((MF)).toNat * 2)).off + 1, none⟩ = some (.string ((qaq l0 (MF)).f1)) from ((HB.o.cell (World.block_lt_of_cell? w _ mF)).trans mF));generalize CK.drew = jG at Q1 HB i7 f7 Q4 P4 W6 X6 ⊢;clear i7 f7;have hL0 := fun (p_ : Later jG) => Later.cell p_ Q4.o
           have hL1 := fun (p_ : Later jG) => Later.cell p_ P4.o
           have hL2 := fun (p_ : Later jG) => Later.cell p_ W6.o
           have hL3 := fun (p_ : Later jG) => Later.cell p_ X6.o
           clear Q4 P4 W6 X6
           repeat (first | go_big_quiet_step ((first | (go_at_call 107; exact Calls.qca (qbR.calls ((qaq l0 V0).f0) ((qaq l0 V0).f1) true _ A5.o)))) | quiet_step ((first | (go_at_call 107; exact Calls.qca (qbR.calls ((qaq l0 V0).f0) ((qaq l0 V0).f1) true _ A5.o)))))
           refine wpQuiet_nil ?_;rintro w16 ⟨⟨bG, hbL⟩, jB⟩;have d9 : w16 = bG := jB;clear jB;subst d9;clear hL0 hL1 hL2 hL3;have K7 := z_ ((hbL.block _ (qbH Q1.o)).trans Q1.o);have G6 := z_ (qad HB.o hbL);clear Q1 HB;have Q1 := K7;have HB := G6;clear K7 G6 hbL;try go_wp2
           go_roundg k1
           case measure => have := q7.o; omega
           case rel => exact ⟨(wrap64 (V0 + 1)), zbs, H', ⟨zbK⟩, ⟨zab JB.o⟩⟩
          ·rw [if_neg c11] at H;have CE : (Op.bytesLess (((qaq l0 (MF)).f0).toList) (((qaq l0 V0).f0).toList)) = false := by simpa using c11
           clear c11;obtain rfl := Option.some.inj H;have eD : 0 ≤ (V0 : Int) := of_decide_eq_true zaN;have lD : V0 < (l0.length : Int) := of_decide_eq_true zaN;obtain ⟨xB, wL, F6, C6⟩ := qce I7.o V0 eD lD
           cases wL
           replace F6 := (HB.o.cell (World.block_lt_of_cell? w _ F6)).trans F6;replace C6 := (HB.o.cell (World.block_lt_of_cell? w _ C6)).trans C6;replace eD := eq_true eD;replace lD := eq_true lD;try go_wp2_with (first | ((with_reducible refine qaG (N := 4) rfl ?_); refine qaS zbX (N := 4) zbX (cs := #[.string (⟨#[]⟩ : ByteArray), .string (⟨#[]⟩ : ByteArray)]) (t := 77) zbv ?_; intro V2 hg nG hbox hb; have H0 := z_ (qad zaq hb); have I0 := z_ (hbox); have K0 := z_ ((zal : w.heap.size ≤ V2)); have U0 := z_ ((zal : w.heap.size ≤ V2)); clear HB; have HB := H0; have Q1 := I0; have yO := K0; have JB := U0; clear H0 I0 K0 U0 hb hbox hg; have p9 : nG.cell? ⟨V2, 0, none⟩ = some (.string (⟨#[]⟩ : ByteArray)) := (qac Q1.o 0).trans rfl; have BC : nG.cell? ⟨V2, 1, none⟩ = some (.string (⟨#[]⟩ : ByteArray)) := (qac Q1.o 1).trans rfl; have q9 := qab Q1.o 0; have UB := qab Q1.o 1))
           have H0 : Aside0 (((nG.setCell ⟨V2, 0, none⟩ (.string ((qaq l0 V0).f0))).setCell ⟨V2, 1, none⟩ (.string ((qaq l0 V0).f1))).heap[V2]? = some (.cells #[.string ((qaq l0 V0).f0), .string ((qaq l0 V0).f1)] 77 (0, 0))) := ⟨by (with_reducible repeat (first | refine qaj ?_ _ | refine qai ?_ | refine qah ?_ _)); refine qbm (cs := #[.string ((qaq l0 V0).f0), .string (⟨#[]⟩ : ByteArray)]) ?_ 1 _ rfl; (with_reducible repeat (first | refine qaj ?_ _ | refine qai ?_ | refine qah ?_ _)); refine qbm (cs := #[.string (⟨#[]⟩ : ByteArray), .string (⟨#[]⟩ : ByteArray)]) ?_ 0 _ rfl; (with_reducible repeat (first | refine qaj ?_ _ | refine qai ?_ | refine qah ?_ _)); exact Q1.o⟩;have I0 : Aside0 (Below w.heap.size w ((nG.setCell ⟨V2, 0, none⟩ (.string ((qaq l0 V0).f0))).setCell ⟨V2, 1, none⟩ (.string ((qaq l0 V0).f1)))) := ⟨zab JB.o⟩
           (try clear Q1)
           (try clear HB)
           generalize ((nG.setCell ⟨V2, 0, none⟩ (.string ((qaq l0 V0).f0))).setCell ⟨V2, 1, none⟩ (.string ((qaq l0 V0).f1))) = CG at H0 I0 ⊢;have Q1 := H0;have HB := I0;clear H0 I0;have H0 := z_ (qai Q1.o);have I0 := z_ (qaP HB.o);clear Q1 HB;have Q1 := H0;have HB := I0;clear H0 I0;have YK : 0 ≤ ((MF) : Int) := of_decide_eq_true zaN;have PL : (MF) < (l0.length : Int) := of_decide_eq_true zaN;obtain ⟨pP, KV, i7, f7⟩ := qce I7.o (MF) YK PL;have mF := f7;have oD := i7;obtain rfl : xB = pP := (by injection KV);replace i7 := (HB.o.cell (World.block_lt_of_cell? w _ i7)).trans i7;replace f7 := (HB.o.cell (World.block_lt_of_cell? w _ f7)).trans f7;replace YK := eq_true YK;replace PL := eq_true PL;refine qbq zbS zbS ?_;have Q4 := z_ (show CG.drew.cell? ⟨V2, 0, none⟩ = some (.string ((qaq l0 V0).f0)) from (qac Q1.o 0).trans rfl);have P4 := z_ (show CG.drew.cell? ⟨V2, 1, none⟩ = some (.string ((qaq l0 V0).f1)) from (qac Q1.o 1).trans rfl);have W6 := z_ (show CG.drew.cell? (xB.add (((MF)).toNat * 2)) = some (.string ((qaq l0 (MF)).f0)) from ((HB.o.cell (World.block_lt_of_cell? w _ oD)).trans oD));have X6 := z_ (show CG.drew.cell? ⟨(xB.add (((MF)).toNat * 2)).block, (xB.add (((MF)).toNat * 2)).off + 1, none⟩ = some (.string ((qaq l0 (MF)).f1)) from ((HB.o.cell (World.block_lt_of_cell? w _ mF)).trans mF));generalize CG.drew = uG at Q1 HB i7 f7 Q4 P4 W6 X6 ⊢;clear i7 f7;have hL0 := fun (p_ : Later uG) => Later.cell p_ Q4.o
           have hL1 := fun (p_ : Later uG) => Later.cell p_ P4.o
           have hL2 := fun (p_ : Later uG) => Later.cell p_ W6.o
           have hL3 := fun (p_ : Later uG) => Later.cell p_ X6.o
           clear Q4 P4 W6 X6
           repeat (first | go_big_quiet_step ((first | (go_at_call 107; exact Calls.qca (qbR.calls ((qaq l0 V0).f0) ((qaq l0 V0).f1) true _ A5.o)))) | quiet_step ((first | (go_at_call 107; exact Calls.qca (qbR.calls ((qaq l0 V0).f0) ((qaq l0 V0).f1) true _ A5.o)))))
           refine wpQuiet_nil ?_;rintro QH ⟨⟨bG, hbL⟩, jB⟩;have d9 : QH = bG := jB;clear jB;subst d9;clear hL0 hL1 hL2 hL3;have K7 := z_ ((hbL.block _ (qbH Q1.o)).trans Q1.o);have G6 := z_ (qad HB.o hbL);clear Q1 HB;have Q1 := K7;have HB := G6;clear K7 G6 hbL;try go_wp2
           go_ret
           exact ⟨by first | rfl | (simp [qb8, qb9] <;> rfl) | (simp only [← YP]; first | rfl | (simp [qb8, qb9] <;> rfl)) | (simp [*, qb8, qb9] <;> rfl), zab JB.o⟩
         ·rw [if_neg c10] at H;exact absurd H zbW
        ·rw [if_neg c9] at H;exact absurd H zbW
       ·rw [if_neg c7] at H;have GC : decide (0 < V0) = false := decide_eq_false c7;clear c7;have H' := z_ H;clear H;have eD : 0 ≤ (V0 : Int) := of_decide_eq_true zaN;have lD : V0 < (l0.length : Int) := of_decide_eq_true zaN;obtain ⟨xB, wL, F6, C6⟩ := qce I7.o V0 eD lD
        cases wL
        replace F6 := (HB.o.cell (World.block_lt_of_cell? w _ F6)).trans F6;replace C6 := (HB.o.cell (World.block_lt_of_cell? w _ C6)).trans C6;replace eD := eq_true eD;replace lD := eq_true lD;try go_wp2_with (first | ((with_reducible refine qaG (N := 4) rfl ?_); refine qaS zbX (N := 4) zbX (cs := #[.string (⟨#[]⟩ : ByteArray), .string (⟨#[]⟩ : ByteArray)]) (t := 77) zbv ?_; intro V2 hg QO hbox hb; have H0 := z_ (qad zaq hb); have I0 := z_ (hbox); have K0 := z_ ((zal : w.heap.size ≤ V2)); have U0 := z_ ((zal : w.heap.size ≤ V2)); clear HB; have HB := H0; have Q1 := I0; have yO := K0; have JB := U0; clear H0 I0 K0 U0 hb hbox hg; have mM : QO.cell? ⟨V2, 0, none⟩ = some (.string (⟨#[]⟩ : ByteArray)) := (qac Q1.o 0).trans rfl; have Bd : QO.cell? ⟨V2, 1, none⟩ = some (.string (⟨#[]⟩ : ByteArray)) := (qac Q1.o 1).trans rfl; have iN := qab Q1.o 0; have ab := qab Q1.o 1))
        have H0 : Aside0 (((QO.setCell ⟨V2, 0, none⟩ (.string ((qaq l0 V0).f0))).setCell ⟨V2, 1, none⟩ (.string ((qaq l0 V0).f1))).heap[V2]? = some (.cells #[.string ((qaq l0 V0).f0), .string ((qaq l0 V0).f1)] 77 (0, 0))) := ⟨by (with_reducible repeat (first | refine qaj ?_ _ | refine qai ?_ | refine qah ?_ _)); refine qbm (cs := #[.string ((qaq l0 V0).f0), .string (⟨#[]⟩ : ByteArray)]) ?_ 1 _ rfl; (with_reducible repeat (first | refine qaj ?_ _ | refine qai ?_ | refine qah ?_ _)); refine qbm (cs := #[.string (⟨#[]⟩ : ByteArray), .string (⟨#[]⟩ : ByteArray)]) ?_ 0 _ rfl; (with_reducible repeat (first | refine qaj ?_ _ | refine qai ?_ | refine qah ?_ _)); exact Q1.o⟩;have I0 : Aside0 (Below w.heap.size w ((QO.setCell ⟨V2, 0, none⟩ (.string ((qaq l0 V0).f0))).setCell ⟨V2, 1, none⟩ (.string ((qaq l0 V0).f1)))) := ⟨zab JB.o⟩
        (try clear Q1)
        (try clear HB)
        generalize ((QO.setCell ⟨V2, 0, none⟩ (.string ((qaq l0 V0).f0))).setCell ⟨V2, 1, none⟩ (.string ((qaq l0 V0).f1))) = VU at H0 I0 ⊢;have Q1 := H0;have HB := I0;clear H0 I0;have H0 := z_ (qai Q1.o);have I0 := z_ (qaP HB.o);clear Q1 HB;have Q1 := H0;have HB := I0;clear H0 I0;refine qbq zbS zbS ?_;have Q4 := z_ (show VU.drew.cell? ⟨V2, 0, none⟩ = some (.string ((qaq l0 V0).f0)) from (qac Q1.o 0).trans rfl);have P4 := z_ (show VU.drew.cell? ⟨V2, 1, none⟩ = some (.string ((qaq l0 V0).f1)) from (qac Q1.o 1).trans rfl);generalize VU.drew = RL at Q1 HB Q4 P4 ⊢;have hL0 := fun (p_ : Later RL) => Later.cell p_ Q4.o
        have hL1 := fun (p_ : Later RL) => Later.cell p_ P4.o
        clear Q4 P4
        repeat (first | go_big_quiet_step ((first | (go_at_call 107; exact Calls.qca (qbR.calls ((qaq l0 V0).f0) ((qaq l0 V0).f1) true _ A5.o)))) | quiet_step ((first | (go_at_call 107; exact Calls.qca (qbR.calls ((qaq l0 V0).f0) ((qaq l0 V0).f1) true _ A5.o)))))
        refine wpQuiet_nil ?_;rintro w26 ⟨⟨bG, hbL⟩, jB⟩;have d9 : w26 = bG := jB;clear jB;subst d9;clear hL0 hL1;have K7 := z_ ((hbL.block _ (qbH Q1.o)).trans Q1.o);have G6 := z_ (qad HB.o hbL);clear Q1 HB;have Q1 := K7;have HB := G6;clear K7 G6 hbL;try go_wp2
        go_roundg k1
        case measure => have := q7.o; omega
        case rel => exact ⟨(wrap64 (V0 + 1)), zbs, H', ⟨zbK⟩, ⟨zab JB.o⟩⟩
      ·replace c6 := Bool.eq_false_iff.mpr c6;subst c6;have H1 : (some false) = some r := zaK;clear H;have H := H1;clear H1;obtain rfl := Option.some.inj H;have eD : 0 ≤ (V0 : Int) := of_decide_eq_true zaN;have lD : V0 < (l0.length : Int) := of_decide_eq_true zaN;obtain ⟨xB, wL, F6, C6⟩ := qce I7.o V0 eD lD
       cases wL
       replace F6 := (HB.o.cell (World.block_lt_of_cell? w _ F6)).trans F6;replace C6 := (HB.o.cell (World.block_lt_of_cell? w _ C6)).trans C6;replace eD := eq_true eD;replace lD := eq_true lD;try go_wp2_with (first | ((with_reducible refine qaG (N := 4) rfl ?_); refine qaS zbX (N := 4) zbX (cs := #[.string (⟨#[]⟩ : ByteArray), .string (⟨#[]⟩ : ByteArray)]) (t := 77) zbv ?_; intro V2 hg zI hbox hb; have H0 := z_ (qad zaq hb); have I0 := z_ (hbox); have K0 := z_ ((zal : w.heap.size ≤ V2)); have U0 := z_ ((zal : w.heap.size ≤ V2)); clear HB; have HB := H0; have Q1 := I0; have yO := K0; have JB := U0; clear H0 I0 K0 U0 hb hbox hg; have VA : zI.cell? ⟨V2, 0, none⟩ = some (.string (⟨#[]⟩ : ByteArray)) := (qac Q1.o 0).trans rfl; have qC : zI.cell? ⟨V2, 1, none⟩ = some (.string (⟨#[]⟩ : ByteArray)) := (qac Q1.o 1).trans rfl; have KA := qab Q1.o 0; have rC := qab Q1.o 1))
       have H0 : Aside0 (((zI.setCell ⟨V2, 0, none⟩ (.string ((qaq l0 V0).f0))).setCell ⟨V2, 1, none⟩ (.string ((qaq l0 V0).f1))).heap[V2]? = some (.cells #[.string ((qaq l0 V0).f0), .string ((qaq l0 V0).f1)] 77 (0, 0))) := ⟨by (with_reducible repeat (first | refine qaj ?_ _ | refine qai ?_ | refine qah ?_ _)); refine qbm (cs := #[.string ((qaq l0 V0).f0), .string (⟨#[]⟩ : ByteArray)]) ?_ 1 _ rfl; (with_reducible repeat (first | refine qaj ?_ _ | refine qai ?_ | refine qah ?_ _)); refine qbm (cs := #[.string (⟨#[]⟩ : ByteArray), .string (⟨#[]⟩ : ByteArray)]) ?_ 0 _ rfl; (with_reducible repeat (first | refine qaj ?_ _ | refine qai ?_ | refine qah ?_ _)); exact Q1.o⟩;have I0 : Aside0 (Below w.heap.size w ((zI.setCell ⟨V2, 0, none⟩ (.string ((qaq l0 V0).f0))).setCell ⟨V2, 1, none⟩ (.string ((qaq l0 V0).f1)))) := ⟨zab JB.o⟩
       (try clear Q1)
       (try clear HB)
       generalize ((zI.setCell ⟨V2, 0, none⟩ (.string ((qaq l0 V0).f0))).setCell ⟨V2, 1, none⟩ (.string ((qaq l0 V0).f1))) = qX at H0 I0 ⊢;have Q1 := H0;have HB := I0;clear H0 I0;have H0 := z_ (qai Q1.o);have I0 := z_ (qaP HB.o);clear Q1 HB;have Q1 := H0;have HB := I0;clear H0 I0;refine qbq zbS zbS ?_;have Q4 := z_ (show qX.drew.cell? ⟨V2, 0, none⟩ = some (.string ((qaq l0 V0).f0)) from (qac Q1.o 0).trans rfl);have P4 := z_ (show qX.drew.cell? ⟨V2, 1, none⟩ = some (.string ((qaq l0 V0).f1)) from (qac Q1.o 1).trans rfl);generalize qX.drew = mO at Q1 HB Q4 P4 ⊢;have hL0 := fun (p_ : Later mO) => Later.cell p_ Q4.o
       have hL1 := fun (p_ : Later mO) => Later.cell p_ P4.o
       clear Q4 P4
       repeat (first | go_big_quiet_step ((first | (go_at_call 107; exact Calls.qca (qbR.calls ((qaq l0 V0).f0) ((qaq l0 V0).f1) false _ A5.o)))) | quiet_step ((first | (go_at_call 107; exact Calls.qca (qbR.calls ((qaq l0 V0).f0) ((qaq l0 V0).f1) false _ A5.o)))))
       refine wpQuiet_nil ?_;rintro w31 ⟨⟨bG, hbL⟩, jB⟩;have d9 : w31 = bG := jB;clear jB;subst d9;clear hL0 hL1;have K7 := z_ ((hbL.block _ (qbH Q1.o)).trans Q1.o);have G6 := z_ (qad HB.o hbL);clear Q1 HB;have Q1 := K7;have HB := G6;clear K7 G6 hbL;try go_wp2
       go_ret
       exact ⟨zaF, zab JB.o⟩
     ·rw [if_neg c4] at H;exact absurd H zbW
    ·rw [if_neg c3] at H;exact absurd H zbW
   ·rw [if_neg c2] at H;have iG : decide (V0 < (l0.length : Int)) = false := decide_eq_false c2;clear c2;obtain rfl := Option.some.inj H
    go_wp2
    go_ret
    exact ⟨zaF, zaq⟩
def qaA.l0 : Nat → List (S77) → Int → Option (Bool)
 | 0, _, _ => none
 | k + 1, x0, x3 => if x3 < (x0.length : Int) then (if 0 ≤ x3 then ((qbD.f ((qaq x0 x3).f0) ((qaq x0 x3).f1)).bind fun vW => (if vW = true then (if x3 > 0 then (if 0 ≤ (wrap64 (x3 - 1)) then (if (wrap64 (x3 - 1)) < (x0.length : Int) then (if ((Op.bytesLess (((qaq x0 (wrap64 (x3 - 1))).f0).toList) (((qaq x0 x3).f0).toList)) = true) then (qaA.l0 k x0 (wrap64 (x3 + 1))) else (some false)) else (none)) else (none)) else (qaA.l0 k x0 (wrap64 (x3 + 1)))) else (some false))) else (none)) else (some true)
def qaA.f (k : Nat) (l0 : List (S77)) : Option (Bool) := if (l0.length : Int) > 4096 then (some false) else (if (l0.length : Int) > 60 then (some false) else (qaA.l0 k l0 0))
theorem qaA.qbW : ∀ k, (∀ y0 y1, LeO (qaA.l0 k y0 y1) (qaA.l0 (k + 1) y0 y1))
 | 0 => fun _ _ r h => by simp [qaA.l0] at h
 | k + 1 => by
  have d6 := qaA.qbW k
  ·intro y0 y1;unfold qaA.l0
   repeat' first
   | (with_reducible exact d6 _ _)
   | (with_reducible exact LeO.refl _)
   | (with_reducible exact LeO.none _)
   | (with_reducible refine LeO.ite ?_ ?_)
   | (with_reducible refine LeO.bind ?_ (fun _ => ?_))
   | exact d6 _ _
   | exact LeO.none _
   | refine LeO.ite ?_ ?_
   | refine LeO.bind ?_ (fun _ => ?_)
theorem qaA.mono : ∀ a0 k, LeO (qaA.f k a0) (qaA.f (k + 1) a0) := by
 intro a0 k;have d6 := qaA.qbW k;unfold qaA.f
 repeat' first
   | (with_reducible exact d6 _ _)
   | (with_reducible exact LeO.refl _)
   | (with_reducible exact LeO.none _)
   | (with_reducible refine LeO.ite ?_ ?_)
   | (with_reducible refine LeO.bind ?_ (fun _ => ?_))
   | exact d6 _ _
   | exact LeO.none _
   | refine LeO.ite ?_ ?_
   | refine LeO.bind ?_ (fun _ => ?_)
def qaA.T8 : Bool × List (List Nat × List Nat) := (true, [([], []), ([], []), ([0, 1], [0, 1]), ([2], [2]), ([3], [3]), ([4], [4]), ([5, 4], [5]), ([6], [6]), ([7, 6], [6, 7]), ([8, 6, 6], [6, 8]), ([9], [9]), ([9], [9]), ([11, 9], [9, 11]), ([10, 12, 9], [9, 10, 12]), ([13, 9], [9, 13]), ([14, 9], [9, 14]), ([9], [9]), ([9], [9]), ([16, 17, 9], [9, 16, 17]), ([18, 9], [9, 18]), ([19, 9], [9, 19]), ([15, 20, 9], [9, 15, 20]), ([9, 21, 6], [6, 9, 21]), ([6, 22], [6, 22])])
def qaA.B8 : List Nat := [0, 0, 3, 7, 15, 31, 63, 127, 255, 511, 1023, 1023, 3071, 8191, 16383, 32767, 1023, 1023, 197631, 459775, 984063, 2097151, 4194303, 8388607]
theorem qaA.tab8 : rtab .any (opsOf Try.f106 8) = qaA.T8 := zbS
theorem qaA.bits8 : qbv qaA.T8.2 qaA.B8 = true := zbS
set_option maxHeartbeats 8000000 in
set_option maxRecDepth 100000 in
theorem qaA.calls (k : Nat) (A0 : Option Addr) (c0 : Nat) (l0 : List (S77)) (r : Bool) (w : World) (hr0 : Kd.C k77 w A0 l0.length l0) (hc0 : l0.length ≤ c0) (h : qaA.f k l0 = some r) :
  Calls Try.prog 106 #[.slice A0 l0.length c0] w fun e w' => e = .returned (.bool r) ∧ Below w.heap.size w w' := by
 have YO := Try.underlying77;have I7 := z_ hr0;have OF := z_ hc0;clear hr0 hc0;have HB := z_ (Below.refl w.heap.size w);have H : (if (l0.length : Int) > 4096 then (some false) else (if (l0.length : Int) > 60 then (some false) else (qaA.l0 k l0 0))) = some r := h;clear h
 by_cases c2 : (l0.length : Int) > 4096
 ·rw [if_pos c2] at H;have iG : decide (4096 < (l0.length : Int)) = true := decide_eq_true c2;have pH : decide (4096 < l0.length) = true := decide_eq_true zbV;clear c2;obtain rfl := Option.some.inj H
  go_enter Try.func106, Try.ntmps106
  go_wp2
  go_ret
  exact ⟨zaF, zaq⟩
 ·rw [if_neg c2] at H;have iG : decide (4096 < (l0.length : Int)) = false := decide_eq_false c2;have pH : decide (4096 < l0.length) = false := decide_eq_false zbV;clear c2
  by_cases c3 : (l0.length : Int) > 60
  ·rw [if_pos c3] at H;have M9 : decide (60 < (l0.length : Int)) = true := decide_eq_true c3;have nB : decide (60 < l0.length) = true := decide_eq_true zbV;clear c3;obtain rfl := Option.some.inj H
   go_enter Try.func106, Try.ntmps106
   go_wp2
   go_ret
   exact ⟨zaF, zaq⟩
  ·rw [if_neg c3] at H;have M9 : decide (60 < (l0.length : Int)) = false := decide_eq_false c3;have nB : decide (60 < l0.length) = false := decide_eq_false zbV;clear c3;have H' := z_ H;clear H
   go_enter Try.func106, Try.ntmps106
   go_wp2
   go_loopg [3] k (fun kq v3 w' => ∃ (G2 : Int), v3 = .int .i64 G2 ∧ Aside0 (qaA.l0 kq l0 G2 = some r) ∧ Aside0 (kq ≤ k) ∧ Aside0 (Below w.heap.size w w'))
   case atStart => exact ⟨(0), zbs, H', ⟨Nat.le_refl _⟩, ⟨zaq⟩⟩
   case round =>
    clear H';try clear c1
    try clear c2
    try clear iG
    try clear pH
    try clear p2
    try clear c3
    try clear M9
    try clear nB
    obtain ⟨G2, rfl, HA, q7, HB⟩ := hrel
    cases gk with
    | zero => exact absurd HA.o (by simp [qaA.l0])
    | succ k1 =>
     have H := HA.o;clear HA;simp only [qaA.l0] at H
     by_cases c4 : G2 < (l0.length : Int)
     ·rw [if_pos c4] at H;have GB : decide (G2 < (l0.length : Int)) = true := decide_eq_true c4;clear c4
      by_cases c5 : 0 ≤ G2
      ·rw [if_pos c5] at H;have fE : decide (0 ≤ G2) = true := decide_eq_true c5;clear c5;replace H := Option.bind_eq_some_iff.mp H;obtain ⟨vW, Ja, H⟩ := H;try dsimp only at H
       have A6 := z_ Ja;clear Ja
       by_cases c7 : vW = true
       ·subst c7;have H1 : (if G2 > 0 then (if 0 ≤ (wrap64 (G2 - 1)) then (if (wrap64 (G2 - 1)) < (l0.length : Int) then (if ((Op.bytesLess (((qaq l0 (wrap64 (G2 - 1))).f0).toList) (((qaq l0 G2).f0).toList)) = true) then (qaA.l0 k1 l0 (wrap64 (G2 + 1))) else (some false)) else (none)) else (none)) else (qaA.l0 k1 l0 (wrap64 (G2 + 1)))) = some r := zbE;clear H;have H := H1;clear H1
        by_cases c8 : G2 > 0
        ·rw [if_pos c8] at H;have aG : decide (0 < G2) = true := decide_eq_true c8;clear c8;obtain ⟨R9, rH⟩ : ∃ j_ : Int, (wrap64 (G2 - 1)) = j_ := ⟨_, rfl⟩
         replace H : (if 0 ≤ (R9) then (if (R9) < (l0.length : Int) then (if ((Op.bytesLess (((qaq l0 (R9)).f0).toList) (((qaq l0 G2).f0).toList)) = true) then (qaA.l0 k1 l0 (wrap64 (G2 + 1))) else (some false)) else (none)) else (none)) = some r := by first | (rw [rH] at H; exact H) | (simp only [rH] at H ⊢; exact H)
         (try rw [rH] at A6)
         have XY : (IntKind.i64.wrap (G2 - 1)) = R9 := (qbw _).trans rH
         by_cases c10 : 0 ≤ (R9)
         ·rw [if_pos c10] at H;have XF : decide (0 ≤ (R9)) = true := decide_eq_true c10;clear c10
          by_cases c11 : (R9) < (l0.length : Int)
          ·rw [if_pos c11] at H;have CE : decide ((R9) < (l0.length : Int)) = true := decide_eq_true c11;clear c11
           by_cases c12 : ((Op.bytesLess (((qaq l0 (R9)).f0).toList) (((qaq l0 G2).f0).toList)) = true)
           ·rw [if_pos c12] at H;have W9 : (Op.bytesLess (((qaq l0 (R9)).f0).toList) (((qaq l0 G2).f0).toList)) = true := c12;clear c12;have H' := z_ H;clear H;try go_wp2
            have H0 := z_ (qaP HB.o);clear HB;have HB := H0;clear H0;have XC : 0 ≤ (G2 : Int) := of_decide_eq_true zaN;have dD : G2 < (l0.length : Int) := of_decide_eq_true zaN;obtain ⟨t5, AL, O3, N3⟩ := qce I7.o G2 XC dD;have j8 := N3;have Z7 := O3
            cases AL
            replace O3 := (HB.o.cell (World.block_lt_of_cell? w _ O3)).trans O3;replace N3 := (HB.o.cell (World.block_lt_of_cell? w _ N3)).trans N3;replace XC := eq_true XC;replace dD := eq_true dD;have NL : 0 ≤ ((R9) : Int) := of_decide_eq_true zaN;have OL : (R9) < (l0.length : Int) := of_decide_eq_true zaN;obtain ⟨tP, YW, a7, g7⟩ := qce I7.o (R9) NL OL;have yD := g7;have kF := a7;obtain rfl : t5 = tP := (by injection YW);replace a7 := (HB.o.cell (World.block_lt_of_cell? w _ a7)).trans a7;replace g7 := (HB.o.cell (World.block_lt_of_cell? w _ g7)).trans g7;replace NL := eq_true NL;replace OL := eq_true OL;have VK : 0 ≤ (G2 : Int) := of_decide_eq_true zaN;have EL : G2 < (l0.length : Int) := of_decide_eq_true zaN;obtain ⟨PO, e108, b7, Y6⟩ := qce I7.o G2 VK EL;have uE := Y6;have tD := b7;obtain rfl : t5 = PO := (by injection e108);replace b7 := (HB.o.cell (World.block_lt_of_cell? w _ b7)).trans b7;replace Y6 := (HB.o.cell (World.block_lt_of_cell? w _ Y6)).trans Y6;replace VK := eq_true VK;replace EL := eq_true EL;refine qbq zbS zbS ?_;have Q4 := z_ (show wr.drew.cell? (t5.add ((G2).toNat * 2)) = some (.string ((qaq l0 G2).f0)) from ((HB.o.cell (World.block_lt_of_cell? w _ Z7)).trans Z7));have P4 := z_ (show wr.drew.cell? ⟨(t5.add ((G2).toNat * 2)).block, (t5.add ((G2).toNat * 2)).off + 1, none⟩ = some (.string ((qaq l0 G2).f1)) from ((HB.o.cell (World.block_lt_of_cell? w _ j8)).trans j8));have W6 := z_ (show wr.drew.cell? (t5.add (((R9)).toNat * 2)) = some (.string ((qaq l0 (R9)).f0)) from ((HB.o.cell (World.block_lt_of_cell? w _ kF)).trans kF));have X6 := z_ (show wr.drew.cell? ⟨(t5.add (((R9)).toNat * 2)).block, (t5.add (((R9)).toNat * 2)).off + 1, none⟩ = some (.string ((qaq l0 (R9)).f1)) from ((HB.o.cell (World.block_lt_of_cell? w _ yD)).trans yD));have D8 := z_ (show wr.drew.cell? (t5.add ((G2).toNat * 2)) = some (.string ((qaq l0 G2).f0)) from ((HB.o.cell (World.block_lt_of_cell? w _ tD)).trans tD));have K9 := z_ (show wr.drew.cell? ⟨(t5.add ((G2).toNat * 2)).block, (t5.add ((G2).toNat * 2)).off + 1, none⟩ = some (.string ((qaq l0 G2).f1)) from ((HB.o.cell (World.block_lt_of_cell? w _ uE)).trans uE));generalize wr.drew = DI at HB O3 N3 a7 g7 b7 Y6 Q4 P4 W6 X6 D8 K9 ⊢;clear O3 N3 a7 g7 b7 Y6;have hL0 := fun (p_ : Later DI) => Later.cell p_ Q4.o
            have hL1 := fun (p_ : Later DI) => Later.cell p_ P4.o
            have hL2 := fun (p_ : Later DI) => Later.cell p_ W6.o
            have hL3 := fun (p_ : Later DI) => Later.cell p_ X6.o
            have hL4 := fun (p_ : Later DI) => Later.cell p_ D8.o
            have hL5 := fun (p_ : Later DI) => Later.cell p_ K9.o
            clear Q4 P4 W6 X6 D8 K9
            repeat (first | go_big_quiet_step ((first | (go_at_call 113; exact Calls.qca (qbD.calls ((qaq l0 G2).f0) ((qaq l0 G2).f1) true _ A6.o)))) | quiet_step ((first | (go_at_call 113; exact Calls.qca (qbD.calls ((qaq l0 G2).f0) ((qaq l0 G2).f1) true _ A6.o)))))
            refine wpQuiet_nil ?_;rintro CK ⟨⟨bG, hbL⟩, jB⟩;have d9 : CK = bG := jB;clear jB;subst d9;clear hL0 hL1 hL2 hL3 hL4 hL5;have G6 := z_ (qad HB.o hbL);clear HB;have HB := G6;clear G6 hbL;try go_wp2
            go_roundg k1
            case measure => have := q7.o; omega
            case rel => exact ⟨(wrap64 (G2 + 1)), zbs, H', ⟨zbK⟩, ⟨zaq⟩⟩
           ·rw [if_neg c12] at H;have W9 : (Op.bytesLess (((qaq l0 (R9)).f0).toList) (((qaq l0 G2).f0).toList)) = false := by simpa using c12
            clear c12;obtain rfl := Option.some.inj H;try go_wp2
            have H0 := z_ (qaP HB.o);clear HB;have HB := H0;clear H0;have XC : 0 ≤ (G2 : Int) := of_decide_eq_true zaN;have dD : G2 < (l0.length : Int) := of_decide_eq_true zaN;obtain ⟨t5, AL, O3, N3⟩ := qce I7.o G2 XC dD;have j8 := N3;have Z7 := O3
            cases AL
            replace O3 := (HB.o.cell (World.block_lt_of_cell? w _ O3)).trans O3;replace N3 := (HB.o.cell (World.block_lt_of_cell? w _ N3)).trans N3;replace XC := eq_true XC;replace dD := eq_true dD;have NL : 0 ≤ ((R9) : Int) := of_decide_eq_true zaN;have OL : (R9) < (l0.length : Int) := of_decide_eq_true zaN;obtain ⟨tP, YW, a7, g7⟩ := qce I7.o (R9) NL OL;have yD := g7;have kF := a7;obtain rfl : t5 = tP := (by injection YW);replace a7 := (HB.o.cell (World.block_lt_of_cell? w _ a7)).trans a7;replace g7 := (HB.o.cell (World.block_lt_of_cell? w _ g7)).trans g7;replace NL := eq_true NL;replace OL := eq_true OL;have VK : 0 ≤ (G2 : Int) := of_decide_eq_true zaN;have EL : G2 < (l0.length : Int) := of_decide_eq_true zaN;obtain ⟨PO, e108, b7, Y6⟩ := qce I7.o G2 VK EL;have uE := Y6;have tD := b7;obtain rfl : t5 = PO := (by injection e108);replace b7 := (HB.o.cell (World.block_lt_of_cell? w _ b7)).trans b7;replace Y6 := (HB.o.cell (World.block_lt_of_cell? w _ Y6)).trans Y6;replace VK := eq_true VK;replace EL := eq_true EL;refine qbq zbS zbS ?_;have Q4 := z_ (show wr.drew.cell? (t5.add ((G2).toNat * 2)) = some (.string ((qaq l0 G2).f0)) from ((HB.o.cell (World.block_lt_of_cell? w _ Z7)).trans Z7));have P4 := z_ (show wr.drew.cell? ⟨(t5.add ((G2).toNat * 2)).block, (t5.add ((G2).toNat * 2)).off + 1, none⟩ = some (.string ((qaq l0 G2).f1)) from ((HB.o.cell (World.block_lt_of_cell? w _ j8)).trans j8));have W6 := z_ (show wr.drew.cell? (t5.add (((R9)).toNat * 2)) = some (.string ((qaq l0 (R9)).f0)) from ((HB.o.cell (World.block_lt_of_cell? w _ kF)).trans kF));have X6 := z_ (show wr.drew.cell? ⟨(t5.add (((R9)).toNat * 2)).block, (t5.add (((R9)).toNat * 2)).off + 1, none⟩ = some (.string ((qaq l0 (R9)).f1)) from ((HB.o.cell (World.block_lt_of_cell? w _ yD)).trans yD));have D8 := z_ (show wr.drew.cell? (t5.add ((G2).toNat * 2)) = some (.string ((qaq l0 G2).f0)) from ((HB.o.cell (World.block_lt_of_cell? w _ tD)).trans tD));have K9 := z_ (show wr.drew.cell? ⟨(t5.add ((G2).toNat * 2)).block, (t5.add ((G2).toNat * 2)).off + 1, none⟩ = some (.string ((qaq l0 G2).f1)) from ((HB.o.cell (World.block_lt_of_cell? w _ uE)).trans uE));generalize wr.drew = jG at HB O3 N3 a7 g7 b7 Y6 Q4 P4 W6 X6 D8 K9 ⊢;clear O3 N3 a7 g7 b7 Y6;have hL0 := fun (p_ : Later jG) => Later.cell p_ Q4.o
            have hL1 := fun (p_ : Later jG) => Later.cell p_ P4.o
            have hL2 := fun (p_ : Later jG) => Later.cell p_ W6.o
            have hL3 := fun (p_ : Later jG) => Later.cell p_ X6.o
            have hL4 := fun (p_ : Later jG) => Later.cell p_ D8.o
            have hL5 := fun (p_ : Later jG) => Later.cell p_ K9.o
            clear Q4 P4 W6 X6 D8 K9
            repeat (first | go_big_quiet_step ((first | (go_at_call 113; exact Calls.qca (qbD.calls ((qaq l0 G2).f0) ((qaq l0 G2).f1) true _ A6.o)))) | quiet_step ((first | (go_at_call 113; exact Calls.qca (qbD.calls ((qaq l0 G2).f0) ((qaq l0 G2).f1) true _ A6.o)))))
            refine wpQuiet_nil ?_;rintro w16 ⟨⟨bG, hbL⟩, jB⟩;have d9 : w16 = bG := jB;clear jB;subst d9;clear hL0 hL1 hL2 hL3 hL4 hL5;have G6 := z_ (qad HB.o hbL);clear HB;have HB := G6;clear G6 hbL;try go_wp2
            go_ret
            exact ⟨zaj, zaq⟩
          ·rw [if_neg c11] at H;exact absurd H zbW
         ·rw [if_neg c10] at H;exact absurd H zbW
        ·rw [if_neg c8] at H;have aG : decide (0 < G2) = false := decide_eq_false c8;clear c8;have H' := z_ H;clear H;try go_wp2
         have H0 := z_ (qaP HB.o);clear HB;have HB := H0;clear H0;have XC : 0 ≤ (G2 : Int) := of_decide_eq_true zaN;have dD : G2 < (l0.length : Int) := of_decide_eq_true zaN;obtain ⟨t5, AL, O3, N3⟩ := qce I7.o G2 XC dD;have j8 := N3;have Z7 := O3
         cases AL
         replace O3 := (HB.o.cell (World.block_lt_of_cell? w _ O3)).trans O3;replace N3 := (HB.o.cell (World.block_lt_of_cell? w _ N3)).trans N3;replace XC := eq_true XC;replace dD := eq_true dD;refine qbq zbS zbS ?_;have Q4 := z_ (show wr.drew.cell? (t5.add ((G2).toNat * 2)) = some (.string ((qaq l0 G2).f0)) from ((HB.o.cell (World.block_lt_of_cell? w _ Z7)).trans Z7));have P4 := z_ (show wr.drew.cell? ⟨(t5.add ((G2).toNat * 2)).block, (t5.add ((G2).toNat * 2)).off + 1, none⟩ = some (.string ((qaq l0 G2).f1)) from ((HB.o.cell (World.block_lt_of_cell? w _ j8)).trans j8));generalize wr.drew = nG at HB O3 N3 Q4 P4 ⊢;clear O3 N3;have hL0 := fun (p_ : Later nG) => Later.cell p_ Q4.o
         have hL1 := fun (p_ : Later nG) => Later.cell p_ P4.o
         clear Q4 P4
         repeat (first | go_big_quiet_step ((first | (go_at_call 113; exact Calls.qca (qbD.calls ((qaq l0 G2).f0) ((qaq l0 G2).f1) true _ A6.o)))) | quiet_step ((first | (go_at_call 113; exact Calls.qca (qbD.calls ((qaq l0 G2).f0) ((qaq l0 G2).f1) true _ A6.o)))))
         refine wpQuiet_nil ?_;rintro ae ⟨⟨bG, hbL⟩, jB⟩;have d9 : ae = bG := jB;clear jB;subst d9;clear hL0 hL1;have G6 := z_ (qad HB.o hbL);clear HB;have HB := G6;clear G6 hbL;try go_wp2
         go_roundg k1
         case measure => have := q7.o; omega
         case rel => exact ⟨(wrap64 (G2 + 1)), zbs, H', ⟨zbK⟩, ⟨zaq⟩⟩
       ·replace c7 := Bool.eq_false_iff.mpr c7;subst c7;have H1 : (some false) = some r := zaK;clear H;have H := H1;clear H1;obtain rfl := Option.some.inj H;try go_wp2
        have H0 := z_ (qaP HB.o);clear HB;have HB := H0;clear H0;have XC : 0 ≤ (G2 : Int) := of_decide_eq_true zaN;have dD : G2 < (l0.length : Int) := of_decide_eq_true zaN;obtain ⟨t5, AL, O3, N3⟩ := qce I7.o G2 XC dD;have j8 := N3;have Z7 := O3
        cases AL
        replace O3 := (HB.o.cell (World.block_lt_of_cell? w _ O3)).trans O3;replace N3 := (HB.o.cell (World.block_lt_of_cell? w _ N3)).trans N3;replace XC := eq_true XC;replace dD := eq_true dD;refine qbq zbS zbS ?_;have Q4 := z_ (show wr.drew.cell? (t5.add ((G2).toNat * 2)) = some (.string ((qaq l0 G2).f0)) from ((HB.o.cell (World.block_lt_of_cell? w _ Z7)).trans Z7));have P4 := z_ (show wr.drew.cell? ⟨(t5.add ((G2).toNat * 2)).block, (t5.add ((G2).toNat * 2)).off + 1, none⟩ = some (.string ((qaq l0 G2).f1)) from ((HB.o.cell (World.block_lt_of_cell? w _ j8)).trans j8));generalize wr.drew = CG at HB O3 N3 Q4 P4 ⊢;clear O3 N3;have hL0 := fun (p_ : Later CG) => Later.cell p_ Q4.o
        have hL1 := fun (p_ : Later CG) => Later.cell p_ P4.o
        clear Q4 P4
        repeat (first | go_big_quiet_step ((first | (go_at_call 113; exact Calls.qca (qbD.calls ((qaq l0 G2).f0) ((qaq l0 G2).f1) false _ A6.o)))) | quiet_step ((first | (go_at_call 113; exact Calls.qca (qbD.calls ((qaq l0 G2).f0) ((qaq l0 G2).f1) false _ A6.o)))))
        refine wpQuiet_nil ?_;rintro uG ⟨⟨bG, hbL⟩, jB⟩;have d9 : uG = bG := jB;clear jB;subst d9;clear hL0 hL1;have G6 := z_ (qad HB.o hbL);clear HB;have HB := G6;clear G6 hbL;try go_wp2
        go_ret
        exact ⟨zaF, zaq⟩
      ·rw [if_neg c5] at H;exact absurd H zbW
     ·rw [if_neg c4] at H;have GB : decide (G2 < (l0.length : Int)) = false := decide_eq_false c4;clear c4;obtain rfl := Option.some.inj H
      go_wp2
      go_ret
      exact ⟨zaF, zaq⟩
theorem qf1 (l : List S77) (hl : l.length ≤ 60) (rest : List S77) : ∀ (pre : List S77) (q : S77), l = (pre ++ [q]) ++ rest →
  Ev (fun k => qaA.l0 k l (((pre ++ [q]).length : Nat) : Int)) (chainB (some q) rest) := by
 induction rest with
 | nil =>
  intro pre q h;refine Ev.succ ?_;simp only [qaA.l0];exact Ev.neg zbQ (Ev.is rfl)
 | cons p r ih =>
  intro pre q h;have hx := qhb l (pre ++ [q]) r p h;have hq := qhb l pre (p :: r) q zbQ;have hlen : (pre ++ [q]).length < l.length := zbQ;have hw := qev (n := (pre ++ [q]).length) zbV;have hp : wrap64 ((((pre ++ [q]).length : Nat) : Int) - 1) = ((pre.length : Nat) : Int) := by rw [← qef]; exact qg9 (by simp at hlen <;> omega)
  have hi := ih (pre ++ [q]) p zbQ;rw [← qef] at hi;refine Ev.succ ?_;simp only [qaA.l0, hx, hp, hq, hw];refine Ev.pos zbV (Ev.pos zbV (Ev.bindk (qhd p) ?_))
  cases ho : okP p with
  | false => exact Ev.neg zbW (Ev.is (by simp [chainB, ho]))
  | true =>
   refine Ev.pos rfl (Ev.pos (by simp <;> omega) (Ev.pos zbV (Ev.pos (by simp at hlen <;> omega) ?_)))
   cases hb : Op.bytesLess q.f0.toList p.f0.toList with
   | false => exact Ev.neg zbW (Ev.is (by simp [chainB, ho, hb]))
   | true => exact Ev.pos rfl (Ev.same hi (by simp [chainB, ho, hb]))
theorem qju (l : List S77) (hl : l.length ≤ 60) : Ev (fun k => qaA.l0 k l 0) (chainB none l) := by
 cases l with
 | nil =>
  refine Ev.succ ?_;simp only [qaA.l0];exact Ev.neg zbW (Ev.is rfl)
 | cons p r =>
  have hx := qhb (p :: r) [] r p rfl;simp only [List.length_nil, Int.natCast_zero] at hx;have hi := qf1 (p :: r) hl r [] p rfl;refine Ev.succ ?_;simp only [qaA.l0, hx];refine Ev.pos (by simp <;> omega) (Ev.pos zbV (Ev.bindk (qhd p) ?_))
  cases ho : okP p with
  | false => exact Ev.neg zbW (Ev.is (by simp [chainB, ho]))
  | true =>
   have e0 : ((([] ++ [p] : List S77).length : Nat) : Int) = wrap64 (0 + 1) := by unfold wrap64; simp
   rw [e0] at hi;exact Ev.pos rfl (Ev.neg zbV (Ev.same hi (by simp [chainB, ho])))
theorem qhe (l : List S77) : Ev (fun k => qaA.f k l) (qda l) := by
 unfold qaA.f qda
 by_cases h1 : (l.length : Int) > 4096
 ·exact Ev.pos h1 (Ev.is (by simp [show ¬ l.length ≤ 60 from zbV]))
 ·by_cases h2 : (l.length : Int) > 60
  ·exact Ev.neg h1 (Ev.pos h2 (Ev.is (by simp [show ¬ l.length ≤ 60 from zbV])))
  ·exact Ev.neg h1 (Ev.neg h2 (Ev.same (qju l zbV) (by simp [show l.length ≤ 60 from zbV])))
theorem qf2 (l : List S77) (hl : l.length < 9223372036854775807) (rest : List S77) : ∀ (pre : List S77) (q : S77), l = (pre ++ [q]) ++ rest →
  Ev (fun k => qak.l0 k l l (l.length : Int) (((pre ++ [q]).length : Nat) : Int)) (chainB (some q) rest) := by
 induction rest with
 | nil =>
  intro pre q h;refine Ev.succ ?_;simp only [qak.l0];exact Ev.neg zbQ (Ev.is rfl)
 | cons p r ih =>
  intro pre q h;have hx := qhb l (pre ++ [q]) r p h;have hq := qhb l pre (p :: r) q zbQ;have hlen : (pre ++ [q]).length < l.length := zbQ;have hw := qev (n := (pre ++ [q]).length) zbV;have hp : wrap64 ((((pre ++ [q]).length : Nat) : Int) - 1) = ((pre.length : Nat) : Int) := by rw [← qef]; exact qg9 (by simp at hlen <;> omega)
  have hi := ih (pre ++ [q]) p zbQ;rw [← qef] at hi;refine Ev.succ ?_;simp only [qak.l0, hx, hp, hq, hw];refine Ev.pos zbV (Ev.pos zbV (Ev.pos zbV (Ev.bindk (qhc p) ?_)))
  cases ho : okP p with
  | false => exact Ev.neg zbW (Ev.is (by simp [chainB, ho]))
  | true =>
   refine Ev.pos rfl (Ev.pos (by simp <;> omega) (Ev.pos zbV (Ev.pos (by simp at hlen <;> omega) ?_)))
   cases hb : Op.bytesLess q.f0.toList p.f0.toList with
   | false => exact Ev.neg zbW (Ev.is (by simp [chainB, ho, hb]))
   | true => exact Ev.pos rfl (Ev.same hi (by simp [chainB, ho, hb]))
theorem qfC (l : List S77) (hl : l.length < 9223372036854775807) : Ev (fun k => qak.f k l) (chainB none l) := by
 unfold qak.f
 cases l with
 | nil =>
  refine Ev.succ ?_;simp only [qak.l0];exact Ev.neg zbW (Ev.is rfl)
 | cons p r =>
  have hx := qhb (p :: r) [] r p rfl;simp only [List.length_nil, Int.natCast_zero] at hx;have hi := qf2 (p :: r) hl r [] p rfl;refine Ev.succ ?_;simp only [qak.l0, hx];refine Ev.pos (by simp <;> omega) (Ev.pos zbV (Ev.pos (by simp <;> omega) (Ev.bindk (qhc p) ?_)))
  cases ho : okP p with
  | false => exact Ev.neg zbW (Ev.is (by simp [chainB, ho]))
  | true =>
   have e0 : ((([] ++ [p] : List S77).length : Nat) : Int) = wrap64 (0 + 1) := by unfold wrap64; simp
   rw [e0] at hi;exact Ev.pos rfl (Ev.neg zbV (Ev.same hi (by simp [chainB, ho])))
def qbr.f (G1 : Bool) (E0 : List (S77)) (u0 : List ByteArray) (B0 : List Int) : Option (Bool) := if G1 = true then (some false) else (if (E0.length : Int) = 0 then (if (u0.length : Int) = 0 then (some ((B0.length : Int) == 0)) else (some false)) else (some false))
set_option maxHeartbeats 8000000 in
set_option maxRecDepth 100000 in
theorem qbr.calls (G1 : Bool) (Y0 : Option Addr) (Z0 : Nat) (E0 : List (S77)) (D1 : Option Addr) (W0 : Nat) (u0 : List ByteArray) (X0 : Option Addr) (R0 : Nat) (B0 : List Int) (r : Bool) (w : World) (M7 : Kd.C k77 w Y0 E0.length E0) (J7 : E0.length ≤ Z0) (P7 : Kd.C Kd.string w D1 u0.length u0) (d8 : u0.length ≤ W0) (b8 : Kd.C (Kd.int .i64) w X0 B0.length B0) (S7 : B0.length ≤ R0) (h : qbr.f G1 E0 u0 B0 = some r) :
  Calls Try.prog 97 #[.agg #[.bool G1, .slice Y0 E0.length Z0, .slice D1 u0.length W0, .slice X0 B0.length R0]] w fun e w' => e = .returned (.bool r) ∧ Below w.heap.size w w' := by
 have JN := Try.underlying75;have U6 := z_ M7;have j7 := z_ J7;clear M7 J7;have d5 := z_ P7;have j9 := z_ d8;clear P7 d8;have g6 := z_ b8;have n9 := z_ S7;clear b8 S7;have HB := z_ (Below.refl w.heap.size w);have H : (if G1 = true then (some false) else (if (E0.length : Int) = 0 then (if (u0.length : Int) = 0 then (some ((B0.length : Int) == 0)) else (some false)) else (some false))) = some r := h;clear h
 by_cases c2 : G1 = true
 ·subst c2;have H1 : (some false) = some r := zbE;clear H;have H := H1;clear H1;obtain rfl := Option.some.inj H
  go_enter Try.func97, Try.ntmps97
  go_wp2_with (first | ((with_reducible refine qaG (N := 1) rfl ?_); (try (refine qbe zbX ?_; dsimp only)); refine qaS zbX (N := 1) zbX (cs := #[.bool true, .slice Y0 E0.length Z0, .slice D1 u0.length W0, .slice X0 B0.length R0]) (t := 75) zbv ?_; intro Z5 hg w3 hbox hb; have H0 := z_ (qad zaq hb); have I0 := z_ (hbox); have K0 := z_ ((zal : w.heap.size ≤ Z5)); have U0 := z_ ((zal : w.heap.size ≤ Z5)); clear HB; have HB := H0; have L4 := I0; have VO := K0; have bH := U0; clear H0 I0 K0 U0 hb hbox hg; have gV : w3.cell? ⟨Z5, 0, none⟩ = some (.bool true) := (qac L4.o 0).trans rfl; have KW : w3.cell? ⟨Z5, 1, none⟩ = some (.slice Y0 E0.length Z0) := (qac L4.o 1).trans rfl; have EU : w3.cell? ⟨Z5, 2, none⟩ = some (.slice D1 u0.length W0) := (qac L4.o 2).trans rfl; have XU : w3.cell? ⟨Z5, 3, none⟩ = some (.slice X0 B0.length R0) := (qac L4.o 3).trans rfl; have HV := qab L4.o 0; have nX := qab L4.o 1; have AW := qab L4.o 2; have kX := qab L4.o 3))
  go_ret
  exact ⟨zaF, zab bH.o⟩
 ·replace c2 := Bool.eq_false_iff.mpr c2;subst c2;have H1 : (if (E0.length : Int) = 0 then (if (u0.length : Int) = 0 then (some ((B0.length : Int) == 0)) else (some false)) else (some false)) = some r := zaK;clear H;have H := H1;clear H1
  by_cases c5 : (E0.length : Int) = 0
  ·rw [if_pos c5] at H;have fE : ((E0.length : Int) == 0) = true := beq_iff_eq.mpr c5;have KN : ((E0.length : Int) != 0) = false := bne_eq_false_iff_eq.mpr c5;clear c5
   by_cases c6 : (u0.length : Int) = 0
   ·rw [if_pos c6] at H;have mH : ((u0.length : Int) == 0) = true := beq_iff_eq.mpr c6;have uL : ((u0.length : Int) != 0) = false := bne_eq_false_iff_eq.mpr c6;clear c6;obtain rfl := Option.some.inj H
    go_enter Try.func97, Try.ntmps97
    go_wp2_with (first | ((with_reducible refine qaG (N := 1) rfl ?_); (try (refine qbe zbX ?_; dsimp only)); refine qaS zbX (N := 1) zbX (cs := #[.bool false, .slice Y0 E0.length Z0, .slice D1 u0.length W0, .slice X0 B0.length R0]) (t := 75) zbv ?_; intro Z5 hg w7 hbox hb; have H0 := z_ (qad zaq hb); have I0 := z_ (hbox); have K0 := z_ ((zal : w.heap.size ≤ Z5)); have U0 := z_ ((zal : w.heap.size ≤ Z5)); clear HB; have HB := H0; have L4 := I0; have VO := K0; have bH := U0; clear H0 I0 K0 U0 hb hbox hg; have MV : w7.cell? ⟨Z5, 0, none⟩ = some (.bool false) := (qac L4.o 0).trans rfl; have JV : w7.cell? ⟨Z5, 1, none⟩ = some (.slice Y0 E0.length Z0) := (qac L4.o 1).trans rfl; have CV : w7.cell? ⟨Z5, 2, none⟩ = some (.slice D1 u0.length W0) := (qac L4.o 2).trans rfl; have zW : w7.cell? ⟨Z5, 3, none⟩ = some (.slice X0 B0.length R0) := (qac L4.o 3).trans rfl; have mW := qab L4.o 0; have PU := qab L4.o 1; have TW := qab L4.o 2; have WU := qab L4.o 3))
    go_ret
    exact ⟨zaF, zab bH.o⟩
   ·rw [if_neg c6] at H;have mH : ((u0.length : Int) == 0) = false := beq_eq_false_iff_ne.mpr c6;have uL : ((u0.length : Int) != 0) = true := bne_iff_ne.mpr c6;have Yd : ¬ (u0 = []) := fun h_ => c6 (by rw [h_]; rfl)
    obtain rfl := Option.some.inj H
    go_enter Try.func97, Try.ntmps97
    go_wp2_with (first | ((with_reducible refine qaG (N := 1) rfl ?_); (try (refine qbe zbX ?_; dsimp only)); refine qaS zbX (N := 1) zbX (cs := #[.bool false, .slice Y0 E0.length Z0, .slice D1 u0.length W0, .slice X0 B0.length R0]) (t := 75) zbv ?_; intro Z5 hg w9 hbox hb; have H0 := z_ (qad zaq hb); have I0 := z_ (hbox); have K0 := z_ ((zal : w.heap.size ≤ Z5)); have U0 := z_ ((zal : w.heap.size ≤ Z5)); clear HB; have HB := H0; have L4 := I0; have VO := K0; have bH := U0; clear H0 I0 K0 U0 hb hbox hg; have kG : w9.cell? ⟨Z5, 0, none⟩ = some (.bool false) := (qac L4.o 0).trans rfl; have wM : w9.cell? ⟨Z5, 1, none⟩ = some (.slice Y0 E0.length Z0) := (qac L4.o 1).trans rfl; have PM : w9.cell? ⟨Z5, 2, none⟩ = some (.slice D1 u0.length W0) := (qac L4.o 2).trans rfl; have aM : w9.cell? ⟨Z5, 3, none⟩ = some (.slice X0 B0.length R0) := (qac L4.o 3).trans rfl; have rG := qab L4.o 0; have NM := qab L4.o 1; have qM := qab L4.o 2; have pM := qab L4.o 3))
    go_ret
    exact ⟨zaF, zab bH.o⟩
  ·rw [if_neg c5] at H;have fE : ((E0.length : Int) == 0) = false := beq_eq_false_iff_ne.mpr c5;have KN : ((E0.length : Int) != 0) = true := bne_iff_ne.mpr c5;have Dg : ¬ (E0 = []) := fun h_ => c5 (by rw [h_]; rfl)
   obtain rfl := Option.some.inj H
   go_enter Try.func97, Try.ntmps97
   go_wp2_with (first | ((with_reducible refine qaG (N := 1) rfl ?_); (try (refine qbe zbX ?_; dsimp only)); refine qaS zbX (N := 1) zbX (cs := #[.bool false, .slice Y0 E0.length Z0, .slice D1 u0.length W0, .slice X0 B0.length R0]) (t := 75) zbv ?_; intro Z5 hg lL hbox hb; have H0 := z_ (qad zaq hb); have I0 := z_ (hbox); have K0 := z_ ((zal : w.heap.size ≤ Z5)); have U0 := z_ ((zal : w.heap.size ≤ Z5)); clear HB; have HB := H0; have L4 := I0; have VO := K0; have bH := U0; clear H0 I0 K0 U0 hb hbox hg; have zC : lL.cell? ⟨Z5, 0, none⟩ = some (.bool false) := (qac L4.o 0).trans rfl; have AC : lL.cell? ⟨Z5, 1, none⟩ = some (.slice Y0 E0.length Z0) := (qac L4.o 1).trans rfl; have WB : lL.cell? ⟨Z5, 2, none⟩ = some (.slice D1 u0.length W0) := (qac L4.o 2).trans rfl; have sR : lL.cell? ⟨Z5, 3, none⟩ = some (.slice X0 B0.length R0) := (qac L4.o 3).trans rfl; have kC := qab L4.o 0; have dC := qab L4.o 1; have YB := qab L4.o 2; have rR := qab L4.o 3))
   go_ret
   exact ⟨zaF, zab bH.o⟩
end Go.Proofs.Ytcdokcpiahbejaa.X
