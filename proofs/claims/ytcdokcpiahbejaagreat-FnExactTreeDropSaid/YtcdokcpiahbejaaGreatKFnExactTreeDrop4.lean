import Derived.Test.YtcdokcpiahbejaaGreatKFnExactTreeDrop3
import Derived.Lib.SliceRun
import Derived.Lib.Overlaps
import Derived.Lib.AppendZerosOnto
import Derived.Laws.NewBlocks
set_option maxRecDepth 100000
set_option maxHeartbeats 16000000
set_option linter.unusedVariables false
set_option linter.unusedSimpArgs false
namespace Go.Proofs.YtcdokcpiahbejaaGreat.X
open Go.RowKit Go.Proofs.PW Go.Proofs.PL Go.Proofs.PM
attribute [local go_sem] qaj qak qal qaf qag qao qap qad qae qah qai
def cmpS (a b : ByteArray) : Int := if Op.bytesLess a.toList b.toList = true then -1 else if a.toList = b.toList then 0 else 1
theorem qgV (a b : List UInt8) : Lib.compareBytes a b = if Op.bytesLess a b = true then -1 else if a = b then 0 else 1 := by
 induction a generalizing b with
 | nil => cases b <;> simp [Lib.compareBytes, Op.bytesLess]
 | cons x a ih =>
  cases b with
  | nil => simp [Lib.compareBytes, Op.bytesLess]
  | cons y b =>
   simp only [Lib.compareBytes, Op.bytesLess]
   by_cases h1 : x < y
   ·simp [h1]
   ·by_cases h2 : y < x
    ·have h3 : ¬ x = y := by rintro rfl; exact h1 h2
     simp [h1, h2, h3]
    ·have h3 : x = y := by simp [UInt8.lt_iff_toNat_lt, ← UInt8.toNat_inj] at *; omega
     subst h3;simp [h1, ih b]
theorem cmpS_is (a b : ByteArray) : Lib.compareBytes a.data.toList b.data.toList = cmpS a b := by
 unfold cmpS;rw [qgV, ByteArray.toList_eq, ByteArray.toList_eq]
theorem bytealg_CompareString (a b : ByteArray) (w : World) :
  Calls Tryz.prog 63 #[.string a, .string b] w fun e w' => e = .returned (.int .i64 (cmpS a b)) ∧ w' = w := by
 rw [← cmpS_is]
 go_enter Tryz.func63, Tryz.ntmps63
 go_wp2
 rw [run_callFunc_extern Tryz.func95 zdG zdG zdG (e := Extern.BytealgCompare.compare) zdG, Lib.run_compareString];simp only [Result.andThen];rw [Oper.upon_value]
 go_wp2
 go_ret
 exact ⟨rfl, rfl⟩
theorem qeJ (a b : ByteArray) (w : World) :
  Calls Tryz.prog 34 #[.string a, .string b] w fun e w' => e = .returned (.int .i64 (cmpS a b)) ∧ w' = w := by
 go_enter Tryz.func34, Tryz.ntmps34
 go_wp2_with fail
 refine (bytealg_CompareString _ _ _).mono ?_;rintro e w' ⟨rfl, rfl⟩
 go_wp2_with fail
 go_ret
 exact ⟨rfl, rfl⟩
def lowAt (l : List S61) (key : ByteArray) : Nat := l.findIdx fun p => !Op.bytesLess p.f0.toList key.toList
def hasAt (l : List S61) (key : ByteArray) : Bool := decide (lowAt l key < l.length) && decide ((qan l (lowAt l key)).f0.toList = key.toList)
theorem qkk {l : List S61} {key : ByteArray} {i : Nat} (hi : i ≤ l.length) (h0 : ∀ j (hj : j < l.length), j < i → Op.bytesLess l[j].f0.toList key.toList = true) (h1 : ∀ (hj : i < l.length), Op.bytesLess l[i].f0.toList key.toList = false) : lowAt l key = i := by
 unfold lowAt
 rcases Nat.lt_or_ge i l.length with h | h
 ·exact (List.findIdx_eq h).2 ⟨by simp [h1 h], fun j hj => by simp [h0 j zdM hj]⟩
 ·have e : i = l.length := zdM;rw [e];exact List.findIdx_eq_length.2 fun x hx => by
   obtain ⟨j, hj, rfl⟩ := List.getElem_of_mem hx;simp [h0 j hj zdM]
def qcO.f (l0 : List S61) (a1 : ByteArray) : Option (Int × Bool) := if Rises l0 ∧ l0.length ≤ 1000000 then some ((lowAt l0 a1 : Int), hasAt l0 a1) else none
theorem qdU (x : S61) (key : ByteArray) (w : World) : Calls Tryz.prog 81 #[.agg #[.string x.f0, .string x.f1], .string key] w fun e w' => e = .returned (.int .i64 (cmpS x.f0 key)) ∧ Below w.heap.size w w' := by
 have hu := Tryz.underlying61
 go_enter Tryz.func81, Tryz.ntmps81
 go_wp2_with fail
 refine (qeJ _ _ _).mono ?_;rintro e w' ⟨rfl, rfl⟩
 go_wp2_with fail
 go_ret
 exact ⟨rfl, (Below.refl _ _).alloc (Nat.le_refl _) _⟩
theorem cmpS_neg {a b : ByteArray} (h : Op.bytesLess a.toList b.toList = true) : cmpS a b = -1 := by unfold cmpS; rw [if_pos h]
theorem qjP {a b : ByteArray} (h : Op.bytesLess a.toList b.toList = false) : 0 ≤ cmpS a b := by unfold cmpS; rw [if_neg (by rw [h]; decide)]; split <;> omega
theorem qfJ {a b : ByteArray} : cmpS a b = 0 ↔ a.toList = b.toList := by
 unfold cmpS
 by_cases h : Op.bytesLess a.toList b.toList = true
 ·rw [if_pos h];exact ⟨fun e => zdM, fun e => by rw [e, qco] at h; cases h⟩
 ·rw [if_neg h]
  by_cases k : a.toList = b.toList
  ·simp [k]
  ·simp [k]
theorem qfK (A0 : Option Addr) (c0 : Nat) (l0 : List S61) (a1 : ByteArray) (w : World) (hr0 : Kd.C k61 w A0 l0.length l0) (hs : Rises l0) (hl : l0.length ≤ 1000000) :
  Calls Tryz.prog 80 #[.slice A0 l0.length c0, .string a1, .func (.func 81) #[] #[]] w
   fun e w' => e = .returned (.tuple #[.int .i64 (lowAt l0 a1), .bool (hasAt l0 a1)]) ∧ Below w.heap.size w w' := by
 have hu := Tryz.underlying61;have Z1 := z_ hr0;have HS := z_ hs;clear hr0 hs
 go_enter Tryz.func80, Tryz.ntmps80
 go_wp2_with fail
 go_loopw [9, 10] (fun v9 v10 wr => ∃ i j : Nat, i ≤ j ∧ j ≤ l0.length ∧ v9 = .int .i64 i ∧ v10 = .int .i64 j ∧ Aside0 (∀ m (hm : m < l0.length), m < i → Op.bytesLess l0[m].f0.toList a1.toList = true) ∧ Aside0 (∀ m (hm : m < l0.length), j ≤ m → Op.bytesLess l0[m].f0.toList a1.toList = false) ∧ Aside0 (Below w.heap.size w wr)) (fun v9 v10 _ => (intOf v10).toNat - (intOf v9).toNat)
 case atStart => exact ⟨0, l0.length, Nat.zero_le _, Nat.le_refl _, rfl, rfl, ⟨fun m hm h => absurd h zdM⟩, ⟨fun m hm h => absurd h zdM⟩, ⟨Below.refl _ _⟩⟩
 case round =>
  obtain ⟨i, j, hij, hj, rfl, rfl, HL, HG, HB⟩ := hrel
  by_cases hlt : i < j
  ·obtain ⟨h, hh⟩ : ∃ h : Nat, h = (i + j) / 2 := ⟨_, rfl⟩
   have hh1 : i ≤ h := zdM;have hh2 : h < j := zdM;have hh3 : h < l0.length := zdM;have p1 : 0 ≤ (h : Int) := zdM;have q1 : (h : Int) < (l0.length : Int) := zdM;obtain ⟨zd, e1, hx0, hx1⟩ := qb1 Z1.o (h : Int) p1 q1;have hx : qan l0 (h : Int) = l0[h] := by unfold qan; rw [Int.toNat_natCast]; simp [List.getD_eq_getElem?_getD, hh3]
   rw [hx] at hx0 hx1
   cases e1
   replace hx0 := zmove_ HB rfl hx0;replace hx1 := zmove_ HB rfl hx1;rw [Int.toNat_natCast] at hx0 hx1;clear hx;obtain ⟨x, hx⟩ : ∃ x, x = l0[h] := ⟨_, rfl⟩
   rw [← hx] at hx0 hx1;have HX := z_ hx;clear hx;subst hh
   cases hb : Op.bytesLess x.f0.toList a1.toList with
   | true =>
    have HC := z_ (cmpS_neg hb);have AE := z_ hb;clear hb
    go_wp2_with fail
    refine (qdU x a1 _).mono ?_;rintro e w1 ⟨rfl, hb1⟩;rw [HC.o]
    go_wp2_with fail
    go_roundw
    case rel => exact ⟨(i + j) / 2 + 1, j, zdM, zdM, zdL, rfl, ⟨fun m hm h => by
     by_cases e : m = (i + j) / 2
     ·subst e; rw [← HX.o]; exact AE.o
     ·have hm2 : m < (i + j) / 2 := zdM;have := qe4 HS.o hh3 hm2;rw [← HX.o] at this;exact qcs this AE.o⟩, HG, ⟨qaa HB.o hb1⟩⟩
    case measure => simp [intOf]; omega
   | false =>
    have hc := qjP hb;obtain ⟨c, hcc⟩ : ∃ c, c = cmpS x.f0 a1 := ⟨_, rfl⟩
    rw [← hcc] at hc;have HC := z_ hcc;have hc2 : decide (c < 0) = false := decide_eq_false zdM;have AE := z_ hb;clear hb hcc hc
    go_wp2_with fail
    refine (qdU x a1 _).mono ?_;rintro e w1 ⟨rfl, hb1⟩;rw [← HC.o]
    go_wp2_with fail
    go_roundw
    case rel => exact ⟨i, (i + j) / 2, zdM, zdM, rfl, zdL, HL, ⟨fun m hm h => by
     by_cases e : m = (i + j) / 2
     ·subst e; rw [← HX.o]; exact AE.o
     ·have hm2 : (i + j) / 2 < m := zdM;have h2 := qe4 HS.o hm hm2;rw [← HX.o] at h2
      cases h3 : Op.bytesLess l0[m].f0.toList a1.toList with
      | false => rfl
      | true => have := qcs h2 h3; rw [AE.o] at this; cases this⟩, ⟨qaa HB.o hb1⟩⟩
    case measure => simp [intOf]; omega
  ·have hie : i = j := zdM;subst hie;have HI := z_ (qkk hj HL.o (fun h => HG.o i h (Nat.le_refl _)))
   by_cases hn : i < l0.length
   ·have p1 : 0 ≤ (i : Int) := zdM;have q1 : (i : Int) < (l0.length : Int) := zdM;obtain ⟨zd, e1, hx0, hx1⟩ := qb1 Z1.o (i : Int) p1 q1
    cases e1
    replace hx0 := zmove_ HB rfl hx0;replace hx1 := zmove_ HB rfl hx1;rw [Int.toNat_natCast] at hx0 hx1;obtain ⟨x, hx⟩ : ∃ x, x = qan l0 (i : Int) := ⟨_, rfl⟩
    rw [← hx] at hx0 hx1;have HX := z_ hx;clear hx;obtain ⟨c, hcc⟩ : ∃ c, c = cmpS x.f0 a1 := ⟨_, rfl⟩
    have HC := z_ hcc;clear hcc
    by_cases hz : c = 0
    ·have HZ : hasAt l0 a1 = true := by
      unfold hasAt;rw [HI.o, ← HX.o, decide_eq_true hn, decide_eq_true (qfJ.1 (HC.o ▸ hz))];rfl
     have HZ2 := z_ HZ;clear HZ;have hz2 : (c == 0) = true := beq_iff_eq.2 hz;have HZ3 := z_ hz;clear hz
     go_wp2_with fail
     refine (qdU x a1 _).mono ?_;rintro e w1 ⟨rfl, hb1⟩;rw [← HC.o]
     go_wp2_with fail
     go_ret2
     exact ⟨zcQ, qaa HB.o hb1⟩
    ·have HZ : hasAt l0 a1 = false := by
      unfold hasAt;rw [HI.o, ← HX.o, decide_eq_false (fun e => hz (HC.o.trans (qfJ.2 e)))];simp
     have HZ2 := z_ HZ;clear HZ;have hz2 : (c == 0) = false := beq_eq_false_iff_ne.2 hz;have HZ3 := z_ hz;clear hz
     go_wp2_with fail
     refine (qdU x a1 _).mono ?_;rintro e w1 ⟨rfl, hb1⟩;rw [← HC.o]
     go_wp2_with fail
     go_ret2
     exact ⟨zcQ, qaa HB.o hb1⟩
   ·have HZ : hasAt l0 a1 = false := by
     unfold hasAt;rw [HI.o, decide_eq_false hn];rfl
    have HZ2 := z_ HZ;clear HZ
    go_wp2_with fail
    go_ret2
    exact ⟨zcQ, HB.o⟩
theorem qcO.calls (A0 : Option Addr) (c0 : Nat) (l0 : List (S61)) (a1 : ByteArray) (r1 : Int) (r2 : Bool) (w : World) (hr0 : Kd.C k61 w A0 l0.length l0) (hc0 : l0.length ≤ c0) (h : qcO.f l0 a1 = some (r1, r2)) :
  Calls Tryz.prog 50 #[.slice A0 l0.length c0, .string a1] w fun e w' => e = .returned (.tuple #[.int .i64 r1, .bool r2]) ∧ Below w.heap.size w w' := by
 unfold qcO.f at h
 by_cases hs : Rises l0 ∧ l0.length ≤ 1000000
 ·rw [if_pos hs] at h;have h' := Option.some.inj h;clear h;obtain ⟨rfl, rfl⟩ := Prod.mk.inj h';clear h';have HC := z_ (qfK A0 c0 l0 a1 w hr0 hs.1 hs.2);clear hr0 hs;generalize hasAt l0 a1 = b at HC ⊢;generalize lowAt l0 a1 = i at HC ⊢
  go_enter Tryz.func50, Tryz.ntmps50
  go_wp2_with fail
  refine HC.o.mono ?_;rintro e w1 ⟨rfl, hb1⟩
  go_wp2_with fail
  go_ret2
  exact ⟨rfl, hb1⟩
 ·rw [if_neg hs] at h
  cases h
def qbt.l0 : Nat → List (S61) → ByteArray → Int → Option (Int)
 | 0, _, _, _ => none
 | k + 1, x0, x1, x5 => if x5 < (x0.length : Int) then (if 0 ≤ x5 then (if (Op.bytesLess (((qan x0 x5).f0).toList) x1.toList) = true then (qbt.l0 k x0 x1 (wrap64 (x5 + 1))) else (some x5)) else (none)) else (some x5)
def qbt.f (k : Nat) (l0 : List (S61)) (a1 : ByteArray) : Option (Int) := qbt.l0 k l0 a1 0
theorem qbt.qbl : ∀ k, (∀ y0 y1 y2, LeO (qbt.l0 k y0 y1 y2) (qbt.l0 (k + 1) y0 y1 y2))
 | 0 => fun _ _ _ r h => by simp [qbt.l0] at h
 | k + 1 => by
  have Q9 := qbt.qbl k
  ·intro y0 y1 y2;unfold qbt.l0;exact zleo_
theorem qbt.calls (k : Nat) (A0 : Option Addr) (c0 : Nat) (l0 : List (S61)) (a1 : ByteArray) (r : Int) (w : World) (hr0 : Kd.C k61 w A0 l0.length l0) (hc0 : l0.length ≤ c0) (h : qbt.f k l0 a1 = some r) :
  Calls Tryz.prog 40 #[.slice A0 l0.length c0, .string a1] w fun e w' => e = .returned (.int .i64 r) ∧ qcm w w' := by
 have Z1 := z_ hr0;have kB := z_ hc0;clear hr0 hc0;have H : (qbt.l0 k l0 a1 0) = some r := h;clear h;have H' := z_ H;clear H
 go_enter Tryz.func40, Tryz.ntmps40
 go_wp2
 go_loopg [5] k (fun kq v5 w' => ∃ (o0 : Int), v5 = .int .i64 o0 ∧ Aside0 (qbt.l0 kq l0 a1 o0 = some r) ∧ Aside0 (kq ≤ k) ∧ qcm w w')
 case atStart => exact ⟨(0), zcc, H', ⟨Nat.le_refl _⟩, zbh⟩
 case round =>
  clear H';obtain ⟨o0, rfl, HA, I5, ⟨m1, rfl⟩⟩ := hrel
  cases gk with
  | zero => exact absurd HA.o (by simp [qbt.l0])
  | succ k1 =>
   have H := HA.o;clear HA;simp only [qbt.l0] at H
   by_cases c3 : o0 < (l0.length : Int)
   ·rw [if_pos c3] at H;have Y1 : decide (o0 < (l0.length : Int)) = true := decide_eq_true c3;clear c3
    by_cases c4 : 0 ≤ o0
    ·rw [if_pos c4] at H;have G4 : decide (0 ≤ o0) = true := decide_eq_true c4;clear c4
     by_cases c5 : (Op.bytesLess (((qan l0 o0).f0).toList) a1.toList) = true
     ·rw [if_pos c5] at H;have O8 : (Op.bytesLess (((qan l0 o0).f0).toList) a1.toList) = true := c5;clear c5;have H' := z_ H;clear H;have EL : 0 ≤ (o0 : Int) := zod_;have UL : o0 < (l0.length : Int) := zod_;obtain ⟨ci, vZ, kX, MU⟩ := qb1 Z1.o o0 EL UL
      cases vZ
      replace EL := eq_true EL;replace UL := eq_true UL
      go_wp2
      go_roundg k1
      case measure => have := I5.o; omega
      case rel => exact ⟨(wrap64 (o0 + 1)), zcc, H', ⟨zcY⟩, zbh⟩
     ·rw [if_neg c5] at H;have O8 : (Op.bytesLess (((qan l0 o0).f0).toList) a1.toList) = false := zdw;clear c5;obtain rfl := Option.some.inj H;have EL : 0 ≤ (o0 : Int) := zod_;have UL : o0 < (l0.length : Int) := zod_;obtain ⟨ci, vZ, kX, MU⟩ := qb1 Z1.o o0 EL UL
      cases vZ
      replace EL := eq_true EL;replace UL := eq_true UL
      go_wp2
      go_ret
      exact ⟨zcc, zbh⟩
    ·rw [if_neg c4] at H;exact absurd H zdN
   ·rw [if_neg c3] at H;have Y1 : decide (o0 < (l0.length : Int)) = false := decide_eq_false c3;clear c3;obtain rfl := Option.some.inj H
    go_wp2
    go_ret
    exact ⟨zcc, zbh⟩
def qdP.f (k : Nat) (l0 : List (S61)) (a1 : ByteArray) : Option (ByteArray × Bool) := (qbt.f k l0 a1).bind fun d6 => (if d6 < (l0.length : Int) then (if 0 ≤ d6 then (if ((qan l0 d6).f0).toList = a1.toList then (some ((qan l0 d6).f1, true)) else (some ((⟨#[]⟩ : ByteArray), false))) else (none)) else (some ((⟨#[]⟩ : ByteArray), false)))
theorem qdP.calls (k : Nat) (A0 : Option Addr) (c0 : Nat) (l0 : List (S61)) (a1 : ByteArray) (r1 : ByteArray) (r2 : Bool) (w : World) (hr0 : Kd.C k61 w A0 l0.length l0) (hc0 : l0.length ≤ c0) (h : qdP.f k l0 a1 = some (r1, r2)) :
  Calls Tryz.prog 30 #[.slice A0 l0.length c0, .string a1] w fun e w' => e = .returned (.tuple #[.string r1, .bool r2]) ∧ qcm w w' := by
 have Z1 := z_ hr0;have kB := z_ hc0;clear hr0 hc0;have H : ((qbt.f k l0 a1).bind fun d6 => (if d6 < (l0.length : Int) then (if 0 ≤ d6 then (if ((qan l0 d6).f0).toList = a1.toList then (some ((qan l0 d6).f1, true)) else (some ((⟨#[]⟩ : ByteArray), false))) else (none)) else (some ((⟨#[]⟩ : ByteArray), false)))) = some (r1, r2) := h;clear h;replace H := Option.bind_eq_some_iff.mp H;obtain ⟨d6, GE, H⟩ := H;try dsimp only at H
 have A3 := z_ GE;clear GE
 by_cases c4 : d6 < (l0.length : Int)
 ·rw [if_pos c4] at H;have G4 : decide (d6 < (l0.length : Int)) = true := decide_eq_true c4;clear c4
  by_cases c5 : 0 ≤ d6
  ·rw [if_pos c5] at H;have O8 : decide (0 ≤ d6) = true := decide_eq_true c5;clear c5
   by_cases c6 : ((qan l0 d6).f0).toList = a1.toList
   ·rw [if_pos c6] at H;have u7 : (((qan l0 d6).f0).toList == a1.toList) = true := beq_iff_eq.mpr c6;have yG : (((qan l0 d6).f0).toList != a1.toList) = false := bne_eq_false_iff_eq.mpr c6;clear c6;simp only [Option.some.injEq, Prod.mk.injEq] at H;obtain ⟨rfl, rfl⟩ := H
    go_enter Tryz.func30, Tryz.ntmps30
    go_wp2_with (first | ((with_reducible refine qax (f := 40) rfl ?_); refine qbq (some 9) rfl rfl Tryz.func40 zdG rfl #[.slice A0 l0.length c0, .string a1] rfl zaq ?_; (with_reducible refine (qbt.calls k _ _ l0 a1 d6 _ ?side1 ?side2 A3.o).mono ?_); (case side1 => exact zae Z1.o); (case side2 => exact kB.o); rintro e w' ⟨rfl, ⟨nd, rfl⟩⟩; refine ⟨_, rfl, ?_⟩; have RL : 0 ≤ (d6 : Int) := zod_; have nN : d6 < (l0.length : Int) := zod_; obtain ⟨EY, VZ, oW, XW⟩ := qb1 Z1.o d6 RL nN; cases VZ; replace RL := eq_true RL; replace nN := eq_true nN; have WZ : 0 ≤ (d6 : Int) := zod_; have XY : d6 < (l0.length : Int) := zod_; obtain ⟨Ng, km, Ik, Ti⟩ := qb1 Z1.o d6 WZ XY; obtain rfl : EY = Ng := (by injection km); replace WZ := eq_true WZ; replace XY := eq_true XY))
    go_ret2
    exact ⟨zcc, zbh⟩
   ·rw [if_neg c6] at H;have u7 : (((qan l0 d6).f0).toList == a1.toList) = false := beq_eq_false_iff_ne.mpr c6;have yG : (((qan l0 d6).f0).toList != a1.toList) = true := bne_iff_ne.mpr c6;simp only [Option.some.injEq, Prod.mk.injEq] at H;obtain ⟨rfl, rfl⟩ := H
    go_enter Tryz.func30, Tryz.ntmps30
    go_wp2_with (first | ((with_reducible refine qax (f := 40) rfl ?_); refine qbq (some 9) rfl rfl Tryz.func40 zdG rfl #[.slice A0 l0.length c0, .string a1] rfl zaq ?_; (with_reducible refine (qbt.calls k _ _ l0 a1 d6 _ ?side1 ?side2 A3.o).mono ?_); (case side1 => exact zae Z1.o); (case side2 => exact kB.o); rintro e w' ⟨rfl, ⟨nd, rfl⟩⟩; refine ⟨_, rfl, ?_⟩; have RL : 0 ≤ (d6 : Int) := zod_; have nN : d6 < (l0.length : Int) := zod_; obtain ⟨EY, VZ, oW, XW⟩ := qb1 Z1.o d6 RL nN; cases VZ; replace RL := eq_true RL; replace nN := eq_true nN))
    go_ret2
    exact ⟨zcc, zbh⟩
  ·rw [if_neg c5] at H;exact absurd H zdN
 ·rw [if_neg c4] at H;have G4 : decide (d6 < (l0.length : Int)) = false := decide_eq_false c4;clear c4;simp only [Option.some.injEq, Prod.mk.injEq] at H;obtain ⟨rfl, rfl⟩ := H
  go_enter Tryz.func30, Tryz.ntmps30
  go_wp2_with (first | ((with_reducible refine qax (f := 40) rfl ?_); refine qbq (some 9) rfl rfl Tryz.func40 zdG rfl #[.slice A0 l0.length c0, .string a1] rfl zaq ?_; (with_reducible refine (qbt.calls k _ _ l0 a1 d6 _ ?side1 ?side2 A3.o).mono ?_); (case side1 => exact zae Z1.o); (case side2 => exact kB.o); rintro e w' ⟨rfl, ⟨nd, rfl⟩⟩; refine ⟨_, rfl, ?_⟩))
  go_ret2
  exact ⟨zcc, zbh⟩
theorem qjc (l : List S61) (key : ByteArray) (hl : l.length < 9223372036854775807) (rest : List S61) : ∀ pre : List S61, l = pre ++ rest →
  Ev (fun k => qbt.l0 k l key ((pre.length : Nat) : Int)) ((pre.length : Int) + (rest.findIdx fun p => !Op.bytesLess p.f0.toList key.toList : Nat)) := by
 induction rest with
 | nil =>
  intro pre h;refine Ev.succ ?_;simp only [qbt.l0];exact Ev.neg zdC (Ev.is zdN)
 | cons x r ih =>
  intro pre h;have hx := qi8 l pre r x h;have hlen : pre.length < l.length := zdC;have hi := ih (pre ++ [x]) zdC;rw [← qek] at hi;refine Ev.succ ?_;simp only [qbt.l0, hx, qft (n := pre.length) zdM];refine Ev.pos zdM (Ev.pos zdM ?_)
  cases hb : Op.bytesLess x.f0.toList key.toList with
  | true =>
   refine Ev.pos rfl (Ev.same hi ?_);rw [List.findIdx_cons, hb];simp;omega
  | false =>
   refine Ev.neg zdN (Ev.is ?_);rw [List.findIdx_cons, hb];simp
theorem spec_at (l : List S61) (key : ByteArray) (hl : l.length < 9223372036854775807) : Ev (fun k => qbt.f k l key) (lowAt l key : Int) := by
 unfold qbt.f;have h := qjc l key hl l [] rfl
 simpa [lowAt] using h
def getV (l : List S61) (key : ByteArray) : ByteArray := if hasAt l key = true then (qan l (lowAt l key)).f1 else ⟨#[]⟩
theorem spec_get (l : List S61) (key : ByteArray) (hl : l.length < 9223372036854775807) : Ev (fun k => qdP.f k l key) (getV l key, hasAt l key) := by
 unfold qdP.f;refine Ev.bind (spec_at l key hl) ?_;unfold getV hasAt
 by_cases h : lowAt l key < l.length
 ·refine Ev.pos zdM (Ev.pos zdM ?_)
  by_cases h2 : (qan l (lowAt l key)).f0.toList = key.toList
  ·exact Ev.pos h2 (Ev.is (by simp [h, h2]))
  ·exact Ev.neg h2 (Ev.is (by simp [h, h2]))
 ·exact Ev.neg zdM (Ev.is (by simp [h]))
theorem impl_at {l : List S61} (key : ByteArray) (h : Rises l) (hl : l.length ≤ 1000000) : qcO.f l key = some ((lowAt l key : Int), hasAt l key) := by
 unfold qcO.f;rw [if_pos ⟨h, hl⟩]
theorem qem {l : List S61} {key : ByteArray} (h : hasAt l key = true) : lowAt l key < l.length := by
 unfold hasAt at h;simp only [Bool.and_eq_true, decide_eq_true_eq] at h;exact h.1
end Go.Proofs.YtcdokcpiahbejaaGreat.X
namespace Go.Proofs.YtcdokcpiahbejaaGreat.X
open Go.RowKit Go.Proofs.PW Go.Proofs.PL Go.Proofs.PM
attribute [local go_sem] qaj qak qal qaf qag qao qap qad qae qah qai
open Go.Lib in
theorem run_clear_cells {P : Program} (w : World) (t e ty : TypeId) (z : Value) (ht : P.underlying t = some (.slice e)) (hv : ∀ w, (zeroValue e).run P w = .ok z w) (b o n c : Nat) (zs : List Value) (hzs : (Builtin.zeroCells z.cells n).toList = zs) (h1 : ∀ v ∈ zs, v.oneCell' = true) (hn : 0 < n)
  (hc : ∀ j, j < zs.length → (w.cell? ⟨b, o + j, none⟩).isSome = true) (hf : ∀ j, j < zs.length → w.frozen? ⟨b, o + j, none⟩ = false) :
  (Builtin.clear_ #[t] ty #[.slice (some ⟨b, o, none⟩) n c]).run P w = .ok (.tuple #[]) (w.setCells b o zs) := by
 have hst := run_storeCells_cells (P := P) b o zs 0 w (by simpa using hc) zdx h1;simp only [Nat.add_zero] at hst;obtain ⟨m, rfl⟩ : ∃ m, n = m + 1 := ⟨n - 1, zdM⟩
 simp [Builtin.clear_, run_underlying ht, hv, hzs, hst]
theorem qip {z : Value} {n : Nat} (h : ∀ v ∈ z.cells, v.oneCell' = true) : ∀ v ∈ (Builtin.zeroCells z.cells n).toList, v.oneCell' = true := by
 intro v hv;unfold Builtin.zeroCells at hv;rw [Array.toList_map, List.mem_map] at hv;obtain ⟨j, hj, rfl⟩ := hv;have hj2 : j < n * z.cells.size := by simpa using hj
 have hp : 0 < z.cells.size := by
  rcases Nat.eq_zero_or_pos z.cells.size with h0 | h0
  ·rw [h0] at hj2; omega
  ·exact h0
 have hlt : j % z.cells.size < z.cells.size := Nat.mod_lt _ hp;rw [getElem!_pos z.cells _ hlt];exact h _ (Array.getElem_mem hlt)
theorem R_blk {α : Type} {d : Kd α} {e : Nat} {w : World} {base : Nat} {ok : Nat → Prop} {g n c : Nat} {xs : List α} (h : d.R e w base ok (.slice (some ⟨g, 0, none⟩) n c) xs) :
  ∃ cur inner, n = xs.length ∧ base ≤ g ∧ w.heap[g]? = some (.cells cur e (0, 0)) ∧ n ≤ c ∧ c ≤ maxLen ∧ cur.size = c * d.sz ∧ cur.toList.take (n * d.sz) = inner ∧ Reps (d.M w base (fun k => ok k ∧ k ≠ g)) d.sz xs inner ∧ ok g := by
 obtain ⟨hn, _, _⟩ := Kd.qbb h;obtain ⟨hok, inner, hown, hr⟩ := h
 rcases hown.2 with ⟨hv, _⟩ | ⟨g', cap', cur, hv, hb, hh, hnc, hcm, hcs, htake⟩
 ·cases hv
 injection hv with ha hn2 hc
 injection ha with ha
 injection ha with hg
 subst hg; subst hc;exact ⟨cur, inner, hn, hb, hh, zdM, hcm, hcs, by rw [hn]; exact htake, hr.imp_ (fun _ _ hm => d.M_mono (fun k hk => ⟨hk.1, fun he => hk.2 (by rw [he]; rfl)⟩) hm), hok g rfl⟩
theorem R_of_blk {α : Type} {d : Kd α} {e : Nat} {w : World} {base : Nat} {ok : Nat → Prop} {g n c : Nat} {xs : List α} {cur : Array Value} {inner : List Value} (hn : n = xs.length) (hb : base ≤ g) (hh : w.heap[g]? = some (.cells cur e (0, 0))) (hnc : n ≤ c) (hcm : c ≤ maxLen) (hcs : cur.size = c * d.sz) (ht : cur.toList.take (n * d.sz) = inner)
  (hr : Reps (d.M w base (fun k => ok k ∧ k ≠ g)) d.sz xs inner) (hok : ok g) : d.R e w base ok (.slice (some ⟨g, 0, none⟩) n c) xs := by
 subst hn;refine ⟨fun k hk => ?_, inner, ⟨hr.1, .inr ⟨g, c, cur, rfl, hb, hh, hnc, hcm, hcs, ht⟩⟩, hr.imp_ (fun _ _ hm => d.M_mono (fun k hk => ⟨hk.1, fun he => hk.2 ?_⟩) hm)⟩
 ·have : g = k := by simpa [Value.ownBlock] using hk
  exact this ▸ hok
 ·simpa [Value.ownBlock] using he
theorem qhC (w : World) (g o : Nat) (vs : List Value) : w.grownBy (w.setCells g o vs) (some g) := by
 obtain ⟨h1, h2, h3, h4⟩ := qdF g vs o w;exact ⟨h1, h2, h3, zdM, fun k _ hk => qdA vs o k (fun he => hk (by rw [he]))⟩
theorem R_tail {α : Type} {d : Kd α} {e : Nat} {w : World} {base : Nat} {ok : Nat → Prop} {g n c : Nat} {xs : List α} (h : d.R e w base ok (.slice (some ⟨g, 0, none⟩) n c) xs) (o : Nat) (vs : List Value) (ho : n * d.sz ≤ o) (hl : o + vs.length ≤ c * d.sz) : d.R e (w.setCells g o vs) base ok (.slice (some ⟨g, 0, none⟩) n c) xs := by
 obtain ⟨cur, inner, hn, hb, hh, hnc, hcm, hcs, ht, hr, hok⟩ := R_blk h;obtain ⟨cur', h1, h2, h3⟩ := qdX vs o w cur hh zdM;refine R_of_blk hn hb h1 hnc hcm (by rw [h2]; exact hcs) (inner := inner) ?_ (hr.imp_ (fun _ _ hm => d.M_move (fun k hk => qdA vs o k hk.2) hm)) hok;rw [h3, List.append_assoc, List.take_append_of_le_length (by rw [List.length_take, Array.length_toList]; omega), List.take_take, Nat.min_eq_left ho, ht]
theorem qlw {α : Type} {d : Kd α} {e : Nat} {w : World} {base : Nat} {ok : Nat → Prop} {g n c : Nat} {xs : List α} (h : d.R e w base ok (.slice (some ⟨g, 0, none⟩) n c) xs) (j : Nat) : (j < c * d.sz → (w.cell? ⟨g, j, none⟩).isSome = true) ∧ w.frozen? ⟨g, j, none⟩ = false := by
 obtain ⟨cur, inner, hn, hb, hh, hnc, hcm, hcs, ht, hr, hok⟩ := R_blk h;refine ⟨fun hj => ?_, qau hh j⟩;rw [qac hh j, Array.getElem?_eq_getElem zdM];rfl
theorem R_clear {P : Program} {α : Type} {d : Kd α} {e : Nat} {w : World} {base : Nat} {ok : Nat → Prop} {g n c : Nat} {xs : List α} (h : d.R e w base ok (.slice (some ⟨g, 0, none⟩) n c) xs) (t ty : TypeId) (z : Value) (ht : P.underlying t = some (.slice e)) (hv : ∀ w, (zeroValue e).run P w = .ok z w) (hz : z.cells.size = d.sz) (h1 : ∀ v ∈ z.cells, v.oneCell' = true) (m c2 : Nat) (hm : 0 < m) (hmc : n + m ≤ c) :
  ∃ w1, (Builtin.clear_ #[t] ty #[.slice (some ⟨g, n * d.sz, none⟩) m c2]).run P w = .ok (.tuple #[]) w1 ∧ d.R e w1 base ok (.slice (some ⟨g, 0, none⟩) n c) xs ∧ w.grownBy w1 (some g) := by
 have hl : (Builtin.zeroCells z.cells m).toList.length = m * d.sz := by rw [Array.length_toList, size_zeroCells, hz]
 have hle : (n + m) * d.sz ≤ c * d.sz := Nat.mul_le_mul_right _ hmc;rw [Nat.add_mul] at hle;refine ⟨_, run_clear_cells w t e ty z ht hv g (n * d.sz) m c2 _ rfl (qip h1) hm (fun j hj => (qlw h _).1 zdM) (fun j hj => (qlw h _).2), R_tail h _ _ (Nat.le_refl _) zdM, qhC _ _ _ _⟩
theorem R_cap {α : Type} {d : Kd α} {e : Nat} {w : World} {base : Nat} {ok : Nat → Prop} {g n c : Nat} {xs : List α} (h : d.R e w base ok (.slice (some ⟨g, 0, none⟩) n c) xs) : n = xs.length ∧ base ≤ g ∧ g < w.heap.size ∧ n ≤ c ∧ c ≤ 9223372036854775807 ∧ ok g := by
 obtain ⟨cur, inner, hn, hb, hh, hnc, hcm, _, _, _, hok⟩ := R_blk h;unfold maxLen at hcm;exact ⟨hn, hb, qbo hh, hnc, zdM, hok⟩
theorem qkb {α : Type} {d : Kd α} {w : World} {base : Nat} {ok : Nat → Prop} {xs : List α} {cs : List Value} (hs : 0 < d.sz) (h : Reps (d.M w base ok) d.sz xs cs) : ∀ v ∈ cs, v.oneCell' = true := by
 intro u hu;obtain ⟨q, hq, rfl⟩ := List.mem_iff_getElem.1 hu;have hql : q / d.sz < xs.length := by
  rw [Nat.div_lt_iff_lt_mul hs, ← h.1];exact hq
 have hc := h.2 (q / d.sz) _ (List.getElem?_eq_getElem hql);refine d.K_one (d.K_of_M hc) _ ?_;rw [List.mem_iff_getElem?];refine ⟨q % d.sz, ?_⟩;rw [List.getElem?_take, if_pos (Nat.mod_lt _ hs), List.getElem?_drop, Nat.mul_comm, Nat.div_add_mod, List.getElem?_eq_getElem hq]
end Go.Proofs.YtcdokcpiahbejaaGreat.X
namespace Go.Proofs.YtcdokcpiahbejaaGreat.X
open Go.RowKit Go.Proofs.PW Go.Proofs.PL Go.Proofs.PM
attribute [local go_sem] qaj qak qal qaf qag qao qap qad qae qah qai
def qcF.f (l0 : List S61) (a1 : Int) (a2 : Int) : Option (List S61) := if 0 ≤ a1 ∧ a1 < (l0.length : Int) ∧ a2 = a1 + 1 then some (l0.eraseIdx a1.toNat) else none
theorem qcF.calls (E4 : Nat → Prop) (Z2 : Value) (l0 : List (S61)) (a1 : Int) (a2 : Int) (r : List (S61)) (w0 w : World) (hB : Below w0.heap.size w0 w) (ho0 : Kd.R k61 61 w w0.heap.size E4 Z2 l0) (h : qcF.f l0 a1 a2 = some r) :
    Calls Tryz.prog 96 #[Z2, .int .i64 a1, .int .i64 a2] w fun e w' => ∃ B7 : Value, e = .returned (B7) ∧ Kd.R k61 61 w' w0.heap.size (fun k_ => (E4 k_ ∨ w.heap.size ≤ k_)) B7 r ∧ Below w0.heap.size w0 w' ∧ Kept w w' (fun k_ => E4 k_) := by
  unfold qcF.f at h
  by_cases hs : 0 ≤ a1 ∧ a1 < (l0.length : Int) ∧ a2 = a1 + 1
  · rw [if_pos hs] at h;obtain rfl := Option.some.inj h;obtain ⟨h0, h1, rfl⟩ := hs;clear h;obtain ⟨k, rfl⟩ : ∃ k : Nat, a1 = (k : Int) := ⟨a1.toNat, zdM⟩
    rw [Int.toNat_natCast];obtain ⟨g, cap, rfl, hbg, hgl, cells, hcells⟩ := Kd.qcS ho0 zdM;clear hcells cells hbg hgl;obtain ⟨_, hbg, hgl, hnc, hcm, hok⟩ := R_cap ho0;have HO := z_ ho0;have HBB := z_ hB;clear ho0 hB;obtain ⟨m, hm⟩ : ∃ m, l0.length = m + 1 := ⟨l0.length - 1, zdM⟩
    rw [hm] at HO h1 hnc ⊢;clear hm;have p1 : (k : Int) ≤ (k : Int) + 1 := zdM;have p2 : (k : Int) + 1 ≤ (m : Int) + 1 := zdM;have p3 : (m : Int) + 1 ≤ (cap : Int) := zdM;have p5 : ((m : Int) + 1).toNat = m + 1 := zdM;have p6 : ¬ (cap = m) := zdM;have p7 : m ≤ cap := zdM;have p8 : (m : Int) ≤ (m : Int) + 1 := zdM;have p9 : 0 ≤ (m : Int) + 1 := zdM;have wY : m + 1 - m = 1 := zdM;have p4 : ((k : Int) == (k : Int) + 1) = false := by rw [beq_eq_false_iff_ne]; omega
    go_enter Tryz.func96, Tryz.ntmps96
    go_wp2_with fail
    have n1 : k ≤ cap := zdM;have n2 : k + 1 ≤ cap := zdM;have n3 : (k : Int) + 1 ≤ (cap : Int) := zdM;have n4 : 0 ≤ (k : Int) + 1 := zdM;have hA : (if cap = k + 1 then some (⟨g, 0, none⟩ : Addr) else some ⟨g, (k + 1) * 2, none⟩) = if cap = k + 1 then some ⟨g, 0, none⟩ else (some (⟨g, 0, none⟩ : Addr)).map (·.add ((k + 1) * k61.sz)) := by
      rw [Option.map_some, add_plain];rfl
    have HA := z_ hA;have HI := z_ (show (Tryz.prog.info? 61).map (·.size) = some k61.sz from zdG);clear hA
    go_region_law (refine Kd.qib k61 (w0 := w0) w0.heap.size zdO (.tmp 22) (.tmp 25) 45 61 zdO Tryz.underlying45 HI.o (g := g) (n := m + 1) (c := cap) (k := k) (m := m - k) zdO zdO HA.o zdM (Kd.qbu HO.o) zdM (qba HBB.o) HBB.o.size ?_; intro w1 ho1 hb1 hg1)
    rw [Nat.add_sub_cancel] at *;obtain ⟨w2, hr2, ho2, hg2⟩ := R_clear (P := Tryz.prog) ho1 45 0 (.agg #[.string ⟨#[]⟩, .string ⟨#[]⟩]) Tryz.underlying45 Tryz.zeroValue61 rfl zdK 1 (cap - m) zdM zdM;have hr3 : ∀ ty, (Builtin.clear_ #[45] ty #[.slice (some ⟨g, m * 2, none⟩) 1 (cap - m)]).run Tryz.prog w1 = .ok (.tuple #[]) w2 := fun ty => hr2
    clear hr2;have KH := z_ ho2;have HG2 := z_ hg2;have HG1 := z_ hg1;clear ho1 ho2 hg2 hg1
    go_wp2_with fail
    all_goals
      go_ret
      try (have hck : cap = k + 1 := by assumption
           subst hck)
      exact ⟨_, rfl, Kd.qaU KH.o (fun _ hk => .inl hk), hb1.grown HG2.o hb1.size (fun k hk => by injection hk with hk; subst hk; exact hbg), Kept.qeh HG2.o (Kept.qeh HG1.o (Kept.refl w _) (fun k hk => zbZ)) (fun k hk => zbZ)⟩
  · rw [if_neg hs] at h
    cases h
def qbd.l0 : Nat → List (S61) → ByteArray → List (S61) → Int → Option ((List (S61)))
 | 0, _, _, _, _ => none
 | k + 1, x0, x1, x5, x6 => if x6 < (x0.length : Int) then (if 0 ≤ x6 then (if ((qan x0 x6).f0).toList = x1.toList then (qbd.l0 k x0 x1 x5 (wrap64 (x6 + 1))) else (if x5.length < 4398046511104 then (qbd.l0 k x0 x1 (x5 ++ [(⟨(qan x0 x6).f0, (qan x0 x6).f1⟩ : S61)]) (wrap64 (x6 + 1))) else (none))) else (none)) else (some x5)
def qbd.f (k : Nat) (l0 : List (S61)) (a1 : ByteArray) : Option ((List (S61))) := qbd.l0 k l0 a1 (([] : List (S61))) 0
theorem qbd.qbl : ∀ k, (∀ y0 y1 y2 y3, LeO (qbd.l0 k y0 y1 y2 y3) (qbd.l0 (k + 1) y0 y1 y2 y3))
 | 0 => fun _ _ _ _ r h => by simp [qbd.l0] at h
 | k + 1 => by
  have Q9 := qbd.qbl k
  ·intro y0 y1 y2 y3;unfold qbd.l0;exact zleo_
theorem qbd.calls (k : Nat) (A0 : Option Addr) (c0 : Nat) (l0 : List (S61)) (a1 : ByteArray) (r : List (S61)) (w : World) (hr0 : Kd.C k61 w A0 l0.length l0) (hc0 : l0.length ≤ c0) (h : qbd.f k l0 a1 = some r) :
  Calls Tryz.prog 73 #[.slice A0 l0.length c0, .string a1] w fun e w' => ∃ B7 : Value, e = .returned (B7) ∧ Kd.R k61 61 w' w.heap.size (fun _ => True) B7 r ∧ Below w.heap.size w w' := by
 have SK := Tryz.underlying61;have Z1 := z_ hr0;have kB := z_ hc0;clear hr0 hc0;have HB := z_ (Below.refl w.heap.size w);have H : (qbd.l0 k l0 a1 (([] : List (S61))) 0) = some r := h;clear h;obtain ⟨Bf, OK⟩ : ∃ y_ : List (S61), y_ = (([] : List (S61))) := ⟨_, rfl⟩
 replace H : (qbd.l0 k l0 a1 Bf 0) = some r := by first | (rw [OK]; with_reducible exact H) | (have J1 := (Option.bind_some _ _).symm.trans H; rw [OK]; with_reducible exact J1) | (have J1 := (Option.bind_some _ _).symm.trans H; with_reducible exact J1) | with_reducible exact H | (rw [OK]; exact H) | exact H
 have ZX := z_ OK;clear OK;have H' := z_ H;clear H
 go_enter Tryz.func73, Tryz.ntmps73
 go_wp2_with (first | ((with_reducible refine qaw (N := 7) rfl ?_); refine Kd.qdr k61 _ 61 zdO (N := 7) zdO (xs := ([] : List (S61))) (inner := []) (ok := fun _ => True) (okp := fun _ => True) zcm ?hp (fun _ hk => hk) trivial (Below.refl _ _) (Nat.le_refl _) zdN ?_; (case hp => exact (Reps.none _ _)); intro v304 w3 vN hb j3 K0; clear j3 K0; (first | rw [← ZX.o] at vN | (simp only [Int.reduceToNat] at vN; rw [← ZX.o] at vN)); have rg := z_ (Kd.qa3 vN (qaz zar)); replace HB := z_ (qaa zar hb); clear hb vN))
 go_loopg [5, 6] k (fun kq v5 v6 w' => ∃ (o0 : List (S61)) (Y5 : Int), v6 = .int .i64 Y5 ∧ Aside0 (qbd.l0 kq l0 a1 o0 Y5 = some r) ∧ Aside0 (kq ≤ k) ∧ Aside0 (Kd.R k61 61 w' w.heap.size (fun _ => True) v5 o0) ∧ Aside0 (Below w.heap.size w w'))
 case atStart => exact ⟨(Bf), (0), zcc, H', ⟨Nat.le_refl _⟩, ⟨by (with_reducible repeat (first | apply Kd.qbm | apply Kd.qbE | apply Kd.qbu)); exact rg.o⟩, ⟨zar⟩⟩
 case round =>
  clear H';obtain ⟨o0, Y5, rfl, HA, I5, Ic, HB⟩ := hrel
  cases gk with
  | zero => exact absurd HA.o (by simp [qbd.l0])
  | succ k1 =>
   have H := HA.o;clear HA;simp only [qbd.l0] at H
   by_cases c5 : Y5 < (l0.length : Int)
   ·rw [if_pos c5] at H;have O8 : decide (Y5 < (l0.length : Int)) = true := decide_eq_true c5;clear c5
    by_cases c6 : 0 ≤ Y5
    ·rw [if_pos c6] at H;have u7 : decide (0 ≤ Y5) = true := decide_eq_true c6;clear c6
     by_cases c7 : ((qan l0 Y5).f0).toList = a1.toList
     ·rw [if_pos c7] at H;have QA : (((qan l0 Y5).f0).toList == a1.toList) = true := beq_iff_eq.mpr c7;have rT : (((qan l0 Y5).f0).toList != a1.toList) = false := bne_eq_false_iff_eq.mpr c7;clear c7;have H' := z_ H;clear H;have fL : 0 ≤ (Y5 : Int) := zod_;have IM : Y5 < (l0.length : Int) := zod_;obtain ⟨sY, e306, KC, RD⟩ := qb1 Z1.o Y5 fL IM
      cases e306
      replace KC := zmove_ HB rfl KC;replace RD := zmove_ HB rfl RD;replace fL := eq_true fL;replace IM := eq_true IM
      go_wp2
      go_roundg k1
      case measure => have := I5.o; omega
      case rel => exact ⟨(o0), (wrap64 (Y5 + 1)), zcc, H', ⟨zcY⟩, ⟨zaI⟩, ⟨zar⟩⟩
     ·rw [if_neg c7] at H;have QA : (((qan l0 Y5).f0).toList == a1.toList) = false := beq_eq_false_iff_ne.mpr c7;have rT : (((qan l0 Y5).f0).toList != a1.toList) = true := bne_iff_ne.mpr c7
      by_cases c8 : o0.length < 4398046511104
      ·rw [if_pos c8] at H;have Ml := z_ c8;clear c8;obtain ⟨Md, IJ⟩ : ∃ y_ : List (S61), y_ = (o0 ++ [(⟨(qan l0 Y5).f0, (qan l0 Y5).f1⟩ : S61)]) := ⟨_, rfl⟩
       replace H : (qbd.l0 k1 l0 a1 Md (wrap64 (Y5 + 1))) = some r := by first | (rw [IJ]; with_reducible exact H) | (have J1 := (Option.bind_some _ _).symm.trans H; rw [IJ]; with_reducible exact J1) | (have J1 := (Option.bind_some _ _).symm.trans H; with_reducible exact J1) | with_reducible exact H | (rw [IJ]; exact H) | exact H
       have tf := z_ IJ;clear IJ;have H' := z_ H;clear H;have fL : 0 ≤ (Y5 : Int) := zod_;have IM : Y5 < (l0.length : Int) := zod_;obtain ⟨sY, e306, KC, RD⟩ := qb1 Z1.o Y5 fL IM
       cases e306
       replace KC := zmove_ HB rfl KC;replace RD := zmove_ HB rfl RD;replace fL := eq_true fL;replace IM := eq_true IM;have ec : 0 ≤ (Y5 : Int) := zod_;have ya : Y5 < (l0.length : Int) := zod_;obtain ⟨Wf, e307, XN, aQ⟩ := qb1 Z1.o Y5 ec ya;obtain rfl : sY = Wf := (by injection e307);replace XN := zmove_ HB rfl XN;replace aQ := zmove_ HB rfl aQ;replace ec := eq_true ec;replace ya := eq_true ya
       go_wp2_with (first | ((with_reducible refine qbS (b := .append) (xs := #[.tmp 21, .tmp 26]) rfl ?_); at_builtin; refine Kd.qh8 k61 (w0 := w) w.heap.size rfl (.tmp 21) (.tmp 26) 45 61 (.agg #[(.string ⟨#[]⟩), (.string ⟨#[]⟩)]) 32 rfl Tryz.underlying45 qgh rfl zdK zdM u5 o0 (⟨(qan l0 Y5).f0, (qan l0 Y5).f1⟩ : S61) [.string ((qan l0 Y5).f0), .string ((qan l0 Y5).f1)] (fun _ => True) (fun _ => False) rfl rfl ?aP (fun _ hk => hk.elim) ?aF ?aO ?aB ?aS ?aL ?_; (case aP => exact qf5 _ _ _ (⟨(qan l0 Y5).f0, (qan l0 Y5).f1⟩ : S61)); (case aB => exact zar); (case aF => exact (fun _ _ => trivial)); (case aO => exact (zad Ic.o)); (case aS => exact (qaz zar)); (case aL => have := Ml.o; omega); intro v309 w9 ho hb hg hat; rw [← tf.o] at ho; have ig := z_ (ho); replace HB := z_ (hb); clear Ic; clear ho hb hg hat))
       go_roundg k1
       case measure => have := I5.o; omega
       case rel => exact ⟨(Md), (wrap64 (Y5 + 1)), zcc, H', ⟨zcY⟩, ⟨by (with_reducible repeat (first | apply Kd.qbm | apply Kd.qbE | apply Kd.qbu)); exact ig.o⟩, ⟨zar⟩⟩
      ·rw [if_neg c8] at H;exact absurd H zdN
    ·rw [if_neg c6] at H;exact absurd H zdN
   ·rw [if_neg c5] at H;have O8 : decide (Y5 < (l0.length : Int)) = false := decide_eq_false c5;clear c5;obtain rfl := Option.some.inj H
    go_wp2
    go_ret
    exact ⟨_, zaM, zaI, zar⟩
def qdp.f (l0 : List (S61)) (a1 : ByteArray) : Option ((List (S61))) := (qcO.f l0 a1).bind fun mG => (if mG.2 = true then ((qcF.f l0 mG.1 (wrap64 (mG.1 + 1))).bind fun MS => (some MS)) else (some l0))
theorem qdp.calls (E4 : Nat → Prop) (Z2 : Value) (l0 : List (S61)) (a1 : ByteArray) (r : List (S61)) (w0 w : World) (hB : Below w0.heap.size w0 w) (ho0 : Kd.R k61 61 w w0.heap.size E4 Z2 l0) (h : qdp.f l0 a1 = some r) :
  Calls Tryz.prog 65 #[Z2, .string a1] w fun e w' => ∃ B7 : Value, e = .returned (B7) ∧ Kd.R k61 61 w' w0.heap.size (fun k_ => (E4 k_ ∨ w.heap.size ≤ k_)) B7 r ∧ Below w0.heap.size w0 w' ∧ Kept w w' (fun k_ => E4 k_) := by
 have T7 := z_ (show Kd.R k61 61 w w0.heap.size (fun k_ => (E4 k_ ∨ w.heap.size ≤ k_)) Z2 l0 from Kd.qaU ho0 (fun k_ hk => (.inl hk)));have HK := z_ (Kept.refl w (fun k_ => E4 k_));have HW0 := z_ hB.size;have HB := z_ hB;clear hB;have H : ((qcO.f l0 a1).bind fun mG => (if mG.2 = true then ((qcF.f l0 mG.1 (wrap64 (mG.1 + 1))).bind fun MS => (some MS)) else (some l0))) = some r := h;clear h;replace H := Option.bind_eq_some_iff.mp H;obtain ⟨⟨YQ, Bo⟩, GE, H⟩ := H;try dsimp only at H
 have A3 := z_ GE;clear GE
 by_cases c4 : Bo = true
 ·subst c4;rw [if_pos rfl] at H;replace H := Option.bind_eq_some_iff.mp H;obtain ⟨MS, pS, H⟩ := H;try dsimp only at H
  have A5 := z_ pS;clear pS;obtain rfl := Option.some.inj H;obtain ⟨UX, IT, OS⟩ := Kd.qbO T7.o;subst OS
  go_enter Tryz.func65, Tryz.ntmps65
  go_wp2_with (first | ((with_reducible refine qax (f := 50) rfl ?_); refine qbq (some 10) rfl rfl Tryz.func50 zdG rfl #[.slice UX l0.length IT, .string a1] rfl zaq ?_; (with_reducible refine (qcO.calls _ _ l0 a1 YQ true _ ?side1 ?side2 A3.o).mono ?_); (case side1 => exact zae ((Kd.qbb T7.o).2.2)); (case side2 => exact (Kd.qbb T7.o).2.1); rintro e w7 ⟨rfl, hb⟩; refine ⟨_, rfl, ?_⟩; replace T7 := z_ (Kd.qa7 (zad T7.o) hb); replace HK := z_ (Kept.below (S := (fun k_ => E4 k_)) zas hb); replace HB := z_ (qaa zar hb); (try clear hb)) | ((with_reducible refine qax (f := 96) rfl ?_); refine qbq (some 18) rfl rfl Tryz.func96 zdG rfl #[.slice UX l0.length IT, .int .i64 YQ, .int .i64 (wrap64 (YQ + 1))] rfl zaq ?_; (with_reducible refine (qcF.calls (fun k_ => some k_ = (.slice UX l0.length IT : Value).ownBlock) (.slice UX l0.length IT) l0 YQ (wrap64 (YQ + 1)) MS w0 _ ?side1 ?side2 A5.o).mono ?_); (case side1 => repeat (first | (with_reducible first | exact HB.o | apply qaA | apply qaG | apply qa1) | exact HB.o)); (case side2 => exact Kd.qdH rfl T7.o); rintro e w8 ⟨v663, rfl, ho0, hb, hkp⟩; refine ⟨_, rfl, ?_⟩; have Eg := z_ (Kd.qaU (ok' := fun k_ => (E4 k_ ∨ w.heap.size ≤ k_)) ho0 (fun k_ uU => Or.elim uU (fun hs_ => (T7.o.1 k_ (hs_).symm)) (fun SY => (.inr (Nat.le_trans (by first | exact HK.o.1 | exact (show Kept w _ (fun k_ => E4 k_) from zas).1) SY))))); replace HK := z_ (Kept.qfZ (S := (fun k_ => E4 k_)) zas hkp (fun k_ hs_ => (fun e_ => (T7.o.1 k_ e_.symm)) hs_)); replace HB := z_ (hb); clear T7; (try clear hb); (try clear hkp); (try clear ho0)))
  go_ret
  exact ⟨_, zaM, by (with_reducible repeat (first | apply Kd.qbm | apply Kd.qbE | apply Kd.qbu)); exact Eg.o, zar, zas⟩
 ·replace c4 := Bool.eq_false_iff.mpr c4;subst c4;rw [if_neg zft_] at H;obtain rfl := Option.some.inj H;obtain ⟨bY, UK, uR⟩ := Kd.qbO T7.o;subst uR
  go_enter Tryz.func65, Tryz.ntmps65
  go_wp2_with (first | ((with_reducible refine qax (f := 50) rfl ?_); refine qbq (some 10) rfl rfl Tryz.func50 zdG rfl #[.slice bY l0.length UK, .string a1] rfl zaq ?_; (with_reducible refine (qcO.calls _ _ l0 a1 YQ false _ ?side1 ?side2 A3.o).mono ?_); (case side1 => exact zae ((Kd.qbb T7.o).2.2)); (case side2 => exact (Kd.qbb T7.o).2.1); rintro e U8 ⟨rfl, hb⟩; refine ⟨_, rfl, ?_⟩; replace T7 := z_ (Kd.qa7 (zad T7.o) hb); replace HK := z_ (Kept.below (S := (fun k_ => E4 k_)) zas hb); replace HB := z_ (qaa zar hb); (try clear hb)))
  go_ret
  exact ⟨_, zaM, zaK, zar, zas⟩
theorem ba_ext {a b : ByteArray} (h : a.toList = b.toList) : a = b := by
 rw [ByteArray.toList_eq, ByteArray.toList_eq] at h;exact ByteArray.ext (Array.toList_inj.mp h)
theorem qgW (l : List S61) (i : Nat) (h : i < l.length) : qan l (i : Int) = l[i] := by
 unfold qan;rw [Int.toNat_natCast];simp [List.getD_eq_getElem?_getD, h]
theorem qgX {l : List S61} {key : ByteArray} (h : hasAt l key = true) : (l[lowAt l key]'(qem h)).f0 = key := by
 have h2 := h;unfold hasAt at h2;simp only [Bool.and_eq_true, decide_eq_true_eq] at h2;rw [qgW l _ h2.1] at h2;exact ba_ext h2.2
theorem qhD (key : ByteArray) (rest : List S61) : ∀ (pre acc : List S61), (pre ++ rest).length ≤ 1000000 → acc.length ≤ pre.length → Ev (fun k => qbd.l0 k (pre ++ rest) key acc ((pre.length : Nat) : Int)) (acc ++ rest.filter fun p => !decide (p.f0.toList = key.toList)) := by
 induction rest with
 | nil =>
  intro pre acc hl ha;refine Ev.succ ?_;simp only [qbd.l0];exact Ev.neg zdN (Ev.is zdN)
 | cons x r ih =>
  intro pre acc hl ha;have hx : qan (pre ++ x :: r) ((pre.length : Nat) : Int) = x := qi8 _ pre r x rfl;have hlt : ((pre.length : Nat) : Int) < ((pre ++ x :: r).length : Int) := zdF;have hpl : pre.length < 1000000 := zdr;have e1 : pre ++ x :: r = (pre ++ [x]) ++ r := zdN;refine Ev.succ ?_;simp only [qbd.l0, hx, qft (n := pre.length) zdM];refine Ev.pos hlt (Ev.pos zdM ?_);rw [qek pre x]
  by_cases hk : x.f0.toList = key.toList
  ·refine Ev.pos hk ?_;have := ih (pre ++ [x]) acc zdo zdF;rw [← e1] at this;refine Ev.same this ?_;rw [List.filter_cons];simp [hk]
  ·refine Ev.neg hk (Ev.pos zdM ?_);have := ih (pre ++ [x]) (acc ++ [x]) zdo zdF;rw [← e1] at this;refine Ev.same this ?_;rw [List.filter_cons];simp [hk]
theorem qlx (l : List S61) (key : ByteArray) (hl : l.length ≤ 1000000) : Ev (fun k => qbd.f k l key) (l.filter fun p => !decide (p.f0.toList = key.toList)) := by
 unfold qbd.f;have h := qhD key l [] [] hl (Nat.le_refl _)
 simpa using h
theorem qgY {l : List S61} {key : ByteArray} (hr : Rises l) (i : Nat) (hlt : i < l.length) (hk : l[i].f0 = key) : (l.filter fun p => !decide (p.f0.toList = key.toList)) = l.eraseIdx i := by
 have e : l = l.take i ++ l[i] :: l.drop (i + 1) := by
  rw [← List.drop_eq_getElem_cons hlt, List.take_append_drop]
 have f1 : (l.take i).filter (fun p => !decide (p.f0.toList = key.toList)) = l.take i := by
  refine List.filter_eq_self.2 fun x hx => ?_
  obtain ⟨j, hj, rfl⟩ := List.mem_take_iff_getElem.1 hx;have := qe4 hr hlt (show j < i from zdM);rw [hk] at this;simp only [Bool.not_eq_true', decide_eq_false_iff_not];intro he;rw [he, qco] at this
  cases this
 have f2 : (l.drop (i + 1)).filter (fun p => !decide (p.f0.toList = key.toList)) = l.drop (i + 1) := by
  refine List.filter_eq_self.2 fun x hx => ?_
  obtain ⟨j, hj, rfl⟩ := List.mem_drop_iff_getElem.1 hx;have := qe4 hr (show i + 1 + j < l.length from zdM) (show i < i + 1 + j from zdM);rw [hk] at this;simp only [Bool.not_eq_true', decide_eq_false_iff_not];intro he;rw [he, qco] at this
  cases this
 rw [List.eraseIdx_eq_take_drop_succ]
 conv => lhs; rw [e]
 rw [List.filter_append, List.filter_cons, f1, f2, hk];simp
theorem qgZ {l : List S61} {key : ByteArray} (hr : Rises l) (h : hasAt l key = true) : (l.filter fun p => !decide (p.f0.toList = key.toList)) = l.eraseIdx (lowAt l key) := qgY hr _ (qem h) (qgX h)
def dropP (l : List S61) (key : ByteArray) : List S61 := if hasAt l key = true then l.eraseIdx (lowAt l key) else l
theorem qly {l : List S61} (key : ByteArray) (h : Rises l) (hl : l.length ≤ 1000000) : qdp.f l key = some (dropP l key) := by
 unfold qdp.f dropP;rw [impl_at key h hl, Option.bind_some]
 cases hh : hasAt l key with
 | false => simp
 | true =>
  have hlt := qem hh;rw [if_pos rfl, if_pos rfl];unfold qcF.f;rw [if_pos ⟨zdu, zdu, by rw [qc0 zdu zdu]⟩, Option.bind_some];simp
end Go.Proofs.YtcdokcpiahbejaaGreat.X
namespace Go.Proofs.YtcdokcpiahbejaaGreat.X
open Go.RowKit Go.Proofs.PW Go.Proofs.PL Go.Proofs.PM
attribute [local go_sem] qaj qak qal qaf qag qao qap qad qae qah qai
open Go.Lib
end Go.Proofs.YtcdokcpiahbejaaGreat.X
namespace Go.Proofs.YtcdokcpiahbejaaGreat.X
open Go.RowKit Go.Proofs.PW Go.Proofs.PL Go.Proofs.PM
attribute [local go_sem] qaj qak qal qaf qag qao qap qad qae qah qai
def putP (l : List S61) (key v : ByteArray) : List S61 := if hasAt l key = true then l.set (lowAt l key) ⟨key, v⟩ else l.take (lowAt l key) ++ [⟨key, v⟩] ++ l.drop (lowAt l key)
theorem qgA (l : List S61) (key : ByteArray) : lowAt l key ≤ l.length := by
 unfold lowAt;exact List.findIdx_le_length
theorem qeE (l : List S61) (key v : ByteArray) : (putP l key v).length = l.length + (if hasAt l key = true then 0 else 1) := by
 unfold putP;have h := qgA l key
 cases hh : hasAt l key with
 | true => simp
 | false => simp; omega
def Fine (l : List S61) : Prop := (∀ p ∈ l, okP p = true) ∧ Rises l
theorem qfL {l : List S61} {key : ByteArray} {j : Nat} (hl : j < l.length) (hj : j < lowAt l key) : Op.bytesLess l[j].f0.toList key.toList = true := by
 have h := List.not_of_lt_findIdx (xs := l) (p := fun p => !Op.bytesLess p.f0.toList key.toList) hj
 simpa using h
theorem qlz {l : List S61} {key : ByteArray} (hr : Rises l) (hh : hasAt l key = false) {j : Nat} (hl : j < l.length) (hj : lowAt l key ≤ j) : Op.bytesLess key.toList l[j].f0.toList = true := by
 have hlt : lowAt l key < l.length := zdM;have h1 : Op.bytesLess (l[lowAt l key]).f0.toList key.toList = false := by
  have h := List.findIdx_getElem (xs := l) (p := fun p => !Op.bytesLess p.f0.toList key.toList) (w := (show List.findIdx (fun p => !Op.bytesLess p.f0.toList key.toList) l < l.length from hlt));have h9 : (!Op.bytesLess (l[lowAt l key]).f0.toList key.toList) = true := h
  simpa using h9
 have h2 : Op.bytesLess key.toList (l[lowAt l key]).f0.toList = true := by
  cases h : Op.bytesLess key.toList (l[lowAt l key]).f0.toList with
  | true => rfl
  | false =>
   have he := qgU h1 h;unfold hasAt at hh;rw [qgW l _ hlt, he] at hh;simp [hlt] at hh
 rcases Nat.eq_or_lt_of_le hj with e | e
 ·subst e; exact h2
 ·exact qcs h2 (qe4 hr hl e)
theorem qlA {l : List S61} {key v : ByteArray} (hr : Rises l) : Rises (putP l key v) := by
 unfold putP
 cases hh : hasAt l key with
 | true =>
  rw [if_pos rfl];have hk := qgX hh;have hlt := qem hh;have e : (l.set (lowAt l key) ⟨key, v⟩).map (fun p => p.f0) = l.map (fun p => p.f0) := by
   rw [List.map_set];have : key = (l.map fun p => p.f0)[lowAt l key]'(by rw [List.length_map]; exact hlt) := by rw [List.getElem_map]; exact hk.symm
   conv => lhs; rw [show (⟨key, v⟩ : S61).f0 = (l.map fun p => p.f0)[lowAt l key]'(by rw [List.length_map]; exact hlt) from this]
   exact List.set_getElem_self _
  have h1 : (l.map fun p => p.f0).Pairwise (fun a b => Op.bytesLess a.toList b.toList = true) := List.pairwise_map.2 hr;rw [← e] at h1;exact List.pairwise_map.1 h1
 | false =>
  rw [if_neg zdN];have h1 : ∀ x ∈ l.take (lowAt l key), Op.bytesLess x.f0.toList key.toList = true := by
   intro x hx;obtain ⟨j, hj, rfl⟩ := List.mem_take_iff_getElem.1 hx;exact qfL zdM zdM
  have h2 : ∀ x ∈ l.drop (lowAt l key), Op.bytesLess key.toList x.f0.toList = true := by
   intro x hx;obtain ⟨j, hj, rfl⟩ := List.mem_drop_iff_getElem.1 hx;exact qlz hr hh zdM zdM
  unfold Rises;rw [List.append_assoc, List.pairwise_append];refine ⟨List.Pairwise.sublist (List.take_sublist _ _) hr, ?_, ?_⟩
  ·rw [List.singleton_append, List.pairwise_cons];exact ⟨h2, List.Pairwise.sublist (List.drop_sublist _ _) hr⟩
  ·intro a ha b hb;rw [List.singleton_append] at hb
   rcases List.mem_cons.1 hb with rfl | hb
   ·exact h1 a ha
   ·exact qcs (h1 a ha) (h2 b hb)
theorem qkl {l : List S61} {key v : ByteArray} (h : Fine l) (hk : keyB key = true) (hv : v.size ≤ 90) : Fine (putP l key v) := by
 refine ⟨fun p hp => ?_, qlA h.2⟩;have hn : okP ⟨key, v⟩ = true := by simp [okP, hk, hv]
 unfold putP at hp
 split at hp
 ·rcases List.mem_or_eq_of_mem_set hp with hp | rfl
  ·exact h.1 p hp
  ·exact hn
 ·rw [List.append_assoc] at hp
  rcases List.mem_append.1 hp with hp | hp
  ·exact h.1 p (List.mem_of_mem_take hp)
  ·rcases List.mem_append.1 hp with hp | hp
   ·rw [List.mem_singleton.1 hp]; exact hn
   ·exact h.1 p (List.mem_of_mem_drop hp)
def qdJ (p : List S61) (i : Nat) : ByteArray := (qan p (i : Int)).f0
def nbN (x : S80) : Bool := nodeB x.f0 x.f1 x.f2 x.f3
def fbN (x : S80) : Bool := freeB x.f0 x.f1 x.f2 x.f3
def kidsW (f : Int → List Bool → List S61 → Bool × List Bool × List S61) : List Int → List ByteArray → List Bool → List S61 → Bool × List Bool × List S61
 | k :: ks, m :: ms, s, p => if (f k s p).1 = true ∧ p.length < (f k s p).2.2.length ∧ (qdJ (f k s p).2.2 p.length).toList = m.toList then kidsW f ks ms (f k s p).2.1 (f k s p).2.2 else (false, (f k s p).2)
 | _, _, s, p => (true, s, p)
theorem qe8 (f : Int → List Bool → List S61 → Bool × List Bool × List S61) (k : Int) (ks : List Int) (m : ByteArray) (ms : List ByteArray) (s : List Bool) (p : List S61) : kidsW f (k :: ks) (m :: ms) s p = if (f k s p).1 = true ∧ p.length < (f k s p).2.2.length ∧ (qdJ (f k s p).2.2 p.length).toList = m.toList then kidsW f ks ms (f k s p).2.1 (f k s p).2.2 else (false, (f k s p).2) := by
 rw [kidsW]
theorem qet (f : Int → List Bool → List S61 → Bool × List Bool × List S61) (ms : List ByteArray) (s : List Bool) (p : List S61) : kidsW f [] ms s p = (true, s, p) := by
 simp [kidsW]
def goodW (ns : List S80) (k : Int) (s : List Bool) : Prop := 0 ≤ k ∧ k < (ns.length : Int) ∧ rdOf false s k = false ∧ nbN (qaC ns k) = true ∧ fbN (qaC ns k) = false
instance (ns : List S80) (k : Int) (s : List Bool) : Decidable (goodW ns k s) := by unfold goodW; infer_instance
def walkW (ns : List S80) : Nat → Int → List Bool → List S61 → Bool × List Bool × List S61
 | 0, _, s, p => (false, s, p)
 | n + 1, k, s, p => if goodW ns k s then kidsW (walkW ns n) (qaC ns k).f3 (qaC ns k).f2 (s.set k.toNat true) (p ++ (qaC ns k).f1) else (false, s, p)
def qfe (ns : List S80) : Prop := ∀ x, x ∈ ns → x.f3.length ≤ 1048576
theorem qlB {ns : List S80} {k : Int} (h : qfe ns) (hk : k < (ns.length : Int)) (h0 : 0 ≤ k) : (qaC ns k).f3.length ≤ 1048576 := by
 have e : qaC ns k = ns[k.toNat]'zdM := by
  unfold qaC;simp [List.getD_eq_getElem?_getD, show k.toNat < ns.length from zdM]
 rw [e];exact h _ (List.getElem_mem _)
structure WI (N M : Nat) (s : List Bool) (p : List S61) : Prop where
 len : s.length = N
 room : p.length + 3 * s.count false ≤ M
 good : ∀ q, q ∈ p → okP q = true
theorem qg0 {s : List Bool} {i : Nat} (h : i < s.length) (hv : s.getD i false = false) : (s.set i true).count false + 1 = s.count false := by
 induction s generalizing i with
 | nil => simp at h
 | cons b s ih =>
  cases i with
  | zero =>
   have : b = false := by simpa using hv
   subst this;simp
  | succ i =>
   have := ih zdB (by simpa using hv)
   cases b with
   | true => simpa using this
   | false => simp; omega
theorem qdi {x : S80} (h : nbN x = true) (hf : fbN x = false) (hl : x.f0 = false) : x.f1 = [] ∧ 1 ≤ x.f3.length ∧ x.f3.length ≤ 4 ∧ x.f2.length = x.f3.length ∧ ∀ i : Nat, i < x.f3.length → 0 ≤ rd x.f3 i ∧ rd x.f3 i ≤ 49 := by
 unfold nbN nodeB at h;unfold fbN at hf;rw [hf, hl] at h;simp only [Bool.false_or, Bool.false_eq_true, if_false, Bool.and_eq_true, decide_eq_true_eq, inB] at h;obtain ⟨h1, ⟨h2, h3⟩, h4, h5⟩ := h;refine ⟨List.eq_nil_of_length_eq_zero h1, zdM, zdM, h4, fun i hi => ?_⟩;have := qgz.1 h5 i hi;unfold kidAt inB at this;simp only [Bool.and_eq_true, decide_eq_true_eq] at this;exact this.1
theorem qdK {x : S80} (h : nbN x = true) (hf : fbN x = false) (hl : x.f0 = true) : x.f3 = [] ∧ x.f2 = [] ∧ 1 ≤ x.f1.length ∧ x.f1.length ≤ 3 ∧ (∀ q, q ∈ x.f1 → okP q = true) := by
 unfold nbN nodeB at h;unfold fbN at hf;rw [hf, hl] at h;simp only [Bool.false_or, if_true, Bool.and_eq_true, decide_eq_true_eq, inB] at h;obtain ⟨⟨h1, h2⟩, h3, h4, h5⟩ := h;exact ⟨List.eq_nil_of_length_eq_zero h5, List.eq_nil_of_length_eq_zero h4, zdM, zdM, (qeV.1 h3).2.1⟩
theorem qlC {N M : Nat} {f : Int → List Bool → List S61 → Bool × List Bool × List S61} (hf : ∀ k s p, WI N M s p → WI N M (f k s p).2.1 (f k s p).2.2 ∧ p.length ≤ (f k s p).2.2.length) : ∀ (ks : List Int) (ms : List ByteArray) (s : List Bool) (p : List S61), WI N M s p → WI N M (kidsW f ks ms s p).2.1 (kidsW f ks ms s p).2.2 ∧ p.length ≤ (kidsW f ks ms s p).2.2.length := by
 intro ks
 induction ks with
 | nil => intro ms s p h; exact ⟨h, Nat.le_refl _⟩
 | cons k ks ih =>
  intro ms s p h
  cases ms with
  | nil => exact ⟨h, Nat.le_refl _⟩
  | cons m ms =>
   obtain ⟨h1, h2⟩ := hf k s p h;unfold kidsW
   split
   ·obtain ⟨h3, h4⟩ := ih ms _ _ h1;exact ⟨h3, Nat.le_trans h2 h4⟩
   ·exact ⟨h1, h2⟩
theorem qg1 {N M : Nat} (ns : List S80) (hN : ns.length = N) : ∀ (n : Nat) (k : Int) (s : List Bool) (p : List S61), WI N M s p → WI N M (walkW ns n k s p).2.1 (walkW ns n k s p).2.2 ∧ p.length ≤ (walkW ns n k s p).2.2.length := by
 intro n
 induction n with
 | zero => intro k s p h; exact ⟨h, Nat.le_refl _⟩
 | succ n ih =>
  intro k s p h;unfold walkW
  split
  ·rename_i hg;obtain ⟨g0, g1, g2, g3, g4⟩ := hg;have hc := qg0 (s := s) (i := k.toNat) (by rw [h.len]; omega) (by have := g2; unfold rdOf at this; exact this);have hr := h.room;have hx : (qaC ns k).f1.length ≤ 3 ∧ ∀ q, q ∈ (qaC ns k).f1 → okP q = true := by
    cases hl : (qaC ns k).f0 with
    | true => obtain ⟨_, _, _, a, b⟩ := qdK g3 g4 hl; exact ⟨a, b⟩
    | false => rw [(qdi g3 g4 hl).1]; exact ⟨zdN, fun q hq => by cases hq⟩
   obtain ⟨h3, h4⟩ := qlC (ih) (qaC ns k).f3 (qaC ns k).f2 (s.set k.toNat true) (p ++ (qaC ns k).f1) ⟨by rw [List.length_set]; exact h.len, zcI, fun q hq => (List.mem_append.1 hq).elim (h.good q) (hx.2 q)⟩;exact ⟨h3, Nat.le_trans zcI h4⟩
  ·exact ⟨h, Nat.le_refl _⟩
theorem qkz {f : Int → List Bool → List S61 → Bool × List Bool × List S61} : ∀ (ks : List Int) (ms : List ByteArray) (s : List Bool) (p : List S61), (kidsW f ks ms s p).1 = true → p.length ≤ (kidsW f ks ms s p).2.2.length ∧ (1 ≤ ks.length → 1 ≤ ms.length → p.length < (kidsW f ks ms s p).2.2.length) := by
 intro ks
 induction ks with
 | nil => intro ms s p h; exact ⟨Nat.le_refl _, fun h => absurd h zdN⟩
 | cons k ks ih =>
  intro ms s p h
  cases ms with
  | nil => exact ⟨Nat.le_refl _, fun _ h => absurd h zdN⟩
  | cons m ms =>
   unfold kidsW at h ⊢
   split at h
   ·rename_i hg;rw [if_pos hg];have := (ih ms _ _ h).1;have := hg.2.1;exact ⟨zdM, fun _ _ => zdM⟩
   ·cases h
theorem qhW (ns : List S80) (n : Nat) (k : Int) (s : List Bool) (p : List S61) (h : (walkW ns n k s p).1 = true) : p.length < (walkW ns n k s p).2.2.length := by
 cases n with
 | zero => cases h
 | succ n =>
  unfold walkW at h ⊢
  split at h
  ·rename_i hg;rw [if_pos hg];obtain ⟨g0, g1, g2, g3, g4⟩ := hg;have hk := qkz _ _ _ _ h
   cases hl : (qaC ns k).f0 with
   | true =>
    have := qdK g3 g4 hl;have h1 := hk.1;rw [List.length_append] at h1;omega
   | false =>
    obtain ⟨a, b, c, d, _⟩ := qdi g3 g4 hl;have h1 := hk.2 b zdM;rw [a, List.append_nil] at h1;rw [a, List.append_nil];exact h1
  ·cases h
def qea (p : List S61) (i : Nat) : Bool := Op.bytesLess (qdJ p (i - 1)).toList (qdJ p i).toList
def riseB (p : List S61) : Bool := qdg (qea p) 1 (p.length - 1)
def noneW : List Bool := List.replicate 50 false
def lookW (ns : List S80) (root : Int) : Bool × List Bool × List S61 := if ns.length = 50 then (if root = -1 then (true, noneW, []) else walkW ns 21 root noneW []) else (false, noneW, [])
def walkR (ns : List S80) (root : Int) : List S61 × List Bool × Bool := ((lookW ns root).2.2, (lookW ns root).2.1, ((lookW ns root).1 && riseB (lookW ns root).2.2) && decide ((lookW ns root).2.2.length ≤ 60))
theorem qf7 : WI 50 150 noneW [] := ⟨zdq, by unfold noneW; rw [List.count_replicate]; simp, fun q hq => by cases hq⟩
theorem qfM (ns : List S80) (root : Int) : WI 50 150 (lookW ns root).2.1 (lookW ns root).2.2 := by
 unfold lookW
 split
 ·rename_i h
  split
  ·exact qf7
  ·exact (qg1 ns h 21 root noneW [] qf7).1
 ·exact qf7
theorem qeu {p : List S61} {i : Nat} (h : i < p.length) : qdJ p i = p[i].f0 := by
 unfold qdJ qan;rw [Int.toNat_natCast];simp [List.getD_eq_getElem?_getD, h]
theorem riseB_is {p : List S61} : riseB p = true ↔ Rises p := by
 unfold riseB;rw [qgS];refine ⟨fun h => ?_, fun h j h1 h2 => ?_⟩
 ·have hc : ∀ m (hm : m + 1 < p.length), Op.bytesLess (p[m]'zdM).f0.toList p[m + 1].f0.toList = true := fun m hm => by
   have := h (m + 1) zdM zdM;unfold qea at this;rw [qeu zdM, qeu hm] at this
   simpa using this
  have hd : ∀ d i (hi : i + 1 + d < p.length), Op.bytesLess (p[i]'zdM).f0.toList p[i + 1 + d].f0.toList = true := by
   intro d
   induction d with
   | zero => intro i hi; exact hc i hi
   | succ d ih => intro i hi; exact qcs (ih i zdM) (hc (i + 1 + d) hi)
  refine List.pairwise_iff_getElem.2 fun i j hi hj hij => ?_
  obtain ⟨d, rfl⟩ : ∃ d, j = i + 1 + d := ⟨j - (i + 1), zdM⟩
  exact hd d i hj
 ·unfold qea;rw [qeu zdM, qeu zdM];exact qe4 h zdM zdM
theorem qjQ (ns : List S80) (root : Int) : qdY (lookW ns root).2.2 = (riseB (lookW ns root).2.2 && decide ((lookW ns root).2.2.length ≤ 60)) := by
 rw [Bool.eq_iff_iff, qeV, Bool.and_eq_true, riseB_is, decide_eq_true_eq];exact ⟨fun h => ⟨h.2.2, h.1⟩, fun h => ⟨h.2, (qfM ns root).good, h.1⟩⟩
theorem qd4 (ns : List S80) (root : Int) : (walkR ns root).2.2 = ((lookW ns root).1 && qdY (lookW ns root).2.2) := by
 unfold walkR;simp only;rw [qjQ, Bool.and_assoc]
theorem qjR {ns : List S80} {root : Int} (h : (walkR ns root).2.2 = true) : qdY (walkR ns root).1 = true := by
 rw [qd4, Bool.and_eq_true] at h;exact h.2
theorem qg2 (ns : List S80) (root : Int) : (walkR ns root).2.1.length = 50 := (qfM ns root).len
theorem qfw {ns : List S80} {root : Int} (h : ns.length ≠ 50) : (walkR ns root).2.2 = false := by
 rw [qd4];unfold lookW;rw [if_neg h];rfl
theorem qlD {ns : List S80} {root : Int} (h : inB root (-1) 49 = false) : (walkR ns root).2.2 = false := by
 by_cases hl : ns.length = 50
 ·rw [qd4];unfold lookW;have h1 : root ≠ -1 := fun e => by subst e; exact absurd h zdK
  rw [if_pos hl, if_neg h1];have : (walkW ns 21 root noneW []).1 = false := by
   unfold walkW;rw [if_neg (fun g => by have h1 := g.1; have h2 := g.2.1; unfold inB at h; rw [decide_eq_true zdM, decide_eq_true zdM] at h; cases h)]
  rw [this];rfl
 ·exact qfw hl
def qcD (ps : List S61) : Option ByteArray := ps.head?.map (·.f0)
def PD (T : Nat → List S61 → List Nat → Prop) : List (ByteArray × Nat) → List S61 → List Nat → Prop
 | [], ps, pg => ps = [] ∧ pg = []
 | m :: r, ps, pg => ∃ p1 p2 g1 g2, ps = p1 ++ p2 ∧ pg = g1 ++ g2 ∧ T m.2 p1 g1 ∧ qcD p1 = some m.1 ∧ PD T r p2 g2
def partsOf (x : S80) : List (ByteArray × Nat) := x.f2.zip (x.f3.map Int.toNat)
def TrD (ns : List S80) : Nat → Nat → List S61 → List Nat → Prop
 | 0, _, _, _ => False
 | d + 1, k, ps, pg => ∃ x, ns[k]? = some x ∧ nbN x = true ∧ fbN x = false ∧ ((x.f0 = true ∧ ps = x.f1 ∧ pg = [k]) ∨ (x.f0 = false ∧ ∃ pg', pg = k :: pg' ∧ PD (TrD ns d) (partsOf x) ps pg'))
theorem qiq {T T' : Nat → List S61 → List Nat → Prop} : ∀ (ms : List (ByteArray × Nat)) (ps : List S61) (pg : List Nat), (∀ k p g, (∀ i, i ∈ g → i ∈ pg) → T k p g → T' k p g) → PD T ms ps pg → PD T' ms ps pg := by
 intro ms
 induction ms with
 | nil => intro ps pg _ h; exact h
 | cons m r ih =>
  intro ps pg hT h;obtain ⟨p1, p2, g1, g2, e1, e2, h1, h2, h3⟩ := h;exact ⟨p1, p2, g1, g2, e1, e2, hT _ _ _ (fun i hi => by rw [e2]; exact List.mem_append_left _ hi) h1, h2, ih p2 g2 (fun k p g hg => hT k p g (fun i hi => by rw [e2]; exact List.mem_append_right _ (hg i hi))) h3⟩
theorem qjd {T : Nat → List S61 → List Nat → Prop} : ∀ (ms ms' : List (ByteArray × Nat)) (ps ps' : List S61) (pg pg' : List Nat), PD T ms ps pg → PD T ms' ps' pg' → PD T (ms ++ ms') (ps ++ ps') (pg ++ pg') := by
 intro ms
 induction ms with
 | nil => intro ms' ps ps' pg pg' h h'; obtain ⟨rfl, rfl⟩ := h; exact h'
 | cons m r ih =>
  intro ms' ps ps' pg pg' h h';obtain ⟨p1, p2, g1, g2, rfl, rfl, h1, h2, h3⟩ := h;exact ⟨p1, p2 ++ ps', g1, g2 ++ pg', zdb, zdb, h1, h2, ih ms' p2 ps' g2 pg' h3 h'⟩
theorem qkm {T : Nat → List S61 → List Nat → Prop} : ∀ (ms ms' : List (ByteArray × Nat)) (ps : List S61) (pg : List Nat), PD T (ms ++ ms') ps pg → ∃ p1 p2 g1 g2, ps = p1 ++ p2 ∧ pg = g1 ++ g2 ∧ PD T ms p1 g1 ∧ PD T ms' p2 g2 := by
 intro ms
 induction ms with
 | nil => intro ms' ps pg h; exact ⟨[], ps, [], pg, rfl, rfl, ⟨rfl, rfl⟩, h⟩
 | cons m r ih =>
  intro ms' ps pg h;obtain ⟨p1, p2, g1, g2, rfl, rfl, h1, h2, h3⟩ := h;obtain ⟨q1, q2, r1, r2, rfl, rfl, i1, i2⟩ := ih ms' p2 g2 h3;exact ⟨p1 ++ q1, q2, g1 ++ r1, r2, zdb, zdb, ⟨p1, q1, g1, r1, rfl, rfl, h1, h2, i1⟩, i2⟩
theorem PD_one {T : Nat → List S61 → List Nat → Prop} {m : ByteArray × Nat} {ps : List S61} {pg : List Nat} : PD T [m] ps pg ↔ T m.2 ps pg ∧ qcD ps = some m.1 := by
 constructor
 ·rintro ⟨p1, p2, g1, g2, rfl, rfl, h1, h2, rfl, rfl⟩;rw [List.append_nil, List.append_nil];exact ⟨h1, h2⟩
 ·rintro ⟨h1, h2⟩;exact ⟨ps, [], pg, [], zdN, zdN, h1, h2, rfl, rfl⟩
theorem qdZ {ns ns' : List S80} : ∀ (d k : Nat) (ps : List S61) (pg : List Nat), (∀ i, i ∈ pg → ns'[i]? = ns[i]?) → TrD ns d k ps pg → TrD ns' d k ps pg := by
 intro d
 induction d with
 | zero => intro k ps pg _ h; exact h
 | succ d ih =>
  intro k ps pg hs h;obtain ⟨x, hx, hb, hf, h⟩ := h;have hk : k ∈ pg := by
   rcases h with ⟨_, _, rfl⟩ | ⟨_, pg', rfl, _⟩
   ·exact List.mem_singleton.2 rfl
   ·exact List.mem_cons_self
  refine ⟨x, (hs k hk).trans hx, hb, hf, ?_⟩
  rcases h with h | ⟨h0, pg', rfl, hp⟩
  ·exact .inl h
  ·exact .inr ⟨h0, pg', rfl, qiq _ _ _ (fun k p g hg ht => ih k p g (fun i hi => hs i (List.mem_cons_of_mem _ (hg i hi))) ht) hp⟩
theorem qkn {ns : List S80} : ∀ (d k : Nat) (ps : List S61) (pg : List Nat), TrD ns d k ps pg → TrD ns (d + 1) k ps pg := by
 intro d
 induction d with
 | zero => intro k ps pg h; exact h.elim
 | succ d ih =>
  intro k ps pg h;obtain ⟨x, hx, hb, hf, h⟩ := h;refine ⟨x, hx, hb, hf, ?_⟩
  rcases h with h | ⟨h0, pg', rfl, hp⟩
  ·exact .inl h
  ·exact .inr ⟨h0, pg', rfl, qiq _ _ _ (fun k p g _ ht => ih k p g ht) hp⟩
theorem TrD_deep {ns : List S80} {d e : Nat} (h : d ≤ e) {k : Nat} {ps : List S61} {pg : List Nat} (ht : TrD ns d k ps pg) : TrD ns e k ps pg := by
 obtain ⟨n, rfl⟩ : ∃ n, e = d + n := ⟨e - d, zdM⟩
 clear h
 induction n with
 | zero => exact ht
 | succ n ih => exact qkn _ _ _ _ ih
theorem qcW {x : S80} (hb : nbN x = true) (hf : fbN x = false) (hl : x.f0 = false) : x.f3 = (partsOf x).map (fun p => (p.2 : Int)) ∧ x.f2 = (partsOf x).map (·.1) ∧ (partsOf x).length = x.f3.length ∧ (∀ p, p ∈ partsOf x → p.2 < 50) := by
 obtain ⟨_, _, _, h2, h3⟩ := qdi hb hf hl;have hk : ∀ k, k ∈ x.f3 → 0 ≤ k ∧ k ≤ 49 := fun k hk => by
  obtain ⟨i, hi, rfl⟩ := List.getElem_of_mem hk;have := h3 i hi
  rwa [show rd x.f3 (i : Int) = x.f3[i] from by unfold rd; rw [Int.toNat_natCast]; simp [List.getD_eq_getElem?_getD, hi]] at this
 have hlen : (x.f3.map Int.toNat).length = x.f3.length := List.length_map _;have e1 : (partsOf x).map (·.1) = x.f2 := by unfold partsOf; exact List.map_fst_zip zdM
 have e2 : (partsOf x).map (·.2) = x.f3.map Int.toNat := by unfold partsOf; exact List.map_snd_zip zdM
 refine ⟨?_, e1.symm, by unfold partsOf; rw [List.length_zip]; omega, fun p hp => ?_⟩
 ·rw [show (partsOf x).map (fun p => (p.2 : Int)) = ((partsOf x).map (·.2)).map (fun (n : Nat) => (n : Int)) from by rw [List.map_map]; rfl, e2, List.map_map];refine (List.map_id _).symm.trans (List.map_congr_left fun k hk2 => ?_);have := hk k hk2
  show k = ((k.toNat : Nat) : Int)
  omega
 ·have : p.2 ∈ x.f3.map Int.toNat := e2 ▸ List.mem_map_of_mem hp;obtain ⟨k, hk2, e⟩ := List.mem_map.1 this;have := hk k hk2;omega
theorem qjS {ns : List S80} {d k : Nat} {ps : List S61} {pg : List Nat} (h : TrD ns d k ps pg) : k ∈ pg ∧ k < ns.length := by
 cases d with
 | zero => exact h.elim
 | succ d =>
  obtain ⟨x, hx, _, _, h⟩ := h;refine ⟨?_, (List.getElem?_eq_some_iff.1 hx).1⟩
  rcases h with ⟨_, _, rfl⟩ | ⟨_, pg', rfl, _⟩
  ·exact List.mem_singleton.2 rfl
  ·exact List.mem_cons_self
theorem qfN {ns : List S80} : ∀ (d k : Nat) (ps : List S61) (pg : List Nat), TrD ns d k ps pg → ∀ i, i ∈ pg → i < ns.length := by
 intro d
 induction d with
 | zero => intro k ps pg h; exact h.elim
 | succ d ih =>
  intro k ps pg h i hi;have hk := qjS h;obtain ⟨x, hx, _, _, h⟩ := h
  rcases h with ⟨_, _, rfl⟩ | ⟨_, pg', rfl, hp⟩
  ·rw [List.mem_singleton.1 hi]; exact hk.2
  ·rcases List.mem_cons.1 hi with rfl | hi
   ·exact hk.2
   ·have hall : ∀ (ms : List (ByteArray × Nat)) (ps : List S61) (pg : List Nat), PD (TrD ns d) ms ps pg → ∀ i, i ∈ pg → i < ns.length := by
     intro ms
     induction ms with
     | nil => intro ps pg h i hi; rw [h.2] at hi; cases hi
     | cons m r ih2 =>
      intro ps pg h i hi;obtain ⟨p1, p2, g1, g2, rfl, rfl, h1, _, h3⟩ := h
      rcases List.mem_append.1 hi with hi | hi
      ·exact ih _ _ _ h1 i hi
      ·exact ih2 _ _ h3 i hi
    exact hall _ _ _ hp i hi
def markL (s : List Bool) (pg : List Nat) : List Bool := pg.foldl (fun s i => s.set i true) s
theorem qgm (s : List Bool) (a b : List Nat) : markL s (a ++ b) = markL (markL s a) b := by unfold markL; rw [List.foldl_append]
theorem qg3 (pg : List Nat) : ∀ s : List Bool, (markL s pg).length = s.length := by
 induction pg with
 | nil => intro s; rfl
 | cons i r ih => intro s; exact (ih (s.set i true)).trans List.length_set
theorem qeW (pg : List Nat) : ∀ (s : List Bool) (i : Nat), i < s.length → (markL s pg)[i]? = some (s.getD i false || decide (i ∈ pg)) := by
 induction pg with
 | nil => intro s i h; simp [markL, List.getD_eq_getElem?_getD, h]
 | cons j r ih =>
  intro s i h;have e := ih (s.set j true) i (by rw [List.length_set]; exact h);refine (show (markL s (j :: r))[i]? = (markL (s.set j true) r)[i]? from rfl).trans (e.trans ?_)
  congr 1
  by_cases hij : j = i
  ·subst hij;simp [List.getD_eq_getElem?_getD, h]
  ·have : (s.set j true).getD i false = s.getD i false := by simp [List.getD_eq_getElem?_getD, List.getElem?_set_ne hij]
   rw [this];simp [show ¬ i = j from fun e => hij e.symm]
theorem qdL (s : List Bool) (i : Nat) : rdOf false s (i : Int) = s.getD i false := by unfold rdOf; rw [Int.toNat_natCast]
theorem qf8 {p q : List S61} (h : q ≠ []) : qcD q = some (qdJ (p ++ q) p.length) := by
 cases q with
 | nil => exact absurd rfl h
 | cons a r =>
  unfold qcD;rw [qeu zdN];simp
theorem walk_of {ns : List S80} : ∀ (d k : Nat) (ps : List S61) (pg : List Nat), TrD ns d k ps pg → pg.Nodup → ∀ (s : List Bool) (p : List S61), s.length = ns.length → (∀ i, i ∈ pg → s.getD i false = false) → walkW ns d (k : Int) s p = (true, markL s pg, p ++ ps) := by
 intro d
 induction d with
 | zero => intro k ps pg h; exact h.elim
 | succ d ih =>
  intro k ps pg h hn s p hs hu;have hk := qjS h;obtain ⟨x, hx, hb, hf, h⟩ := h;have hr : qaC ns (k : Int) = x := by unfold qaC; rw [Int.toNat_natCast]; simp [List.getD_eq_getElem?_getD, hx]
  unfold walkW;rw [if_pos ⟨zdM, by have := hk.2; omega, by rw [qdL]; exact hu k hk.1, by rw [hr]; exact hb, by rw [hr]; exact hf⟩, hr, Int.toNat_natCast];have hall : ∀ (ms : List (ByteArray × Nat)) (ps : List S61) (pg : List Nat) (s : List Bool) (p : List S61), PD (TrD ns d) ms ps pg → pg.Nodup → s.length = ns.length → (∀ i, i ∈ pg → s.getD i false = false) → kidsW (walkW ns d) (ms.map (fun p => (p.2 : Int))) (ms.map (·.1)) s p = (true, markL s pg, p ++ ps) := by
   intro ms
   induction ms with
   | nil => intro ps pg s p h _ _ _; obtain ⟨rfl, rfl⟩ := h; rw [List.map_nil, qet, List.append_nil]; rfl
   | cons m r ih2 =>
    intro ps pg s p h hn hs hu;obtain ⟨p1, p2, g1, g2, rfl, rfl, h1, h2, h3⟩ := h;have hn1 := (List.nodup_append.1 hn);have e := ih m.2 p1 g1 h1 hn1.1 s p hs (fun i hi => hu i (List.mem_append_left _ hi));have hne : p1 ≠ [] := fun e => by rw [e] at h2; cases h2
    rw [List.map_cons, List.map_cons, qe8, e, if_pos ⟨rfl, by rw [List.length_append]; have := List.length_pos_iff.2 hne; omega, by rw [qf8 (p := p) hne] at h2; rw [Option.some.inj h2]⟩];rw [ih2 p2 g2 (markL s g1) (p ++ p1) h3 hn1.2.1 (by rw [qg3]; exact hs) (fun i hi => by
     have hlt : i < s.length := by
      rw [hs];have hall2 := fun (j : Nat) (hj : j ∈ g2) => qfN (ns := ns)
      by_cases hlt : i < ns.length
      ·exact hlt
      ·have := hu i (List.mem_append_right _ hi)
       exfalso
       have hp : ∀ (ms : List (ByteArray × Nat)) (ps : List S61) (pg : List Nat), PD (TrD ns d) ms ps pg → ∀ i, i ∈ pg → i < ns.length := by
        intro ms
        induction ms with
        | nil => intro ps pg h i hi; rw [h.2] at hi; cases hi
        | cons m r ih3 =>
         intro ps pg h i hi;obtain ⟨_, _, _, _, rfl, rfl, h1, _, h3⟩ := h
         rcases List.mem_append.1 hi with hi | hi
         ·exact qfN _ _ _ _ h1 i hi
         ·exact ih3 _ _ h3 i hi
       exact hlt (hp _ _ _ h3 i hi)
     have hg := qeW g1 s i hlt;rw [List.getD_eq_getElem?_getD, hg, hu i (List.mem_append_right _ hi)];have hno : i ∉ g1 := fun h => hn1.2.2 i h i hi rfl
     simp [hno]), qgm, List.append_assoc]
  rcases h with ⟨hl, rfl, rfl⟩ | ⟨hl, pg', rfl, hp⟩
  ·obtain ⟨z3, z2, _⟩ := qdK hb hf hl;rw [z3, z2, qet];rfl
  ·obtain ⟨e3, e2, _⟩ := qcW hb hf hl;have e1 := (qdi hb hf hl).1;have hn2 := List.nodup_cons.1 hn;have := hall (partsOf x) ps pg' (s.set k true) (p ++ x.f1) hp hn2.2 (by rw [List.length_set]; exact hs) (fun i hi => by
    have hne : k ≠ i := fun e => hn2.1 (e ▸ hi)
    have h0 := hu i (List.mem_cons_of_mem _ hi);rw [List.getD_eq_getElem?_getD] at h0 ⊢;rw [List.getElem?_set_ne hne];exact h0)
   rw [e1, List.append_nil] at this ⊢;rw [e3, e2];rw [← e3, ← e2] at this;rw [← e3, ← e2];exact this
theorem of_walk {ns : List S80} : ∀ (d : Nat) (k : Int) (s : List Bool) (p : List S61), s.length = ns.length → (walkW ns d k s p).1 = true → 0 ≤ k ∧ ∃ ps pg, TrD ns d k.toNat ps pg ∧ pg.Nodup ∧ (∀ i, i ∈ pg → s.getD i false = false) ∧ walkW ns d k s p = (true, markL s pg, p ++ ps) := by
 intro d
 induction d with
 | zero => intro k s p _ h; cases h
 | succ d ih =>
  intro k s p hs h;unfold walkW at h ⊢
  by_cases hg : goodW ns k s
  case neg => rw [if_neg hg] at h; cases h
  rw [if_pos hg] at h ⊢;obtain ⟨h0, h1, h2, h3, h4⟩ := hg;obtain ⟨n, rfl⟩ : ∃ n : Nat, k = (n : Int) := ⟨k.toNat, zdM⟩
  rw [Int.toNat_natCast] at h ⊢;have hlt : n < ns.length := zdM;have hx : ns[n]? = some (qaC ns (n : Int)) := by unfold qaC; rw [Int.toNat_natCast]; simp [List.getD_eq_getElem?_getD, hlt]
  generalize qaC ns (n : Int) = x at *;rw [qdL] at h2;refine ⟨h0, ?_⟩;have hall : ∀ (ms : List (ByteArray × Nat)) (s : List Bool) (p : List S61), s.length = ns.length → (kidsW (walkW ns d) (ms.map (fun p => (p.2 : Int))) (ms.map (·.1)) s p).1 = true → ∃ ps pg, PD (TrD ns d) ms ps pg ∧ pg.Nodup ∧ (∀ i, i ∈ pg → i < ns.length ∧ s.getD i false = false) ∧ kidsW (walkW ns d) (ms.map (fun p => (p.2 : Int))) (ms.map (·.1)) s p = (true, markL s pg, p ++ ps) := by
   intro ms
   induction ms with
   | nil => intro s p _ _; exact ⟨[], [], ⟨rfl, rfl⟩, List.nodup_nil, (fun i hi => zdI), by rw [List.map_nil, qet, List.append_nil]; rfl⟩
   | cons m r ih2 =>
    intro s p hs h;rw [List.map_cons, List.map_cons, qe8] at h ⊢
    by_cases hc : (walkW ns d (m.2 : Int) s p).1 = true ∧ p.length < (walkW ns d (m.2 : Int) s p).2.2.length ∧ (qdJ (walkW ns d (m.2 : Int) s p).2.2 p.length).toList = m.1.toList
    case neg => rw [if_neg hc] at h; cases h
    rw [if_pos hc] at h ⊢;obtain ⟨_, p1, g1, t1, n1, u1, e1⟩ := ih (m.2 : Int) s p hs hc.1;rw [Int.toNat_natCast] at t1;rw [e1] at h hc ⊢;simp only at h hc ⊢;obtain ⟨p2, g2, t2, n2, u2, e2⟩ := ih2 (markL s g1) (p ++ p1) (by rw [qg3]; exact hs) h;have hne : p1 ≠ [] := fun e => by have := hc.2.1; rw [e, List.append_nil] at this; omega
    have hk : qcD p1 = some m.1 := by
     rw [qf8 (p := p) hne];exact congrArg some (ba_ext hc.2.2)
    have hdis : ∀ i, i ∈ g2 → i ∉ g1 := fun i h2 h1 => by
     have := u2 i h2;have hg := qeW g1 s i (by rw [hs]; exact this.1);rw [List.getD_eq_getElem?_getD, hg] at this;simp [h1] at this
    refine ⟨p1 ++ p2, g1 ++ g2, ⟨p1, p2, g1, g2, rfl, rfl, t1, hk, t2⟩, List.nodup_append.2 ⟨n1, n2, fun a ha b hb e => hdis b hb (e ▸ ha)⟩, fun i hi => ?_, ?_⟩
    ·rcases List.mem_append.1 hi with hi | hi
     ·exact ⟨qfN _ _ _ _ t1 i hi, u1 i hi⟩
     ·have := u2 i hi;have hg := qeW g1 s i (by rw [hs]; exact this.1);refine ⟨this.1, ?_⟩;have h9 := this.2;rw [List.getD_eq_getElem?_getD, hg] at h9;simp at h9;rw [List.getD_eq_getElem?_getD];exact h9.1
    ·rw [e2, qgm, List.append_assoc]
  cases hl : x.f0 with
  | true =>
   obtain ⟨z3, z2, _⟩ := qdK h3 h4 hl;refine ⟨x.f1, [n], ⟨x, hx, h3, h4, .inl ⟨hl, rfl, rfl⟩⟩, List.nodup_cons.2 ⟨zdN, List.nodup_nil⟩, fun i hi => by rw [List.mem_singleton.1 hi]; exact h2, ?_⟩;rw [z3, z2, qet];rfl
  | false =>
   obtain ⟨e3, e2, _⟩ := qcW h3 h4 hl;have e1 := (qdi h3 h4 hl).1;rw [e1, List.append_nil] at h ⊢;rw [e3, e2] at h ⊢;obtain ⟨ps, pg, t, nd, u, e⟩ := hall (partsOf x) (s.set n true) p (by rw [List.length_set]; exact hs) h;have hno : n ∉ pg := fun hn => by
    have := (u n hn).2;rw [List.getD_eq_getElem?_getD, List.getElem?_set_self zdM] at this
    cases this
   refine ⟨ps, n :: pg, ⟨x, hx, h3, h4, .inr ⟨hl, pg, rfl, t⟩⟩, List.nodup_cons.2 ⟨hno, nd⟩, fun i hi => ?_, by rw [e]; rfl⟩
   rcases List.mem_cons.1 hi with rfl | hi
   ·exact h2
   ·have h9 := (u i hi).2;have hne : n ≠ i := fun e => hno (e ▸ hi)
    rw [List.getD_eq_getElem?_getD, List.getElem?_set_ne hne] at h9;rw [List.getD_eq_getElem?_getD];exact h9
def qa5 (u : List Bool) (i : Nat) : Prop := u.getD i false = true
def firstFree (u : List Bool) : Nat := u.findIdx (fun b => !b)
def layB (x : S80) (b : List S80 × List Bool × Bool) : Nat × List S80 × List Bool × Bool := if firstFree b.2.1 < b.2.1.length then (firstFree b.2.1, b.1.set (firstFree b.2.1) x, b.2.1.set (firstFree b.2.1) true, b.2.2) else (0, b.1, b.2.1, true)
def qbJ {α : Type} (most : Nat) (l : List α) : List (List α) := if most < l.length then [l.take ((l.length + 1) / 2), l.drop ((l.length + 1) / 2)] else if l.length = 0 then [] else [l]
def layAll {α : Type} (f : List α → ByteArray × S80) : List (List α) → List S80 × List Bool × Bool → List (ByteArray × Nat) × List S80 × List Bool × Bool
 | [], b => ([], b)
 | c :: cs, b => (((f c).1, (layB (f c).2 b).1) :: (layAll f cs (layB (f c).2 b).2).1, (layAll f cs (layB (f c).2 b).2).2)
def leafF (c : List S61) : ByteArray × S80 := (qdJ c 0, ⟨true, c, [], []⟩)
def qbf (c : List (ByteArray × Nat)) : ByteArray × S80 := ((c.map (·.1)).headD ByteArray.empty, ⟨false, [], c.map (·.1), c.map (fun p => (p.2 : Int))⟩)
def qbA (l : List S61) (b : List S80 × List Bool × Bool) := layAll leafF (qbJ 3 l) b
def qbP (c : List (ByteArray × Nat)) (b : List S80 × List Bool × Bool) := layAll qbf (qbJ 4 c) b
def qca (ls : List ByteArray) (key : ByteArray) : Nat := (ls.drop 1).findIdx (fun m => Op.bytesLess key.toList m.toList)
def qbk (dop : List S61 → List S61) (key : ByteArray) : Nat → Nat → List S80 × List Bool × Bool → List (ByteArray × Nat) × List S80 × List Bool × Bool
 | 0, _, b => ([], b)
 | n + 1, k, b =>
  if (b.1.getD k z80).f0 = true then qbA (dop (b.1.getD k z80).f1) b
  else qbP ((partsOf (b.1.getD k z80)).take (qca (b.1.getD k z80).f2 key) ++ (qbk dop key n ((partsOf (b.1.getD k z80)).getD (qca (b.1.getD k z80).f2 key) (ByteArray.empty, 0)).2 b).1 ++ (partsOf (b.1.getD k z80)).drop (qca (b.1.getD k z80).f2 key + 1)) (qbk dop key n ((partsOf (b.1.getD k z80)).getD (qca (b.1.getD k z80).f2 key) (ByteArray.empty, 0)).2 b).2
structure BG (b c : List S80 × List Bool × Bool) : Prop where
 len : c.1.length = b.1.length
 lenu : c.2.1.length = b.2.1.length
 stay : ∀ i, qa5 b.2.1 i → qa5 c.2.1 i ∧ c.1[i]? = b.1[i]?
 full : b.2.2 = true → c.2.2 = true
theorem BG.refl (b : List S80 × List Bool × Bool) : BG b b := ⟨rfl, rfl, fun _ h => ⟨h, rfl⟩, id⟩
theorem BG.trans {a b c : List S80 × List Bool × Bool} (h : BG a b) (k : BG b c) : BG a c := ⟨k.len.trans h.len, k.lenu.trans h.lenu, fun i hi => ⟨(k.stay i (h.stay i hi).1).1, (k.stay i (h.stay i hi).1).2.trans (h.stay i hi).2⟩, fun x => k.full (h.full x)⟩
theorem BG.qf9 {a b : List S80 × List Bool × Bool} (h : BG a b) (hf : b.2.2 = false) : a.2.2 = false := by
 cases e : a.2.2 with
 | false => rfl
 | true => rw [h.full e] at hf; cases hf
theorem qgn {u : List Bool} (h : firstFree u < u.length) : u.getD (firstFree u) false = false := by
 have := List.findIdx_getElem (w := h);rw [List.getD_eq_getElem?_getD, List.getElem?_eq_getElem h];unfold firstFree at this ⊢
 simpa using this
theorem qir (x : S80) (b : List S80 × List Bool × Bool) : BG b (layB x b).2 := by
 unfold layB
 split
 ·rename_i h;have h0 := qgn h;refine ⟨zdN, zdN, fun i hi => ?_, id⟩;have hne : firstFree b.2.1 ≠ i := fun e => by unfold qa5 at hi; rw [← e, h0] at hi; cases hi
  refine ⟨?_, by simp only; rw [List.getElem?_set_ne hne]⟩;unfold qa5 at hi ⊢;rw [List.getD_eq_getElem?_getD] at hi ⊢;simp only;rw [List.getElem?_set_ne hne];exact hi
 ·exact ⟨rfl, rfl, fun i hi => ⟨hi, rfl⟩, fun _ => rfl⟩
theorem layB_new {x : S80} {b : List S80 × List Bool × Bool} (hl : b.1.length = b.2.1.length) (h : (layB x b).2.2.2 = false) : (layB x b).2.1[(layB x b).1]? = some x ∧ qa5 (layB x b).2.2.1 (layB x b).1 ∧ ¬ qa5 b.2.1 (layB x b).1 ∧ (layB x b).1 < b.2.1.length := by
 unfold layB at h ⊢
 split at h
 ·rename_i hf;rw [if_pos hf];simp only;refine ⟨List.getElem?_set_self zdM, ?_, ?_, hf⟩
  ·unfold qa5;rw [List.getD_eq_getElem?_getD, List.getElem?_set_self hf];rfl
  ·unfold qa5;rw [qgn hf]
   decide
 ·cases h
theorem qdj {α : Type} (f : List α → ByteArray × S80) : ∀ (cs : List (List α)) (b : List S80 × List Bool × Bool), BG b (layAll f cs b).2 := by
 intro cs
 induction cs with
 | nil => intro b; exact BG.refl b
 | cons c cs ih => intro b; exact (qir (f c).2 b).trans (ih _)
theorem qcX {α : Type} (f : List α → ByteArray × S80) : ∀ (cs : List (List α)) (b : List S80 × List Bool × Bool), (layAll f cs b).1.length = cs.length := by
 intro cs
 induction cs with
 | nil => intro b; rfl
 | cons c cs ih => intro b; show _ + 1 = _ + 1; rw [ih]
theorem qcY {α : Type} (most : Nat) (l : List α) : (qbJ most l).length ≤ 2 ∧ (l.length ≤ most → (qbJ most l).length ≤ 1) := by
 unfold qbJ
 split
 ·exact ⟨Nat.le_refl _, fun h => absurd h zdM⟩
 ·split <;> simp
def NodeB (b : List S80 × List Bool × Bool) (d : Nat) (x : S80) (ps : List S61) (pg : List Nat) : Prop := nbN x = true ∧ fbN x = false ∧ ((x.f0 = true ∧ ps = x.f1 ∧ pg = []) ∨ (x.f0 = false ∧ PD (TrD b.1 d) (partsOf x) ps pg))
def qgo {α : Type} (f : List α → ByteArray × S80) (b : List S80 × List Bool × Bool) (d : Nat) : List (List α) → List S61 → List Nat → Prop
 | [], ps, pg => ps = [] ∧ pg = []
 | c :: cs, ps, pg => ∃ p1 p2 g1 g2, ps = p1 ++ p2 ∧ pg = g1 ++ g2 ∧ qcD p1 = some (f c).1 ∧ NodeB b d (f c).2 p1 g1 ∧ qgo f b d cs p2 g2
theorem NodeB.on {b c : List S80 × List Bool × Bool} (hb : BG b c) {d : Nat} {x : S80} {ps : List S61} {pg : List Nat} (h : NodeB b d x ps pg) (hu : ∀ i, i ∈ pg → qa5 b.2.1 i) : NodeB c d x ps pg := by
 obtain ⟨h1, h2, h3⟩ := h;refine ⟨h1, h2, ?_⟩
 rcases h3 with h3 | ⟨h3, h4⟩
 ·exact .inl h3
 ·exact .inr ⟨h3, qiq _ _ _ (fun k p g hg ht => qdZ _ _ _ _ (fun i hi => (hb.stay i (hu i (hg i hi))).2) ht) h4⟩
theorem qgo.on {α : Type} {f : List α → ByteArray × S80} {b c : List S80 × List Bool × Bool} (hb : BG b c) {d : Nat} : ∀ (cs : List (List α)) (ps : List S61) (pg : List Nat), qgo f b d cs ps pg → (∀ i, i ∈ pg → qa5 b.2.1 i) → qgo f c d cs ps pg := by
 intro cs
 induction cs with
 | nil => intro ps pg h _; exact h
 | cons a cs ih =>
  intro ps pg h hu;obtain ⟨p1, p2, g1, g2, rfl, rfl, h1, h2, h3⟩ := h;exact ⟨p1, p2, g1, g2, rfl, rfl, h1, h2.on hb (fun i hi => hu i (List.mem_append_left _ hi)), ih p2 g2 h3 (fun i hi => hu i (List.mem_append_right _ hi))⟩
theorem qev {α : Type} (f : List α → ByteArray × S80) (d : Nat) : ∀ (cs : List (List α)) (b : List S80 × List Bool × Bool) (ps : List S61) (pg : List Nat), b.1.length = b.2.1.length → qgo f b d cs ps pg → pg.Nodup → (∀ i, i ∈ pg → qa5 b.2.1 i) → (layAll f cs b).2.2.2 = false →
  ∃ pg', PD (TrD (layAll f cs b).2.1 (d + 1)) (layAll f cs b).1 ps pg' ∧ pg'.Nodup ∧ (∀ i, i ∈ pg' → qa5 (layAll f cs b).2.2.1 i) ∧ (∀ i, i ∈ pg' → i ∈ pg ∨ ¬ qa5 b.2.1 i) := by
 intro cs
 induction cs with
 | nil =>
  intro b ps pg _ h _ _ _;obtain ⟨rfl, rfl⟩ := h;exact ⟨[], ⟨rfl, rfl⟩, List.nodup_nil, (fun i hi => zdI), (fun i hi => zdI)⟩
 | cons c cs ih =>
  intro b ps pg hlen h hn hu hf;obtain ⟨p1, p2, g1, g2, rfl, rfl, h1, h2, h3⟩ := h;have hn1 := List.nodup_append.1 hn;have hb1 := qir (f c).2 b;have hb2 := qdj f cs (layB (f c).2 b).2;have hf1 : (layB (f c).2 b).2.2.2 = false := hb2.qf9 hf;obtain ⟨e1, e2, e3, e4⟩ := layB_new hlen hf1;have hu1 : ∀ i, i ∈ g1 → qa5 b.2.1 i := fun i hi => hu i (List.mem_append_left _ hi)
  have hu2 : ∀ i, i ∈ g2 → qa5 b.2.1 i := fun i hi => hu i (List.mem_append_right _ hi)
  obtain ⟨pg', t, nd, us, or⟩ := ih (layB (f c).2 b).2 p2 g2 (by rw [hb1.len, hb1.lenu]; exact hlen) (qgo.on hb1 _ _ _ h3 hu2) hn1.2.1 (fun i hi => (hb1.stay i (hu2 i hi)).1) hf;have hN := (h2.on hb1 hu1).on hb2 (fun i hi => (hb1.stay i (hu1 i hi)).1);refine ⟨((layB (f c).2 b).1 :: g1) ++ pg', ⟨p1, p2, (layB (f c).2 b).1 :: g1, pg', rfl, rfl, ?_, h1, t⟩, ?_, ?_, ?_⟩
  ·refine ⟨(f c).2, ((hb2.stay _ e2).2).trans e1, hN.1, hN.2.1, ?_⟩
   rcases hN.2.2 with ⟨a1, a2, a3⟩ | ⟨a1, a2⟩
   ·exact .inl ⟨a1, a2, by rw [a3]⟩
   ·exact .inr ⟨a1, g1, rfl, a2⟩
  ·refine List.nodup_append.2 ⟨List.nodup_cons.2 ⟨fun hi => e3 (hu1 _ hi), hn1.1⟩, nd, fun a ha b' hb' e => ?_⟩;subst e
   rcases List.mem_cons.1 ha with rfl | ha
   ·rcases or _ hb' with h | h
    ·exact e3 (hu2 _ h)
    ·exact h e2
   ·rcases or _ hb' with h | h
    ·exact hn1.2.2 a ha a h rfl
    ·exact h (hb1.stay a (hu1 a ha)).1
  ·intro i hi
   rcases List.mem_append.1 hi with hi | hi
   ·rcases List.mem_cons.1 hi with rfl | hi
    ·exact (hb2.stay _ e2).1
    ·exact (hb2.stay _ (hb1.stay i (hu1 i hi)).1).1
   ·exact us i hi
  ·intro i hi
   rcases List.mem_append.1 hi with hi | hi
   ·rcases List.mem_cons.1 hi with rfl | hi
    ·exact .inr e3
    ·exact .inl (List.mem_append_left _ hi)
   ·rcases or i hi with h | h
    ·exact .inl (List.mem_append_right _ h)
    ·exact .inr fun hh => h (hb1.stay i hh).1
theorem qeF {a b c : List S61} (h : Fine (a ++ b ++ c)) : Fine b := by
 refine ⟨fun p hp => h.1 p (List.mem_append_left _ (List.mem_append_right _ hp)), ?_⟩;have h2 := h.2;unfold Rises at h2 ⊢;exact (List.pairwise_append.1 (List.pairwise_append.1 h2).1).2.1
theorem qhX {c : List S61} (h : Fine c) (h1 : 1 ≤ c.length) (h3 : c.length ≤ 3) : nbN (leafF c).2 = true ∧ fbN (leafF c).2 = false := by
 have hf : fbN (leafF c).2 = false := by unfold fbN freeB leafF; rfl
 refine ⟨?_, hf⟩;unfold nbN nodeB;unfold fbN at hf;rw [hf];have hp : qdY c = true := qeV.2 ⟨zdM, h.1, h.2⟩;unfold leafF inB;simp only [Bool.false_or, if_true, Bool.and_eq_true, decide_eq_true_eq, List.length_nil];exact ⟨⟨zdM, zdM⟩, hp, by trivial, by trivial⟩
theorem PD_keys {T : Nat → List S61 → List Nat → Prop} : ∀ (ms : List (ByteArray × Nat)) (ps : List S61) (pg : List Nat), PD T ms ps pg → Fine ps → (ms.map (·.1)).Pairwise (fun a b => Op.bytesLess a.toList b.toList = true) ∧ (∀ m, m ∈ ms → keyB m.1 = true ∧ ∃ p, p ∈ ps ∧ p.f0 = m.1) := by
 intro ms
 induction ms with
 | nil => intro ps pg _ _; exact ⟨List.Pairwise.nil, fun m hm => by cases hm⟩
 | cons m r ih =>
  intro ps pg h hf;obtain ⟨p1, p2, g1, g2, rfl, rfl, h1, h2, h3⟩ := h;have hf1 : Fine p1 := qeF (a := []) (b := p1) (c := p2) zdx;have hf2 : Fine p2 := qeF (a := p1) (b := p2) (c := []) zdx;obtain ⟨i1, i2⟩ := ih p2 g2 h3 hf2
  cases p1 with
  | nil => cases h2
  | cons a q =>
   have ha : a.f0 = m.1 := Option.some.inj h2;have hlt : ∀ p, p ∈ p2 → Op.bytesLess m.1.toList p.f0.toList = true := fun p hp => by
    rw [← ha];exact (List.pairwise_append.1 hf.2).2.2 a List.mem_cons_self p hp
   refine ⟨?_, fun x hx => ?_⟩
   ·rw [List.map_cons, List.pairwise_cons];refine ⟨fun y hy => ?_, i1⟩;obtain ⟨z, hz, rfl⟩ := List.mem_map.1 hy;obtain ⟨_, p, hp, e⟩ := i2 z hz;rw [← e];exact hlt p hp
   ·rcases List.mem_cons.1 hx with rfl | hx
    ·refine ⟨?_, a, List.mem_append_left _ List.mem_cons_self, ha⟩;have := hf.1 a (List.mem_append_left _ List.mem_cons_self);unfold okP at this;rw [Bool.and_eq_true, ha] at this;exact this.1
    ·obtain ⟨k, p, hp, e⟩ := i2 x hx;exact ⟨k, p, List.mem_append_right _ hp, e⟩
theorem qko {c : List (ByteArray × Nat)} {i : Nat} (h : i < c.length) : rdOf ByteArray.empty (c.map (·.1)) (i : Int) = c[i].1 := by
 unfold rdOf;rw [Int.toNat_natCast];simp [List.getD_eq_getElem?_getD, h]
theorem qjT {c : List (ByteArray × Nat)} (h1 : 1 ≤ c.length) (h4 : c.length ≤ 4) (hk : ∀ m, m ∈ c → keyB m.1 = true ∧ m.2 < 50) (hr : (c.map (·.1)).Pairwise (fun a b => Op.bytesLess a.toList b.toList = true)) : nbN (qbf c).2 = true ∧ fbN (qbf c).2 = false ∧ partsOf (qbf c).2 = c := by
 have hf : fbN (qbf c).2 = false := by
  unfold fbN freeB qbf;simp;intro e;rw [e] at h1;simp at h1
 refine ⟨?_, hf, ?_⟩
 ·unfold nbN nodeB;unfold fbN at hf;rw [hf];unfold qbf inB;simp only [Bool.false_or, Bool.false_eq_true, if_false, Bool.and_eq_true, decide_eq_true_eq, List.length_nil, List.length_map];refine ⟨trivial, ⟨zdM, zdM⟩, trivial, qgz.2 fun i hi => ?_⟩;have hm := hk c[i] (List.getElem_mem _);unfold kidAt inB;rw [qko hi, show rd (c.map (fun p => (p.2 : Int))) (i : Int) = (c[i].2 : Int) from by unfold rd; rw [Int.toNat_natCast]; simp [List.getD_eq_getElem?_getD, hi]];simp only [Bool.and_eq_true, decide_eq_true_eq, Bool.or_eq_true];refine ⟨⟨zdM, zdM⟩, hm.1, ?_⟩
  by_cases h0 : i = 0
  ·exact .inl h0
  ·refine .inr ?_;rw [qko (show i - 1 < c.length from zdM)];have := (List.pairwise_iff_getElem.1 hr) (i - 1) i zcN zcN zdM
   simpa using this
 ·unfold partsOf qbf;simp only;rw [List.map_map];have : (c.map (Int.toNat ∘ fun p => (p.2 : Int))) = c.map (·.2) := List.map_congr_left fun p _ => Int.toNat_natCast _
  rw [this];clear hf hr hk h1 h4 this
  induction c with
  | nil => rfl
  | cons a r ih => simp only [List.map_cons, List.zip_cons_cons, ih]
end Go.Proofs.YtcdokcpiahbejaaGreat.X
