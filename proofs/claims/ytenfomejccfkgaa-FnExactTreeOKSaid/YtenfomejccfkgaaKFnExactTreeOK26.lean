import Derived.Test.YtenfomejccfkgaaKFnExactTreeOK4
import Derived.Test.YtenfomejccfkgaaKFnExactTreeOK6
import Derived.Test.YtenfomejccfkgaaKFnExactTreeOK15
import Derived.Test.YtenfomejccfkgaaKFnExactTreeOK25
import Derived.LoopTactic
import Derived.BigQuiet
namespace Go.Proofs.Ytenfomejccfkgaa.X
open Go.RowKit Go.Proofs.YtenfomejccfkgaaW.PrintWords Go.Proofs.YtenfomejccfkgaaW.PrintLast Go.Proofs.YtenfomejccfkgaaW.PrintMore
attribute [local go_sem] qaN qaO qaP qaJ qaK qaX qaY qaD qaE qaL qaM
set_option linter.unusedVariables false
set_option linter.unusedSimpArgs false
def lowAt (l : List S99) (key : ByteArray) : Nat := l.findIdx fun p => !Op.bytesLess p.f0.toList key.toList
def hasAt (l : List S99) (key : ByteArray) : Bool := decide (lowAt l key < l.length) && decide ((qay l (lowAt l key)).f0.toList = key.toList)
theorem lowAt_is {l : List S99} {key : ByteArray} {i : Nat} (hi : i ≤ l.length) (h0 : ∀ j (hj : j < l.length), j < i → Op.bytesLess l[j].f0.toList key.toList = true) (h1 : ∀ (hj : i < l.length), Op.bytesLess l[i].f0.toList key.toList = false) : lowAt l key = i := by
 unfold lowAt
 rcases Nat.lt_or_ge i l.length with h | h
 ·exact (List.findIdx_eq h).2 ⟨by simp [h1 h], fun j hj => by simp [h0 j (by omega) hj]⟩
 ·have e : i = l.length := by omega
  rw [e]
  exact List.findIdx_eq_length.2 fun x hx => by
   obtain ⟨j, hj, rfl⟩ := List.getElem_of_mem hx
   simp [h0 j hj (by omega)]
def qb5.f (l0 : List S99) (a1 : ByteArray) : Option (Int × Bool) := if Rises l0 ∧ l0.length ≤ 1000000 then some ((lowAt l0 a1 : Int), hasAt l0 a1) else none
set_option maxHeartbeats 1000000 in
set_option maxRecDepth 100000 in
theorem qci (x : S99) (key : ByteArray) (w : World) : Calls Try.prog 148 #[.agg #[.string x.f0, .string x.f1], .string key] w fun e w' => e = .returned (.int .i64 (cmpS x.f0 key)) ∧ Below w.heap.size w w' := by
 have hu := Try.underlying99
 go_enter Try.func148, Try.ntmps148
 go_wp2_with fail
 refine (qdt _ _ _).mono ?_
 rintro e w' ⟨rfl, rfl⟩
 go_wp2_with fail
 go_ret
 exact ⟨rfl, (Below.refl _ _).alloc (Nat.le_refl _) _⟩
theorem cmpS_neg {a b : ByteArray} (h : Op.bytesLess a.toList b.toList = true) : cmpS a b = -1 := by unfold cmpS; rw [if_pos h]
theorem qfd {a b : ByteArray} (h : Op.bytesLess a.toList b.toList = false) : 0 ≤ cmpS a b := by unfold cmpS; rw [if_neg (by rw [h]; decide)]; split <;> omega
theorem qeZ {a b : ByteArray} : cmpS a b = 0 ↔ a.toList = b.toList := by
 unfold cmpS
 by_cases h : Op.bytesLess a.toList b.toList = true
 ·rw [if_pos h]
  exact ⟨fun e => by omega, fun e => by rw [e, qeL] at h; cases h⟩
 ·rw [if_neg h]
  by_cases k : a.toList = b.toList
  ·simp [k]
  ·simp [k]
set_option maxHeartbeats 4000000 in
set_option maxRecDepth 100000 in
theorem qdk (A0 : Option Addr) (c0 : Nat) (l0 : List S99) (a1 : ByteArray) (w : World) (hr0 : Kd.C k99 w A0 l0.length l0) (hs : Rises l0) (hl : l0.length ≤ 1000000) :
  Calls Try.prog 147 #[.slice A0 l0.length c0, .string a1, .func (.func 148) #[] #[]] w
   fun e w' => e = .returned (.tuple #[.int .i64 (lowAt l0 a1), .bool (hasAt l0 a1)]) ∧ Below w.heap.size w w' := by
 have hu := Try.underlying99
 have HR0 := Aside0.mk hr0
 have HS := Aside0.mk hs
 clear hr0 hs
 go_enter Try.func147, Try.ntmps147
 go_wp2_with fail
 go_loopw [9, 10] (fun v9 v10 wr => ∃ i j : Nat, i ≤ j ∧ j ≤ l0.length ∧ v9 = .int .i64 i ∧ v10 = .int .i64 j ∧ Aside0 (∀ m (hm : m < l0.length), m < i → Op.bytesLess l0[m].f0.toList a1.toList = true) ∧ Aside0 (∀ m (hm : m < l0.length), j ≤ m → Op.bytesLess l0[m].f0.toList a1.toList = false) ∧ Aside0 (Below w.heap.size w wr)) (fun v9 v10 _ => (intOf v10).toNat - (intOf v9).toNat)
 case atStart => exact ⟨0, l0.length, Nat.zero_le _, Nat.le_refl _, rfl, rfl, ⟨fun m hm h => absurd h (by omega)⟩, ⟨fun m hm h => absurd h (by omega)⟩, ⟨Below.refl _ _⟩⟩
 case round =>
  obtain ⟨i, j, hij, hj, rfl, rfl, HL, HG, HB⟩ := hrel
  by_cases hlt : i < j
  ·obtain ⟨h, hh⟩ : ∃ h : Nat, h = (i + j) / 2 := ⟨_, rfl⟩
   have hh1 : i ≤ h := by omega
   have hh2 : h < j := by omega
   have hh3 : h < l0.length := by omega
   have p1 : 0 ≤ (h : Int) := by omega
   have q1 : (h : Int) < (l0.length : Int) := by omega
   obtain ⟨ad1, e1, hx0, hx1⟩ := qbV HR0.out (h : Int) p1 q1
   have hx : qay l0 (h : Int) = l0[h] := by unfold qay; rw [Int.toNat_natCast]; simp [List.getD_eq_getElem?_getD, hh3]
   rw [hx] at hx0 hx1
   cases e1
   replace hx0 := (HB.out.cell (World.block_lt_of_cell? w _ hx0)).trans hx0
   replace hx1 := (HB.out.cell (World.block_lt_of_cell? w _ hx1)).trans hx1
   rw [Int.toNat_natCast] at hx0 hx1
   clear hx
   obtain ⟨x, hx⟩ : ∃ x, x = l0[h] := ⟨_, rfl⟩
   rw [← hx] at hx0 hx1
   have HX := Aside0.mk hx
   clear hx
   subst hh
   cases hb : Op.bytesLess x.f0.toList a1.toList with
   | true =>
    have HC := Aside0.mk (cmpS_neg hb)
    have HX2 := Aside0.mk hb
    clear hb
    go_wp2_with fail
    refine (qci x a1 _).mono ?_
    rintro e w1 ⟨rfl, hb1⟩
    rw [HC.out]
    go_wp2_with fail
    go_roundw
    case rel => exact ⟨(i + j) / 2 + 1, j, by omega, by omega, by go_num, rfl, ⟨fun m hm h => by
     by_cases e : m = (i + j) / 2
     ·subst e; rw [← HX.out]; exact HX2.out
     ·have hm2 : m < (i + j) / 2 := by omega
      have := qel HS.out hh3 hm2
      rw [← HX.out] at this
      exact qcO this HX2.out⟩, HG, ⟨qaj HB.out hb1⟩⟩
    case measure => simp [intOf]; omega
   | false =>
    have hc := qfd hb
    obtain ⟨c, hcc⟩ : ∃ c, c = cmpS x.f0 a1 := ⟨_, rfl⟩
    rw [← hcc] at hc
    have HC := Aside0.mk hcc
    have hc2 : decide (c < 0) = false := decide_eq_false (by omega)
    have HX2 := Aside0.mk hb
    clear hb hcc hc
    go_wp2_with fail
    refine (qci x a1 _).mono ?_
    rintro e w1 ⟨rfl, hb1⟩
    rw [← HC.out]
    go_wp2_with fail
    go_roundw
    case rel => exact ⟨i, (i + j) / 2, by omega, by omega, rfl, by go_num, HL, ⟨fun m hm h => by
     by_cases e : m = (i + j) / 2
     ·subst e; rw [← HX.out]; exact HX2.out
     ·have hm2 : (i + j) / 2 < m := by omega
      have h2 := qel HS.out hm hm2
      rw [← HX.out] at h2
      cases h3 : Op.bytesLess l0[m].f0.toList a1.toList with
      | false => rfl
      | true => have := qcO h2 h3; rw [HX2.out] at this; cases this⟩, ⟨qaj HB.out hb1⟩⟩
    case measure => simp [intOf]; omega
  ·have hie : i = j := by omega
   subst hie
   have HI := Aside0.mk (lowAt_is hj HL.out (fun h => HG.out i h (Nat.le_refl _)))
   by_cases hn : i < l0.length
   ·have p1 : 0 ≤ (i : Int) := by omega
    have q1 : (i : Int) < (l0.length : Int) := by omega
    obtain ⟨ad1, e1, hx0, hx1⟩ := qbV HR0.out (i : Int) p1 q1
    cases e1
    replace hx0 := (HB.out.cell (World.block_lt_of_cell? w _ hx0)).trans hx0
    replace hx1 := (HB.out.cell (World.block_lt_of_cell? w _ hx1)).trans hx1
    rw [Int.toNat_natCast] at hx0 hx1
    obtain ⟨x, hx⟩ : ∃ x, x = qay l0 (i : Int) := ⟨_, rfl⟩
    rw [← hx] at hx0 hx1
    have HX := Aside0.mk hx
    clear hx
    obtain ⟨c, hcc⟩ : ∃ c, c = cmpS x.f0 a1 := ⟨_, rfl⟩
    have HC := Aside0.mk hcc
    clear hcc
    by_cases hz : c = 0
    ·have HZ : hasAt l0 a1 = true := by
      unfold hasAt
      rw [HI.out, ← HX.out, decide_eq_true hn, decide_eq_true (qeZ.1 (HC.out ▸ hz))]
      rfl
     have HZ2 := Aside0.mk HZ
     clear HZ
     have hz2 : (c == 0) = true := beq_iff_eq.2 hz
     have HZ3 := Aside0.mk hz
     clear hz
     go_wp2_with fail
     refine (qci x a1 _).mono ?_
     rintro e w1 ⟨rfl, hb1⟩
     rw [← HC.out]
     go_wp2_with fail
     go_ret2
     exact ⟨by rw [HI.out, HZ2.out]; rfl, qaj HB.out hb1⟩
    ·have HZ : hasAt l0 a1 = false := by
      unfold hasAt
      rw [HI.out, ← HX.out, decide_eq_false (fun e => hz (HC.out.trans (qeZ.2 e)))]
      simp
     have HZ2 := Aside0.mk HZ
     clear HZ
     have hz2 : (c == 0) = false := beq_eq_false_iff_ne.2 hz
     have HZ3 := Aside0.mk hz
     clear hz
     go_wp2_with fail
     refine (qci x a1 _).mono ?_
     rintro e w1 ⟨rfl, hb1⟩
     rw [← HC.out]
     go_wp2_with fail
     go_ret2
     exact ⟨by rw [HI.out, HZ2.out]; rfl, qaj HB.out hb1⟩
   ·have HZ : hasAt l0 a1 = false := by
     unfold hasAt
     rw [HI.out, decide_eq_false hn]
     rfl
    have HZ2 := Aside0.mk HZ
    clear HZ
    go_wp2_with fail
    go_ret2
    exact ⟨by rw [HI.out, HZ2.out]; rfl, HB.out⟩
set_option maxHeartbeats 1000000 in
set_option maxRecDepth 100000 in
theorem qb5.calls (A0 : Option Addr) (c0 : Nat) (l0 : List (S99)) (a1 : ByteArray) (r1 : Int) (r2 : Bool) (w : World) (hr0 : Kd.C k99 w A0 l0.length l0) (hc0 : l0.length ≤ c0) (h : qb5.f l0 a1 = some (r1, r2)) :
  Calls Try.prog 104 #[.slice A0 l0.length c0, .string a1] w fun e w' => e = .returned (.tuple #[.int .i64 r1, .bool r2]) ∧ Below w.heap.size w w' := by
 unfold qb5.f at h
 by_cases hs : Rises l0 ∧ l0.length ≤ 1000000
 ·rw [if_pos hs] at h
  have h' := Option.some.inj h
  clear h
  obtain ⟨rfl, rfl⟩ := Prod.mk.inj h'
  clear h'
  have HC := Aside0.mk (qdk A0 c0 l0 a1 w hr0 hs.1 hs.2)
  clear hr0 hs
  generalize hasAt l0 a1 = b at HC ⊢
  generalize lowAt l0 a1 = i at HC ⊢
  go_enter Try.func104, Try.ntmps104
  go_wp2_with fail
  refine HC.out.mono ?_
  rintro e w1 ⟨rfl, hb1⟩
  go_wp2_with fail
  go_ret2
  exact ⟨rfl, hb1⟩
 ·rw [if_neg hs] at h
  cases h
end Go.Proofs.Ytenfomejccfkgaa.X
namespace Go.Proofs.Ytenfomejccfkgaa.X
open Go.RowKit Go.Proofs.YtenfomejccfkgaaW.PrintWords Go.Proofs.YtenfomejccfkgaaW.PrintLast Go.Proofs.YtenfomejccfkgaaW.PrintMore
attribute [local go_sem] qaN qaO qaP qaJ qaK qaX qaY qaD qaE qaL qaM
set_option linter.unusedVariables false
set_option linter.unusedSimpArgs false
def qbd.l0 : Nat → List (S99) → ByteArray → Int → Option (Int)
 | 0, _, _, _ => none
 | k + 1, x0, x1, x5 => if x5 < (x0.length : Int) then (if 0 ≤ x5 then (if (Op.bytesLess (((qay x0 x5).f0).toList) x1.toList) = true then (qbd.l0 k x0 x1 (wrap64 (x5 + 1))) else (some x5)) else (none)) else (some x5)
def qbd.f (k : Nat) (l0 : List (S99)) (a1 : ByteArray) : Option (Int) := qbd.l0 k l0 a1 0
theorem qbd.qbq : ∀ k, (∀ y0 y1 y2, LeO (qbd.l0 k y0 y1 y2) (qbd.l0 (k + 1) y0 y1 y2))
 | 0 => fun _ _ _ r h => by simp [qbd.l0] at h
 | k + 1 => by
  have ih0 := qbd.qbq k
  ·intro y0 y1 y2
   unfold qbd.l0
   repeat' first
   | (with_reducible exact ih0 _ _ _)
   | (with_reducible exact LeO.refl _)
   | (with_reducible exact LeO.none _)
   | (with_reducible refine LeO.ite ?_ ?_)
   | (with_reducible refine LeO.bind ?_ (fun _ => ?_))
   | exact ih0 _ _ _
   | exact LeO.none _
   | refine LeO.ite ?_ ?_
   | refine LeO.bind ?_ (fun _ => ?_)
theorem qbd.mono : ∀ a0 a1 k, LeO (qbd.f k a0 a1) (qbd.f (k + 1) a0 a1) := by
 intro a0 a1 k
 have ih0 := qbd.qbq k
 unfold qbd.f
 repeat' first
   | (with_reducible exact ih0 _ _ _)
   | (with_reducible exact LeO.refl _)
   | (with_reducible exact LeO.none _)
   | (with_reducible refine LeO.ite ?_ ?_)
   | (with_reducible refine LeO.bind ?_ (fun _ => ?_))
   | exact ih0 _ _ _
   | exact LeO.none _
   | refine LeO.ite ?_ ?_
   | refine LeO.bind ?_ (fun _ => ?_)
set_option maxHeartbeats 8000000 in
set_option maxRecDepth 100000 in
theorem qbd.calls (k : Nat) (A0 : Option Addr) (c0 : Nat) (l0 : List (S99)) (a1 : ByteArray) (r : Int) (w : World) (hr0 : Kd.C k99 w A0 l0.length l0) (hc0 : l0.length ≤ c0) (h : qbd.f k l0 a1 = some r) :
  Calls Try.prog 123 #[.slice A0 l0.length c0, .string a1] w fun e w' => e = .returned (.int .i64 r) ∧ qbb w w' := by
 have HR0 := Aside0.mk hr0
 have HC0 := Aside0.mk hc0
 clear hr0 hc0
 have H : (qbd.l0 k l0 a1 0) = some r := h
 clear h
 have H' := Aside0.mk H
 clear H
 go_enter Try.func123, Try.ntmps123
 go_wp2
 go_loopg [5] k (fun kq v5 w' => ∃ (x5_1 : Int), v5 = .int .i64 x5_1 ∧ Aside0 (qbd.l0 kq l0 a1 x5_1 = some r) ∧ Aside0 (kq ≤ k) ∧ qbb w w')
 case atStart => exact ⟨(0), (by first | rfl | (simp; done) | (simp [*]; done)), H', ⟨Nat.le_refl _⟩, by repeat (first | exact qbb.refl _ | apply qbb.step)⟩
 case round =>
  clear H'
  try clear c1
  try clear p2
  obtain ⟨x5_1, rfl, HA, HK1, ⟨m1, rfl⟩⟩ := hrel
  cases gk with
  | zero => exact absurd HA.out (by simp [qbd.l0])
  | succ k1 =>
   have H := HA.out
   clear HA
   simp only [qbd.l0] at H
   by_cases c3 : x5_1 < (l0.length : Int)
   ·rw [if_pos c3] at H
    have c3b0 : decide (x5_1 < (l0.length : Int)) = true := decide_eq_true c3
    clear c3
    by_cases c4 : 0 ≤ x5_1
    ·rw [if_pos c4] at H
     have c4b0 : decide (0 ≤ x5_1) = true := decide_eq_true c4
     clear c4
     by_cases c5 : (Op.bytesLess (((qay l0 x5_1).f0).toList) a1.toList) = true
     ·rw [if_pos c5] at H
      have c5b0 : (Op.bytesLess (((qay l0 x5_1).f0).toList) a1.toList) = true := c5
      clear c5
      have H' := Aside0.mk H
      clear H
      have p308 : 0 ≤ (x5_1 : Int) := of_decide_eq_true (by first | (with_reducible assumption) | assumption)
      have q308 : x5_1 < (l0.length : Int) := of_decide_eq_true (by first | (with_reducible assumption) | assumption)
      obtain ⟨ad308, e308, hx308_0, hx308_1⟩ := qbV HR0.out x5_1 p308 q308
      cases e308
      replace p308 := eq_true p308
      replace q308 := eq_true q308
      go_wp2
      go_roundg k1
      case measure => have := HK1.out; omega
      case rel => exact ⟨(wrap64 (x5_1 + 1)), (by first | rfl | (simp; done) | (simp [*]; done)), H', ⟨by have := HK1.out; omega⟩, by repeat (first | exact qbb.refl _ | apply qbb.step)⟩
     ·rw [if_neg c5] at H
      have c5b0 : (Op.bytesLess (((qay l0 x5_1).f0).toList) a1.toList) = false := by simpa using c5
      clear c5
      obtain rfl := Option.some.inj H
      have p308 : 0 ≤ (x5_1 : Int) := of_decide_eq_true (by first | (with_reducible assumption) | assumption)
      have q308 : x5_1 < (l0.length : Int) := of_decide_eq_true (by first | (with_reducible assumption) | assumption)
      obtain ⟨ad308, e308, hx308_0, hx308_1⟩ := qbV HR0.out x5_1 p308 q308
      cases e308
      replace p308 := eq_true p308
      replace q308 := eq_true q308
      go_wp2
      go_ret
      exact ⟨by first | rfl | (simp; done) | (simp [*]; done), by repeat (first | exact qbb.refl _ | apply qbb.step)⟩
    ·rw [if_neg c4] at H
     exact absurd H (by simp)
   ·rw [if_neg c3] at H
    have c3b0 : decide (x5_1 < (l0.length : Int)) = false := decide_eq_false c3
    clear c3
    obtain rfl := Option.some.inj H
    go_wp2
    go_ret
    exact ⟨by first | rfl | (simp; done) | (simp [*]; done), by repeat (first | exact qbb.refl _ | apply qbb.step)⟩
end Go.Proofs.Ytenfomejccfkgaa.X
namespace Go.Proofs.Ytenfomejccfkgaa.X
open Go.RowKit Go.Proofs.YtenfomejccfkgaaW.PrintWords Go.Proofs.YtenfomejccfkgaaW.PrintLast Go.Proofs.YtenfomejccfkgaaW.PrintMore
attribute [local go_sem] qaN qaO qaP qaJ qaK qaX qaY qaD qaE qaL qaM
set_option linter.unusedVariables false
set_option linter.unusedSimpArgs false
def qby.f (k : Nat) (l0 : List (S99)) (a1 : ByteArray) : Option (ByteArray × Bool) := (qbd.f k l0 a1).bind fun t309 => (if t309 < (l0.length : Int) then (if 0 ≤ t309 then (if ((qay l0 t309).f0).toList = a1.toList then (some ((qay l0 t309).f1, true)) else (some ((⟨#[]⟩ : ByteArray), false))) else (none)) else (some ((⟨#[]⟩ : ByteArray), false)))
theorem qby.mono : ∀ a0 a1 k, LeO (qby.f k a0 a1) (qby.f (k + 1) a0 a1) := by
 intro a0 a1 k
 unfold qby.f
 repeat' first
   | (with_reducible exact qbd.mono _ _ _)
   | (with_reducible exact LeO.refl _)
   | (with_reducible exact LeO.none _)
   | (with_reducible refine LeO.ite ?_ ?_)
   | (with_reducible refine LeO.bind ?_ (fun _ => ?_))
   | exact qbd.mono _ _ _
   | exact LeO.none _
   | refine LeO.ite ?_ ?_
   | refine LeO.bind ?_ (fun _ => ?_)
set_option maxHeartbeats 8000000 in
set_option maxRecDepth 100000 in
theorem qby.calls (k : Nat) (A0 : Option Addr) (c0 : Nat) (l0 : List (S99)) (a1 : ByteArray) (r1 : ByteArray) (r2 : Bool) (w : World) (hr0 : Kd.C k99 w A0 l0.length l0) (hc0 : l0.length ≤ c0) (h : qby.f k l0 a1 = some (r1, r2)) :
  Calls Try.prog 70 #[.slice A0 l0.length c0, .string a1] w fun e w' => e = .returned (.tuple #[.string r1, .bool r2]) ∧ qbb w w' := by
 have HR0 := Aside0.mk hr0
 have HC0 := Aside0.mk hc0
 clear hr0 hc0
 have H : ((qbd.f k l0 a1).bind fun t309 => (if t309 < (l0.length : Int) then (if 0 ≤ t309 then (if ((qay l0 t309).f0).toList = a1.toList then (some ((qay l0 t309).f1, true)) else (some ((⟨#[]⟩ : ByteArray), false))) else (none)) else (some ((⟨#[]⟩ : ByteArray), false)))) = some (r1, r2) := h
 clear h
 replace H := Option.bind_eq_some_iff.mp H
 obtain ⟨t309, A30, H⟩ := H
 replace H : (if t309 < (l0.length : Int) then (if 0 ≤ t309 then (if ((qay l0 t309).f0).toList = a1.toList then (some ((qay l0 t309).f1, true)) else (some ((⟨#[]⟩ : ByteArray), false))) else (none)) else (some ((⟨#[]⟩ : ByteArray), false))) = some (r1, r2) := H
 have A3 := Aside0.mk A30
 clear A30
 by_cases c4 : t309 < (l0.length : Int)
 ·rw [if_pos c4] at H
  have c4b0 : decide (t309 < (l0.length : Int)) = true := decide_eq_true c4
  clear c4
  by_cases c5 : 0 ≤ t309
  ·rw [if_pos c5] at H
   have c5b0 : decide (0 ≤ t309) = true := decide_eq_true c5
   clear c5
   by_cases c6 : ((qay l0 t309).f0).toList = a1.toList
   ·rw [if_pos c6] at H
    have c6b0 : (((qay l0 t309).f0).toList == a1.toList) = true := beq_iff_eq.mpr c6
    have c6b1 : (((qay l0 t309).f0).toList != a1.toList) = false := bne_eq_false_iff_eq.mpr c6
    clear c6
    simp only [Option.some.injEq, Prod.mk.injEq] at H
    obtain ⟨rfl, rfl⟩ := H
    go_enter Try.func70, Try.ntmps70
    go_wp2_with (first | ((with_reducible refine qaq (f := 123) rfl ?_); refine qa0 (some 9) rfl rfl Try.func123 (by kernel_rfl) rfl #[.slice A0 l0.length c0, .string a1] rfl (by (try simp only [List.map_toArray, List.map_cons, List.map_nil]); first | done | rfl | (simp only [List.length_drop, List.length_take]; rfl)) ?_; (with_reducible refine (qbd.calls k _ _ l0 a1 t309 _ ?side1 ?side2 A3.out).mono ?_); (case side1 => repeat (first | exact HR0.out | (with_reducible refine Kd.qaz ?_ _) | (with_reducible refine Kd.qaA ?_ _) | (with_reducible refine Kd.qaQ ?_))); (case side2 => exact HC0.out); rintro e w' ⟨rfl, ⟨nd, rfl⟩⟩; refine ⟨_, rfl, ?_⟩; have p310 : 0 ≤ (t309 : Int) := of_decide_eq_true (by first | (with_reducible assumption) | assumption); have q310 : t309 < (l0.length : Int) := of_decide_eq_true (by first | (with_reducible assumption) | assumption); obtain ⟨ad310, e310, hx310_0, hx310_1⟩ := qbV HR0.out t309 p310 q310; cases e310; replace p310 := eq_true p310; replace q310 := eq_true q310; have p311 : 0 ≤ (t309 : Int) := of_decide_eq_true (by first | (with_reducible assumption) | assumption); have q311 : t309 < (l0.length : Int) := of_decide_eq_true (by first | (with_reducible assumption) | assumption); obtain ⟨ad311, e311, hx311_0, hx311_1⟩ := qbV HR0.out t309 p311 q311; obtain rfl : ad310 = ad311 := (by injection e311); replace p311 := eq_true p311; replace q311 := eq_true q311))
    go_ret2
    exact ⟨by first | rfl | (simp; done) | (simp [*]; done), by repeat (first | exact qbb.refl _ | apply qbb.step)⟩
   ·rw [if_neg c6] at H
    have c6b0 : (((qay l0 t309).f0).toList == a1.toList) = false := beq_eq_false_iff_ne.mpr c6
    have c6b1 : (((qay l0 t309).f0).toList != a1.toList) = true := bne_iff_ne.mpr c6
    simp only [Option.some.injEq, Prod.mk.injEq] at H
    obtain ⟨rfl, rfl⟩ := H
    go_enter Try.func70, Try.ntmps70
    go_wp2_with (first | ((with_reducible refine qaq (f := 123) rfl ?_); refine qa0 (some 9) rfl rfl Try.func123 (by kernel_rfl) rfl #[.slice A0 l0.length c0, .string a1] rfl (by (try simp only [List.map_toArray, List.map_cons, List.map_nil]); first | done | rfl | (simp only [List.length_drop, List.length_take]; rfl)) ?_; (with_reducible refine (qbd.calls k _ _ l0 a1 t309 _ ?side1 ?side2 A3.out).mono ?_); (case side1 => repeat (first | exact HR0.out | (with_reducible refine Kd.qaz ?_ _) | (with_reducible refine Kd.qaA ?_ _) | (with_reducible refine Kd.qaQ ?_))); (case side2 => exact HC0.out); rintro e w' ⟨rfl, ⟨nd, rfl⟩⟩; refine ⟨_, rfl, ?_⟩; have p310 : 0 ≤ (t309 : Int) := of_decide_eq_true (by first | (with_reducible assumption) | assumption); have q310 : t309 < (l0.length : Int) := of_decide_eq_true (by first | (with_reducible assumption) | assumption); obtain ⟨ad310, e310, hx310_0, hx310_1⟩ := qbV HR0.out t309 p310 q310; cases e310; replace p310 := eq_true p310; replace q310 := eq_true q310))
    go_ret2
    exact ⟨by first | rfl | (simp; done) | (simp [*]; done), by repeat (first | exact qbb.refl _ | apply qbb.step)⟩
  ·rw [if_neg c5] at H
   exact absurd H (by simp)
 ·rw [if_neg c4] at H
  have c4b0 : decide (t309 < (l0.length : Int)) = false := decide_eq_false c4
  clear c4
  simp only [Option.some.injEq, Prod.mk.injEq] at H
  obtain ⟨rfl, rfl⟩ := H
  go_enter Try.func70, Try.ntmps70
  go_wp2_with (first | ((with_reducible refine qaq (f := 123) rfl ?_); refine qa0 (some 9) rfl rfl Try.func123 (by kernel_rfl) rfl #[.slice A0 l0.length c0, .string a1] rfl (by (try simp only [List.map_toArray, List.map_cons, List.map_nil]); first | done | rfl | (simp only [List.length_drop, List.length_take]; rfl)) ?_; (with_reducible refine (qbd.calls k _ _ l0 a1 t309 _ ?side1 ?side2 A3.out).mono ?_); (case side1 => repeat (first | exact HR0.out | (with_reducible refine Kd.qaz ?_ _) | (with_reducible refine Kd.qaA ?_ _) | (with_reducible refine Kd.qaQ ?_))); (case side2 => exact HC0.out); rintro e w' ⟨rfl, ⟨nd, rfl⟩⟩; refine ⟨_, rfl, ?_⟩))
  go_ret2
  exact ⟨by first | rfl | (simp; done) | (simp [*]; done), by repeat (first | exact qbb.refl _ | apply qbb.step)⟩
end Go.Proofs.Ytenfomejccfkgaa.X
namespace Go.Proofs.Ytenfomejccfkgaa.X
open Go.RowKit Go.Proofs.YtenfomejccfkgaaW.PrintWords Go.Proofs.YtenfomejccfkgaaW.PrintLast Go.Proofs.YtenfomejccfkgaaW.PrintMore
attribute [local go_sem] qaN qaO qaP qaJ qaK qaX qaY qaD qaE qaL qaM
set_option linter.unusedVariables false
set_option linter.unusedSimpArgs false
end Go.Proofs.Ytenfomejccfkgaa.X
namespace Go.Proofs.Ytenfomejccfkgaa.X
open Go.RowKit Go.Proofs.YtenfomejccfkgaaW.PrintWords Go.Proofs.YtenfomejccfkgaaW.PrintLast Go.Proofs.YtenfomejccfkgaaW.PrintMore
attribute [local go_sem] qaN qaO qaP qaJ qaK qaX qaY qaD qaE qaL qaM
set_option linter.unusedVariables false
set_option linter.unusedSimpArgs false
def qaZ.j0 : Nat → List (S99) → ByteArray → Bool → Option (Int)
 | 0, _, _, _ => none
 | k + 1, x0, x1, x5 => if x5 = true then (some 2) else ((qbh.f k x0).bind fun t323 => (if t323 = true then ((qbg.f x1).bind fun t324 => (if t324 = true then (some 0) else (some 4))) else (some 1)))
def qaZ.f (k : Nat) (l0 : List (S99)) (a1 : ByteArray) : Option (Int) := if (l0.length : Int) > 4096 then (qaZ.j0 k l0 a1 true) else (qaZ.j0 k l0 a1 (decide ((a1.size : Int) > 65536)))
theorem qaZ.qbq : ∀ k, (∀ y0 y1 y2, LeO (qaZ.j0 k y0 y1 y2) (qaZ.j0 (k + 1) y0 y1 y2))
 | 0 => fun _ _ _ r h => by simp [qaZ.j0] at h
 | k + 1 => by
  have ih0 := qaZ.qbq k
  ·intro y0 y1 y2
   unfold qaZ.j0
   repeat' first
   | (with_reducible exact ih0 _ _ _)
   | (with_reducible exact qbh.mono _ _)
   | (with_reducible exact LeO.refl _)
   | (with_reducible exact LeO.none _)
   | (with_reducible refine LeO.ite ?_ ?_)
   | (with_reducible refine LeO.bind ?_ (fun _ => ?_))
   | exact ih0 _ _ _
   | exact qbh.mono _ _
   | exact LeO.none _
   | refine LeO.ite ?_ ?_
   | refine LeO.bind ?_ (fun _ => ?_)
theorem qaZ.mono : ∀ a0 a1 k, LeO (qaZ.f k a0 a1) (qaZ.f (k + 1) a0 a1) := by
 intro a0 a1 k
 have ih0 := qaZ.qbq k
 unfold qaZ.f
 repeat' first
   | (with_reducible exact ih0 _ _ _)
   | (with_reducible exact qbh.mono _ _)
   | (with_reducible exact LeO.refl _)
   | (with_reducible exact LeO.none _)
   | (with_reducible refine LeO.ite ?_ ?_)
   | (with_reducible refine LeO.bind ?_ (fun _ => ?_))
   | exact ih0 _ _ _
   | exact qbh.mono _ _
   | exact LeO.none _
   | refine LeO.ite ?_ ?_
   | refine LeO.bind ?_ (fun _ => ?_)
set_option maxHeartbeats 8000000 in
set_option maxRecDepth 100000 in
theorem qaZ.calls (k : Nat) (A0 : Option Addr) (c0 : Nat) (l0 : List (S99)) (a1 : ByteArray) (r : Int) (w : World) (hr0 : Kd.C k99 w A0 l0.length l0) (hc0 : l0.length ≤ c0) (h : qaZ.f k l0 a1 = some r) :
  Calls Try.prog 102 #[.slice A0 l0.length c0, .string a1] w fun e w' => e = .returned (.int .i64 r) ∧ Below w.heap.size w w' := by
 have HR0 := Aside0.mk hr0
 have HC0 := Aside0.mk hc0
 clear hr0 hc0
 have HB := Aside0.mk (Below.refl w.heap.size w)
 have H : (if (l0.length : Int) > 4096 then (qaZ.j0 k l0 a1 true) else (qaZ.j0 k l0 a1 (decide ((a1.size : Int) > 65536)))) = some r := h
 clear h
 have HC3 := Aside0.mk H
 clear H
 go_enter Try.func102, Try.ntmps102
 go_upto_region 1 with (fail)
 go_cut [5] (fun v5 wc => ∃ (kq : Nat) (x5_2 : Bool), v5 = .bool x5_2 ∧ Aside0 (qaZ.j0 kq l0 a1 x5_2 = some r) ∧ Aside0 (kq ≤ k) ∧ Aside0 (Below w.heap.size w wc))
 case first =>
  have H := HC3.out
  clear HC3
  by_cases c4 : (l0.length : Int) > 4096
  ·rw [if_pos c4] at H
   have c4b0 : decide (4096 < (l0.length : Int)) = true := decide_eq_true c4
   have c4b1 : decide (4096 < l0.length) = true := decide_eq_true (by omega)
   clear c4
   (first | rw [c4b0] | (simp only [qav, qb3]; rw [c4b0]) | skip)
   have H' := Aside0.mk H
   clear H
   go_wp2
   go_meet
   case rel => exact ⟨_, (true), (by first | rfl | (simp; done) | (simp [*]; done)), H', ⟨by first | omega | exact Nat.le_refl _⟩, ⟨by repeat (first | (with_reducible first | exact HB.out | apply qab | apply qaa | apply qac) | exact HB.out)⟩⟩
  ·rw [if_neg c4] at H
   have c4b0 : decide (4096 < (l0.length : Int)) = false := decide_eq_false c4
   have c4b1 : decide (4096 < l0.length) = false := decide_eq_false (by omega)
   clear c4
   (first | rw [c4b0] | (simp only [qav, qb3]; rw [c4b0]) | skip)
   have H' := Aside0.mk H
   clear H
   go_wp2
   go_meet
   case rel => exact ⟨_, (decide ((a1.size : Int) > 65536)), (by first | rfl | (simp; done) | (simp [*]; done)), H', ⟨by first | omega | exact Nat.le_refl _⟩, ⟨by repeat (first | (with_reducible first | exact HB.out | apply qab | apply qaa | apply qac) | exact HB.out)⟩⟩
 case rest =>
  clear HC3
  try clear c1
  try clear p2
  try clear c4
  try clear c4b0
  try clear c4b1
  obtain ⟨kq, x5_2, rfl, HA, HJ2, HB⟩ := hcut
  cases kq with
  | zero => exact absurd HA.out (by simp [qaZ.j0])
  | succ kj2 =>
   have H := HA.out
   clear HA
   simp only [qaZ.j0] at H
   by_cases c5 : x5_2 = true
   ·subst c5
    have H1 : (some 2) = some r := by rw [if_pos rfl] at H; exact H
    clear H
    have H := H1
    clear H1
    obtain rfl := Option.some.inj H
    go_wp2
    go_ret
    exact ⟨by first | rfl | (simp [qam, qan] <;> rfl) | (simp [*, qam, qan] <;> rfl), by repeat (first | (with_reducible first | exact HB.out | apply qab | apply qaa | apply qac) | exact HB.out)⟩
   ·replace c5 := Bool.eq_false_iff.mpr c5
    subst c5
    have H1 : ((qbh.f kj2 l0).bind fun t323 => (if t323 = true then ((qbg.f a1).bind fun t324 => (if t324 = true then (some 0) else (some 4))) else (some 1))) = some r := by rw [if_neg (show ¬ (false = true) by decide)] at H; exact H
    clear H
    have H := H1
    clear H1
    replace H := Option.bind_eq_some_iff.mp H
    obtain ⟨t323, A60, H⟩ := H
    replace H : (if t323 = true then ((qbg.f a1).bind fun t324 => (if t324 = true then (some 0) else (some 4))) else (some 1)) = some r := H
    have A6 := Aside0.mk A60
    clear A60
    by_cases c7 : t323 = true
    ·subst c7
     have H1 : ((qbg.f a1).bind fun t324 => (if t324 = true then (some 0) else (some 4))) = some r := by rw [if_pos rfl] at H; exact H
     clear H
     have H := H1
     clear H1
     replace H := Option.bind_eq_some_iff.mp H
     obtain ⟨t324, A80, H⟩ := H
     replace H : (if t324 = true then (some 0) else (some 4)) = some r := H
     have A8 := Aside0.mk A80
     clear A80
     by_cases c9 : t324 = true
     ·subst c9
      have H1 : (some 0) = some r := by rw [if_pos rfl] at H; exact H
      clear H
      have H := H1
      clear H1
      obtain rfl := Option.some.inj H
      go_wp2_with (first | ((with_reducible refine qaq (f := 122) rfl ?_); refine qa0 (some 16) rfl rfl Try.func122 (by kernel_rfl) rfl #[.slice A0 l0.length c0] rfl (by (try simp only [List.map_toArray, List.map_cons, List.map_nil]); first | done | rfl | (simp only [List.length_drop, List.length_take]; rfl)) ?_; (with_reducible refine (qbh.calls kj2 _ _ l0 true _ ?side1 ?side2 A6.out).mono ?_); (case side1 => repeat (first | exact (Kd.qax HR0.out HB.out) | (with_reducible refine Kd.qaz ?_ _) | (with_reducible refine Kd.qaA ?_ _) | (with_reducible refine Kd.qaQ ?_))); (case side2 => exact HC0.out); rintro e w10 ⟨rfl, hb⟩; refine ⟨_, rfl, ?_⟩; have n0_ := Aside0.mk (qaj (by repeat (first | (with_reducible first | exact HB.out | apply qab | apply qaa | apply qac) | exact HB.out)) hb); clear HB; have HB := n0_; clear n0_; (try clear hb); (try clear hb2); (try clear hk); (try clear hi)) | ((with_reducible refine qaq (f := 71) rfl ?_); refine qa0 (some 20) rfl rfl Try.func71 (by kernel_rfl) rfl #[.string a1] rfl (by (try simp only [List.map_toArray, List.map_cons, List.map_nil]); first | done | rfl | (simp only [List.length_drop, List.length_take]; rfl)) ?_; (with_reducible refine (qbg.calls a1 true _ A8.out).mono ?_); rintro e w' ⟨rfl, ⟨nd, rfl⟩⟩; refine ⟨_, rfl, ?_⟩))
      go_ret
      exact ⟨by first | rfl | (simp [qam, qan] <;> rfl) | (simp [*, qam, qan] <;> rfl), by repeat (first | (with_reducible first | exact HB.out | apply qab | apply qaa | apply qac) | exact HB.out)⟩
     ·replace c9 := Bool.eq_false_iff.mpr c9
      subst c9
      have H1 : (some 4) = some r := by rw [if_neg (show ¬ (false = true) by decide)] at H; exact H
      clear H
      have H := H1
      clear H1
      obtain rfl := Option.some.inj H
      go_wp2_with (first | ((with_reducible refine qaq (f := 122) rfl ?_); refine qa0 (some 16) rfl rfl Try.func122 (by kernel_rfl) rfl #[.slice A0 l0.length c0] rfl (by (try simp only [List.map_toArray, List.map_cons, List.map_nil]); first | done | rfl | (simp only [List.length_drop, List.length_take]; rfl)) ?_; (with_reducible refine (qbh.calls kj2 _ _ l0 true _ ?side1 ?side2 A6.out).mono ?_); (case side1 => repeat (first | exact (Kd.qax HR0.out HB.out) | (with_reducible refine Kd.qaz ?_ _) | (with_reducible refine Kd.qaA ?_ _) | (with_reducible refine Kd.qaQ ?_))); (case side2 => exact HC0.out); rintro e w11 ⟨rfl, hb⟩; refine ⟨_, rfl, ?_⟩; have n0_ := Aside0.mk (qaj (by repeat (first | (with_reducible first | exact HB.out | apply qab | apply qaa | apply qac) | exact HB.out)) hb); clear HB; have HB := n0_; clear n0_; (try clear hb); (try clear hb2); (try clear hk); (try clear hi)) | ((with_reducible refine qaq (f := 71) rfl ?_); refine qa0 (some 20) rfl rfl Try.func71 (by kernel_rfl) rfl #[.string a1] rfl (by (try simp only [List.map_toArray, List.map_cons, List.map_nil]); first | done | rfl | (simp only [List.length_drop, List.length_take]; rfl)) ?_; (with_reducible refine (qbg.calls a1 false _ A8.out).mono ?_); rintro e w' ⟨rfl, ⟨nd, rfl⟩⟩; refine ⟨_, rfl, ?_⟩))
      go_ret
      exact ⟨by first | rfl | (simp [qam, qan] <;> rfl) | (simp [*, qam, qan] <;> rfl), by repeat (first | (with_reducible first | exact HB.out | apply qab | apply qaa | apply qac) | exact HB.out)⟩
    ·replace c7 := Bool.eq_false_iff.mpr c7
     subst c7
     have H1 : (some 1) = some r := by rw [if_neg (show ¬ (false = true) by decide)] at H; exact H
     clear H
     have H := H1
     clear H1
     obtain rfl := Option.some.inj H
     go_wp2_with (first | ((with_reducible refine qaq (f := 122) rfl ?_); refine qa0 (some 16) rfl rfl Try.func122 (by kernel_rfl) rfl #[.slice A0 l0.length c0] rfl (by (try simp only [List.map_toArray, List.map_cons, List.map_nil]); first | done | rfl | (simp only [List.length_drop, List.length_take]; rfl)) ?_; (with_reducible refine (qbh.calls kj2 _ _ l0 false _ ?side1 ?side2 A6.out).mono ?_); (case side1 => repeat (first | exact (Kd.qax HR0.out HB.out) | (with_reducible refine Kd.qaz ?_ _) | (with_reducible refine Kd.qaA ?_ _) | (with_reducible refine Kd.qaQ ?_))); (case side2 => exact HC0.out); rintro e w12 ⟨rfl, hb⟩; refine ⟨_, rfl, ?_⟩; have n0_ := Aside0.mk (qaj (by repeat (first | (with_reducible first | exact HB.out | apply qab | apply qaa | apply qac) | exact HB.out)) hb); clear HB; have HB := n0_; clear n0_; (try clear hb); (try clear hb2); (try clear hk); (try clear hi)))
     go_ret
     exact ⟨by first | rfl | (simp [qam, qan] <;> rfl) | (simp [*, qam, qan] <;> rfl), by repeat (first | (with_reducible first | exact HB.out | apply qab | apply qaa | apply qac) | exact HB.out)⟩
end Go.Proofs.Ytenfomejccfkgaa.X
namespace Go.Proofs.Ytenfomejccfkgaa.X
open Go.RowKit Go.Proofs.YtenfomejccfkgaaW.PrintWords Go.Proofs.YtenfomejccfkgaaW.PrintLast Go.Proofs.YtenfomejccfkgaaW.PrintMore
attribute [local go_sem] qaN qaO qaP qaJ qaK qaX qaY qaD qaE qaL qaM
set_option linter.unusedVariables false
set_option linter.unusedSimpArgs false
def qbr.f (k : Nat) (l0 : List (S99)) (a1 : ByteArray) : Option (ByteArray × Int) := (qaZ.f k l0 a1).bind fun t325 => (if t325 = 0 then ((qb5.f l0 a1).bind fun bt326 => (if bt326.2 = true then (if 0 ≤ bt326.1 then (if bt326.1 < (l0.length : Int) then (some ((qay l0 bt326.1).f1, 0)) else (none)) else (none)) else (some ((⟨#[]⟩ : ByteArray), 5)))) else (some ((⟨#[]⟩ : ByteArray), t325)))
theorem qbr.mono : ∀ a0 a1 k, LeO (qbr.f k a0 a1) (qbr.f (k + 1) a0 a1) := by
 intro a0 a1 k
 unfold qbr.f
 repeat' first
   | (with_reducible exact qaZ.mono _ _ _)
   | (with_reducible exact LeO.refl _)
   | (with_reducible exact LeO.none _)
   | (with_reducible refine LeO.ite ?_ ?_)
   | (with_reducible refine LeO.bind ?_ (fun _ => ?_))
   | exact qaZ.mono _ _ _
   | exact LeO.none _
   | refine LeO.ite ?_ ?_
   | refine LeO.bind ?_ (fun _ => ?_)
set_option maxHeartbeats 8000000 in
set_option maxRecDepth 100000 in
theorem qbr.calls (k : Nat) (A0 : Option Addr) (c0 : Nat) (l0 : List (S99)) (a1 : ByteArray) (r1 : ByteArray) (r2 : Int) (w : World) (hr0 : Kd.C k99 w A0 l0.length l0) (hc0 : l0.length ≤ c0) (h : qbr.f k l0 a1 = some (r1, r2)) :
  Calls Try.prog 72 #[.slice A0 l0.length c0, .string a1] w fun e w' => e = .returned (.tuple #[.string r1, .int .i64 r2]) ∧ Below w.heap.size w w' := by
 have HR0 := Aside0.mk hr0
 have HC0 := Aside0.mk hc0
 clear hr0 hc0
 have HB := Aside0.mk (Below.refl w.heap.size w)
 have H : ((qaZ.f k l0 a1).bind fun t325 => (if t325 = 0 then ((qb5.f l0 a1).bind fun bt326 => (if bt326.2 = true then (if 0 ≤ bt326.1 then (if bt326.1 < (l0.length : Int) then (some ((qay l0 bt326.1).f1, 0)) else (none)) else (none)) else (some ((⟨#[]⟩ : ByteArray), 5)))) else (some ((⟨#[]⟩ : ByteArray), t325)))) = some (r1, r2) := h
 clear h
 replace H := Option.bind_eq_some_iff.mp H
 obtain ⟨t325, A30, H⟩ := H
 replace H : (if t325 = 0 then ((qb5.f l0 a1).bind fun bt326 => (if bt326.2 = true then (if 0 ≤ bt326.1 then (if bt326.1 < (l0.length : Int) then (some ((qay l0 bt326.1).f1, 0)) else (none)) else (none)) else (some ((⟨#[]⟩ : ByteArray), 5)))) else (some ((⟨#[]⟩ : ByteArray), t325))) = some (r1, r2) := H
 have A3 := Aside0.mk A30
 clear A30
 by_cases c4 : t325 = 0
 ·rw [if_pos c4] at H
  have c4b0 : (t325 == 0) = true := beq_iff_eq.mpr c4
  have c4b1 : (t325 != 0) = false := bne_eq_false_iff_eq.mpr c4
  clear c4
  replace H := Option.bind_eq_some_iff.mp H
  obtain ⟨⟨t326, t327⟩, A50, H⟩ := H
  replace H : (if t327 = true then (if 0 ≤ t326 then (if t326 < (l0.length : Int) then (some ((qay l0 t326).f1, 0)) else (none)) else (none)) else (some ((⟨#[]⟩ : ByteArray), 5))) = some (r1, r2) := H
  have A5 := Aside0.mk A50
  clear A50
  by_cases c6 : t327 = true
  ·subst c6
   have H1 : (if 0 ≤ t326 then (if t326 < (l0.length : Int) then (some ((qay l0 t326).f1, 0)) else (none)) else (none)) = some (r1, r2) := by rw [if_pos rfl] at H; exact H
   clear H
   have H := H1
   clear H1
   by_cases c7 : 0 ≤ t326
   ·rw [if_pos c7] at H
    have c7b0 : decide (0 ≤ t326) = true := decide_eq_true c7
    clear c7
    by_cases c8 : t326 < (l0.length : Int)
    ·rw [if_pos c8] at H
     have c8b0 : decide (t326 < (l0.length : Int)) = true := decide_eq_true c8
     clear c8
     simp only [Option.some.injEq, Prod.mk.injEq] at H
     obtain ⟨rfl, rfl⟩ := H
     go_enter Try.func72, Try.ntmps72
     go_wp2_with (first | ((with_reducible refine qaq (f := 102) rfl ?_); refine qa0 (some 11) rfl rfl Try.func102 (by kernel_rfl) rfl #[.slice A0 l0.length c0, .string a1] rfl (by (try simp only [List.map_toArray, List.map_cons, List.map_nil]); first | done | rfl | (simp only [List.length_drop, List.length_take]; rfl)) ?_; (with_reducible refine (qaZ.calls k _ _ l0 a1 t325 _ ?side1 ?side2 A3.out).mono ?_); (case side1 => repeat (first | exact HR0.out | (with_reducible refine Kd.qaz ?_ _) | (with_reducible refine Kd.qaA ?_ _) | (with_reducible refine Kd.qaQ ?_))); (case side2 => exact HC0.out); rintro e w9 ⟨rfl, hb⟩; refine ⟨_, rfl, ?_⟩; have n0_ := Aside0.mk (qaj (by repeat (first | (with_reducible first | exact HB.out | apply qab | apply qaa | apply qac) | exact HB.out)) hb); clear HB; have HB := n0_; clear n0_; (try clear hb); (try clear hb2); (try clear hk); (try clear hi)) | ((with_reducible refine qaq (f := 104) rfl ?_); refine qa0 (some 18) rfl rfl Try.func104 (by kernel_rfl) rfl #[.slice A0 l0.length c0, .string a1] rfl (by (try simp only [List.map_toArray, List.map_cons, List.map_nil]); first | done | rfl | (simp only [List.length_drop, List.length_take]; rfl)) ?_; (with_reducible refine (qb5.calls _ _ l0 a1 t326 true _ ?side1 ?side2 A5.out).mono ?_); (case side1 => repeat (first | exact (Kd.qax HR0.out HB.out) | (with_reducible refine Kd.qaz ?_ _) | (with_reducible refine Kd.qaA ?_ _) | (with_reducible refine Kd.qaQ ?_))); (case side2 => exact HC0.out); rintro e w10 ⟨rfl, hb⟩; refine ⟨_, rfl, ?_⟩; have n0_ := Aside0.mk (qaj (by repeat (first | (with_reducible first | exact HB.out | apply qab | apply qaa | apply qac) | exact HB.out)) hb); clear HB; have HB := n0_; clear n0_; (try clear hb); (try clear hb2); (try clear hk); (try clear hi); have p328 : 0 ≤ (t326 : Int) := of_decide_eq_true (by first | (with_reducible assumption) | assumption); have q328 : t326 < (l0.length : Int) := of_decide_eq_true (by first | (with_reducible assumption) | assumption); obtain ⟨ad328, e328, hx328_0, hx328_1⟩ := qbV HR0.out t326 p328 q328; cases e328; replace hx328_0 := (HB.out.cell (World.block_lt_of_cell? w _ hx328_0)).trans hx328_0; replace hx328_1 := (HB.out.cell (World.block_lt_of_cell? w _ hx328_1)).trans hx328_1; replace p328 := eq_true p328; replace q328 := eq_true q328))
     go_ret2
     exact ⟨by first | rfl | (simp [qam, qan] <;> rfl) | (simp [*, qam, qan] <;> rfl), by repeat (first | (with_reducible first | exact HB.out | apply qab | apply qaa | apply qac) | exact HB.out)⟩
    ·rw [if_neg c8] at H
     exact absurd H (by simp)
   ·rw [if_neg c7] at H
    exact absurd H (by simp)
  ·replace c6 := Bool.eq_false_iff.mpr c6
   subst c6
   have H1 : (some ((⟨#[]⟩ : ByteArray), 5)) = some (r1, r2) := by rw [if_neg (show ¬ (false = true) by decide)] at H; exact H
   clear H
   have H := H1
   clear H1
   simp only [Option.some.injEq, Prod.mk.injEq] at H
   obtain ⟨rfl, rfl⟩ := H
   go_enter Try.func72, Try.ntmps72
   go_wp2_with (first | ((with_reducible refine qaq (f := 102) rfl ?_); refine qa0 (some 11) rfl rfl Try.func102 (by kernel_rfl) rfl #[.slice A0 l0.length c0, .string a1] rfl (by (try simp only [List.map_toArray, List.map_cons, List.map_nil]); first | done | rfl | (simp only [List.length_drop, List.length_take]; rfl)) ?_; (with_reducible refine (qaZ.calls k _ _ l0 a1 t325 _ ?side1 ?side2 A3.out).mono ?_); (case side1 => repeat (first | exact HR0.out | (with_reducible refine Kd.qaz ?_ _) | (with_reducible refine Kd.qaA ?_ _) | (with_reducible refine Kd.qaQ ?_))); (case side2 => exact HC0.out); rintro e w11 ⟨rfl, hb⟩; refine ⟨_, rfl, ?_⟩; have n0_ := Aside0.mk (qaj (by repeat (first | (with_reducible first | exact HB.out | apply qab | apply qaa | apply qac) | exact HB.out)) hb); clear HB; have HB := n0_; clear n0_; (try clear hb); (try clear hb2); (try clear hk); (try clear hi)) | ((with_reducible refine qaq (f := 104) rfl ?_); refine qa0 (some 18) rfl rfl Try.func104 (by kernel_rfl) rfl #[.slice A0 l0.length c0, .string a1] rfl (by (try simp only [List.map_toArray, List.map_cons, List.map_nil]); first | done | rfl | (simp only [List.length_drop, List.length_take]; rfl)) ?_; (with_reducible refine (qb5.calls _ _ l0 a1 t326 false _ ?side1 ?side2 A5.out).mono ?_); (case side1 => repeat (first | exact (Kd.qax HR0.out HB.out) | (with_reducible refine Kd.qaz ?_ _) | (with_reducible refine Kd.qaA ?_ _) | (with_reducible refine Kd.qaQ ?_))); (case side2 => exact HC0.out); rintro e w12 ⟨rfl, hb⟩; refine ⟨_, rfl, ?_⟩; have n0_ := Aside0.mk (qaj (by repeat (first | (with_reducible first | exact HB.out | apply qab | apply qaa | apply qac) | exact HB.out)) hb); clear HB; have HB := n0_; clear n0_; (try clear hb); (try clear hb2); (try clear hk); (try clear hi)))
   go_ret2
   exact ⟨by first | rfl | (simp [qam, qan] <;> rfl) | (simp [*, qam, qan] <;> rfl), by repeat (first | (with_reducible first | exact HB.out | apply qab | apply qaa | apply qac) | exact HB.out)⟩
 ·rw [if_neg c4] at H
  have c4b0 : (t325 == 0) = false := beq_eq_false_iff_ne.mpr c4
  have c4b1 : (t325 != 0) = true := bne_iff_ne.mpr c4
  simp only [Option.some.injEq, Prod.mk.injEq] at H
  obtain ⟨rfl, rfl⟩ := H
  go_enter Try.func72, Try.ntmps72
  go_wp2_with (first | ((with_reducible refine qaq (f := 102) rfl ?_); refine qa0 (some 11) rfl rfl Try.func102 (by kernel_rfl) rfl #[.slice A0 l0.length c0, .string a1] rfl (by (try simp only [List.map_toArray, List.map_cons, List.map_nil]); first | done | rfl | (simp only [List.length_drop, List.length_take]; rfl)) ?_; (with_reducible refine (qaZ.calls k _ _ l0 a1 t325 _ ?side1 ?side2 A3.out).mono ?_); (case side1 => repeat (first | exact HR0.out | (with_reducible refine Kd.qaz ?_ _) | (with_reducible refine Kd.qaA ?_ _) | (with_reducible refine Kd.qaQ ?_))); (case side2 => exact HC0.out); rintro e w13 ⟨rfl, hb⟩; refine ⟨_, rfl, ?_⟩; have n0_ := Aside0.mk (qaj (by repeat (first | (with_reducible first | exact HB.out | apply qab | apply qaa | apply qac) | exact HB.out)) hb); clear HB; have HB := n0_; clear n0_; (try clear hb); (try clear hb2); (try clear hk); (try clear hi)))
  go_ret2
  exact ⟨by first | rfl | (simp [qam, qan] <;> rfl) | (simp [*, qam, qan] <;> rfl), by repeat (first | (with_reducible first | exact HB.out | apply qab | apply qaa | apply qac) | exact HB.out)⟩
end Go.Proofs.Ytenfomejccfkgaa.X
namespace Go.Proofs.Ytenfomejccfkgaa.X
open Go.RowKit Go.Proofs.YtenfomejccfkgaaW.PrintWords Go.Proofs.YtenfomejccfkgaaW.PrintLast Go.Proofs.YtenfomejccfkgaaW.PrintMore
attribute [local go_sem] qaN qaO qaP qaJ qaK qaX qaY qaD qaE qaL qaM
set_option linter.unusedVariables false
set_option linter.unusedSimpArgs false
end Go.Proofs.Ytenfomejccfkgaa.X
