import Derived.Test.YtcdokcpiahbejaaKFnRefs5
import Derived.Deep.Cut
namespace Go.Proofs.Ytcdokcpiahbejaa.X
open Go.RowKit Go.Proofs.YtcdokcpiahbejaaW.PrintWords Go.Proofs.YtcdokcpiahbejaaW.PrintLast Go.Proofs.YtcdokcpiahbejaaW.PrintMore
attribute [local go_sem] qax qay qaz qat qau qaJ qaK qam qan qav qaw
set_option linter.unusedVariables false
set_option linter.unusedSimpArgs false
def sWalk.T1 : Bool × List (List Nat × List Nat) := (true, [([], []), ([], []), ([], []), ([], []), ([3], [3]), ([4], [4]), ([5], [5]), ([0, 1, 2, 6], [0, 1, 2, 6]), ([7], [7]), ([8, 0, 1, 2, 3, 4, 5, 6, 7, 8], [8])])
def sWalk.B1 : List Nat := [0, 0, 0, 0, 8, 24, 56, 127, 255, 511]
theorem sWalk.tab1 : rtab .any (opsOf Try.f36 1) = sWalk.T1 := zbS
theorem sWalk.bits1 : qbv sWalk.T1.2 sWalk.B1 = true := zbS
def sWalk.T7 : Bool × List (List Nat × List Nat) := (true, [([], []), ([], []), ([1], [1]), ([2], [2]), ([3], [3]), ([4], [4]), ([5], [5]), ([6, 5], [5, 6]), ([7, 5], [5, 7]), ([8, 5], [5, 8]), ([5], [5]), ([10, 5], [5, 10]), ([9, 11, 5], [5, 9, 11]), ([12, 5], [5, 12]), ([13, 5], [5, 13]), ([5], [5]), ([15, 5], [5, 15]), ([16, 5], [5, 16]), ([17, 5], [5, 17]), ([5], [5]), ([18, 19, 5], [5, 18, 19]), ([20, 5], [5, 20]), ([21, 5], [5, 21]), ([14, 22, 5], [5, 14, 22]), ([5, 23], [5, 23]), ([0, 0, 1, 2, 3, 4, 5, 6, 7, 8, 9, 10, 11, 12, 13, 14, 15, 16, 17, 18, 19, 20, 21, 22, 23, 24], [0]), ([25, 0, 1, 2, 3, 4, 5, 6, 7, 8, 9, 10, 11, 12, 13, 14, 15, 16, 17, 18, 19, 20, 21, 22, 23, 24], [25]), ([26, 24, 5, 0, 1, 2, 3, 4, 5, 6, 7, 8, 9, 10, 11, 12, 13, 14, 15, 16, 17, 18, 19, 20, 21, 22, 23, 24], [24, 26])])
def sWalk.B7 : List Nat := [0, 0, 2, 6, 14, 30, 62, 126, 254, 510, 62, 1086, 4094, 8190, 16382, 62, 32830, 98366, 229438, 62, 1015870, 2064446, 4161598, 8388606, 16777214, 33554431, 67108863, 134217727]
theorem sWalk.tab7 : rtab .any (opsOf Try.f36 7) = sWalk.T7 := zbS
theorem sWalk.bits7 : qbv sWalk.T7.2 sWalk.B7 = true := zbS
def sWalk.T8 : Bool × List (List Nat × List Nat) := (true, [([], []), ([0], [0]), ([1], [1]), ([2], [2]), ([], []), ([4], [4]), ([5], [5]), ([6], [6]), ([], []), ([8], [8]), ([9], [9]), ([10], [10]), ([11], [11]), ([12], [12]), ([13, 12], [12, 13]), ([14, 12], [12, 14]), ([15, 12], [12, 15]), ([16, 12], [12, 16]), ([17, 12], [12, 17]), ([12, 18], [12, 18]), ([3, 12, 0, 1, 2, 3], [3]), ([7, 20, 0, 1, 2, 3, 4, 5, 6, 7, 20], [7]), ([19, 21, 0, 1, 2, 3, 4, 5, 6, 7, 8, 9, 10, 11, 12, 13, 14, 15, 16, 17, 18, 19, 20, 21], [19])])
def sWalk.B8 : List Nat := [0, 1, 3, 7, 0, 16, 48, 112, 0, 256, 768, 1792, 3840, 7936, 16128, 32512, 65280, 130816, 261888, 524032, 7951, 1056767, 4194303]
theorem sWalk.tab8 : rtab .any (opsOf Try.f36 8) = sWalk.T8 := zbS
theorem sWalk.bits8 : qbv sWalk.T8.2 sWalk.B8 = true := zbS
set_option maxHeartbeats 4000000 in
set_option maxRecDepth 100000 in
theorem qgC (w0 : World) (k d : Int) (s : List Bool) (p : List S77) (w : World) (g : Nat) (vh vp vs : Value) (hB : Below w0.heap.size w0 w) (hW : LkAt w0 w g vh vp vs false p s) :
  Calls Try.prog 64 #[.pointer (some ⟨g, 0, none⟩), .int .i64 k, .int .i64 d] w fun e w' => e = .returned (.tuple #[]) ∧ Below w0.heap.size w0 w' ∧ LkAt w0 w' g vh vp vs false p s := by
 have hu2 := Try.underlying107;have hu3 := Try.underlying25;have HB := z_ hB;have HW := z_ hW;obtain ⟨d0, d1, d2, d3⟩ := qbz hW.2.1;have d4 := qab hW.2.1 3;clear hB hW
 go_enter Try.func64, Try.ntmps64
 go_wp2_with fail
 ((try simp only [Exit.inBlock, Exit.then]); refine bodyPost_ret (results_none rfl _ _ _) rfl ?_)
 exact ⟨rfl, HB.o.setCell (p := ⟨g, 3, none⟩) HW.o.1 _, HW.o.qen false⟩
theorem qgD (ns : List S75) (w0 : World) (Ah : Option Addr) (ch : Nat) (hh : Kd.C k75 w0 Ah ns.length ns) (hbd : qem ns) (root : Int) (hr : root ≠ -1) (w : World) (g : Nat) (vp vs : Value) (hB : Below w0.heap.size w0 w) (hW : LkAt w0 w g (.slice Ah ns.length ch) vp vs ((ns.length : Int) == 50) [] noneW) :
  Calls Try.prog 64 #[.pointer (some ⟨g, 0, none⟩), .int .i64 root, .int .i64 0] w fun e w' => e = .returned (.tuple #[]) ∧ Below w0.heap.size w0 w' ∧ ∃ vp' vs' : Value, LkAt w0 w' g (.slice Ah ns.length ch) vp' vs' (lookW ns root).1 (lookW ns root).2.2 (lookW ns root).2.1 := by
 by_cases hl : ns.length = 50
 ·rw [show ((ns.length : Int) == 50) = true from by rw [hl]; rfl] at hW;refine (qjy ns w0 Ah ch hh hl hbd 21 root 0 noneW [] w g vp vs zbV zbV qeX hB hW).mono ?_;rintro e w' ⟨rfl, h1, _, vp', vs', h2⟩;unfold lookW;rw [if_pos hl, if_neg hr];exact ⟨rfl, h1, vp', vs', h2⟩
 ·rw [show ((ns.length : Int) == 50) = false from beq_eq_false_iff_ne.2 zbV] at hW;refine (qgC w0 root 0 noneW [] w g _ vp vs hB hW).mono ?_;rintro e w' ⟨rfl, h1, h2⟩;unfold lookW;rw [if_neg hl];exact ⟨rfl, h1, vp, vs, h2⟩
def qcv (ns : List S75) : Bool := ns.all fun x => decide (x.f3.length ≤ 1048576)
theorem qd3 {ns : List S75} : qcv ns = true ↔ qem ns := by
 unfold qcv qem;rw [List.all_eq_true];exact ⟨fun h x hx => of_decide_eq_true (h x hx), fun h x hx => decide_eq_true (h x hx)⟩
def qb1.f (t0 : List S75) (a1 : Int) : Option (List S77 × List Bool × Bool) := if qcv t0 = true then some (walkR t0 a1) else none
theorem qiO (ns : List S75) : lookW ns (-1) = (((ns.length : Int) == 50), noneW, []) := by
 unfold lookW
 by_cases hl : ns.length = 50
 ·rw [if_pos hl, if_pos rfl, hl];rfl
 ·rw [if_neg hl, show ((ns.length : Int) == 50) = false from beq_eq_false_iff_ne.2 zbV]
set_option maxHeartbeats 16000000 in
set_option maxRecDepth 100000 in
theorem qb1.calls (P0 : Option Addr) (O0 : Nat) (t0 : List S75) (a1 : Int) (r1 : List S77) (r2 : List Bool) (r3 : Bool) (w : World) (a5 : Kd.C k75 w P0 t0.length t0) (J6 : t0.length ≤ O0) (h : qb1.f t0 a1 = some (r1, r2, r3)) :
  Calls Try.prog 36 #[.agg #[.slice P0 t0.length O0], .int .i64 a1] w fun e w' => ∃ mA OJ : Value, e = .returned (.tuple #[mA, OJ, .bool r3]) ∧ Kd.R k77 77 w' w.heap.size (fun _ => True) mA r1 ∧ Kd.R Kd.bool 4 w' w.heap.size (fun _ => True) OJ r2 ∧ Below w.heap.size w w' := by
 unfold qb1.f at h;have hbd : qem t0 := by
  by_cases hb : qcv t0 = true
  ·exact qd3.1 hb
  ·rw [if_neg hb] at h
   cases h
 rw [if_pos (qd3.2 hbd)] at h;have hu := Try.underlying25;have hu2 := Try.underlying107;have hu3 := Try.underlying55;have hu4 := Try.underlying36;have HR := z_ a5;have HBD := z_ hbd;have HH := z_ (Option.some.inj h);obtain ⟨w1, hw1⟩ : ∃ w1, w1 = w.alloc (.cells #[.slice P0 t0.length O0] 25 (0, 0)) := ⟨_, rfl⟩
 have HB1 := z_ (show Below w.heap.size w w1 from hw1 ▸ qas (Below.refl _ w) _);have mP := z_ (show w1.heap[w.heap.size]? = some (.cells #[.slice P0 t0.length O0] 25 (0, 0)) from hw1 ▸ qcb w _);clear h a5 hbd
 go_enter Try.func36, Try.ntmps36
 go_upto_region 1 with fail
 rw [← hw1];have lA := z_ (qai mP.o);have o4 := z_ (qaW HB1.o);clear hw1 HB1 mP;refine qbY (n := 10) (S := fun w' => True) (ds := []) #[false, false, false, false, false, false, false, false, false, false] zbS rfl rfl trivial (fun hHeld => ?_);refine qbg sWalk.tab1 sWalk.bits1 (fun l4 R6 => ?_);generalize w1.drew = wd at lA o4 ⊢;refine qcd [0, 1, 2, 3, 4, 5, 6, 7, 8, 9] (fun E8 b a w' => ∃ (Az : Option Addr) (cz : Nat) (As : Option Addr) (cs : Nat) (gw : Nat) (m8 : Value) (l8 : Value) (i4 : Value) (o8 : Value) (J8 : Value), a = qa7 E8 b [(0, 9, .agg #[.slice P0 t0.length O0]), (1, 10, m8), (2, 11, l8), (3, 12, .pointer (some ⟨w.heap.size, 0, none⟩)), (4, 13, .slice P0 t0.length O0), (5, 14, .int .i64 (t0.length : Int)), (6, 15, .bool ((t0.length : Int) == 50)), (7, 16, i4), (8, 17, o8), (9, 7, J8)] ∧ (w'.heap[w.heap.size]? = some (.cells #[.slice P0 t0.length O0] 25 (0, 0))) ∧ (Below w.heap.size w w') ∧ (b 1 = true → Kd.R k77 77 w' w.heap.size (fun _ => True) (.slice Az 0 cz) []) ∧ (b 2 = true → Kd.R Kd.bool 4 w' w.heap.size (fun _ => True) (.slice As noneW.length cs) noneW) ∧ (b 8 = true → w'.heap[gw]? = some (.cells #[.slice P0 t0.length O0, .slice Az 0 cz, .slice As noneW.length cs, .bool ((t0.length : Int) == 50)] 107 (0, 0))) ∧ (b 8 = true → w.heap.size ≤ gw) ∧ (b 1 = true → (m8 : Value) = .slice Az 0 cz) ∧ (b 2 = true → (l8 : Value) = .slice As noneW.length cs) ∧ (b 7 = true → (i4 : Value) = .agg #[.slice P0 t0.length O0, .slice Az 0 cz, .slice As noneW.length cs, .bool ((t0.length : Int) == 50)]) ∧ (b 8 = true → (o8 : Value) = .pointer (some ⟨gw, 0, none⟩)) ∧ (b 9 = true → (J8 : Value) = .pointer (some ⟨gw, 0, none⟩))) l4.o R6.o zbS zbS ?_ ?_ ?_
 ·exact ⟨none, 0, none, 0, 0, .bool false, .bool false, .bool false, .bool false, .bool false, zaO, lA.o, o4.o, fun h_ => absurd h_ zbT, fun h_ => absurd h_ zbT, fun h_ => absurd h_ zbT, fun h_ => absurd h_ zbT, fun h_ => absurd h_ zbT, fun h_ => absurd h_ zbT, fun h_ => absurd h_ zbT, fun h_ => absurd h_ zbT, fun h_ => absurd h_ zbT⟩
 ·skip;clear lA o4;refine qaa ?_ ?_
  ·rintro b a w' ⟨Az, cz, As, cs, gw, m8, l8, i4, o8, J8, ha, QT⟩ hb_ hon hoff;refine ⟨_, rfl, fun K hK => ?_⟩;have e2 : a.tmps[2]? = some (.pointer (some ⟨w.heap.size, 0, none⟩)) := zbu;replace ha := z_ ha;have lA := z_ QT.1;have L7 : w'.cell? ⟨w.heap.size, 0, none⟩ = some (.slice P0 t0.length O0) := qac lA.o 0;refine qae (w1 := w') (v := .agg #[.slice P0 t0.length O0]) zbX rfl zbt ?_;refine hK.o _ _ ⟨Az, cz, As, cs, gw, m8, l8, i4, o8, J8, zbg, QT⟩
  refine qaa ?_ ?_
  ·rintro b a w' ⟨Az, cz, As, cs, gw, m8, l8, i4, o8, J8, ha, O4, D0, NB, E5, N6, P6, m5, K5, Q3, Y5, k7⟩ hb_ hon hoff;refine ⟨_, rfl, fun K hK => ?_⟩;replace ha := z_ ha;have lA := z_ O4;have o4 := z_ D0;refine Kd.qeQ k77 w.heap.size 77 zbX (N := 10) zbX (xs := ([] : List S77)) (inner := []) (ok := fun _ => True) (okp := fun _ => True) ?hr ?hp (fun _ hk => hk) trivial o4.o o4.o.size zbW ?_
   case hr => first | (go_simp; done) | (go_simp; rfl)
   case hp => exact Reps.none _ _
   intro v1 w1 ho1 hb1 hg1 hn1;obtain ⟨PZ, IZ, DK, _, _⟩ := Kd.qbI ho1;subst DK;refine hK.o _ _ ⟨PZ, IZ, As, cs, gw, (.slice PZ 0 IZ), l8, i4, o8, J8, zbh, qbd lA.o hg1 zbW, hb1, fun _ => ho1, fun N7 => Kd.qi5 (E5 N7) hg1 (fun _ _ h => by cases h), nf_ (hoff 8 zbS), nf_ (hoff 8 zbS), fun _ => rfl, K5, nf_ (hoff 7 zbS), nf_ (hoff 8 zbS), nf_ (hoff 9 zbS)⟩
  refine qaa ?_ ?_
  ·rintro b a w' ⟨Az, cz, As, cs, gw, m8, l8, i4, o8, J8, ha, O4, D0, NB, E5, N6, P6, m5, K5, Q3, Y5, k7⟩ hb_ hon hoff;refine ⟨_, rfl, fun K hK => ?_⟩;replace ha := z_ ha;have lA := z_ O4;have o4 := z_ D0;refine Kd.qer Kd.bool (w0 := w) w.heap.size 4 zbX (N := 11) zbX 55 _ _ zbX 50 zbX zbX Try.underlying55 (.bool false) 1 info4 rfl zbT zbV false (ok := fun _ => True) (okp := fun _ => True) rfl (fun _ hk => hk) trivial zbV zbT o4.o o4.o.size ?_;intro v1 w1 ho1 hb1 hg1 hn1;have ho2 : Kd.R Kd.bool 4 w1 w.heap.size (fun _ => True) v1 noneW := ho1;obtain ⟨ST, oH, DK, _, _⟩ := Kd.qbI ho2;subst DK;refine hK.o _ _ ⟨Az, cz, ST, oH, gw, m8, (.slice ST noneW.length oH), i4, o8, J8, zbi, qbd lA.o hg1 zbW, hb1, fun N7 => Kd.qi5 (NB N7) hg1 (fun _ _ h => by cases h), fun _ => ho2, nf_ (hoff 8 zbS), nf_ (hoff 8 zbS), m5, fun _ => rfl, nf_ (hoff 7 zbS), nf_ (hoff 8 zbS), nf_ (hoff 9 zbS)⟩
  refine qaa ?_ ?_
  ·rintro b a w' ⟨Az, cz, As, cs, gw, m8, l8, i4, o8, J8, ha, QT⟩ hb_ hon hoff;refine ⟨_, rfl, fun K hK => ?_⟩;have e2 : a.tmps[2]? = some (.pointer (some ⟨w.heap.size, 0, none⟩)) := zbu;replace ha := z_ ha;refine qae (w1 := w') (v := .pointer (some ⟨w.heap.size, 0, none⟩)) zbX rfl zbt ?_;refine hK.o _ _ ⟨Az, cz, As, cs, gw, m8, l8, i4, o8, J8, zbj, QT⟩
  refine qaa ?_ ?_
  ·rintro b a w' ⟨Az, cz, As, cs, gw, m8, l8, i4, o8, J8, ha, QT⟩ hb_ hon hoff;refine ⟨_, rfl, fun K hK => ?_⟩;have e12 : a.tmps[12]? = some (.pointer (some ⟨w.heap.size, 0, none⟩)) := zon_ ha 3 rfl rfl hon;replace ha := z_ ha;have lA := z_ QT.1;have L7 : w'.cell? ⟨w.heap.size, 0, none⟩ = some (.slice P0 t0.length O0) := qac lA.o 0;refine qae (w1 := w') (v := .slice P0 t0.length O0) zbX rfl zbt ?_;refine hK.o _ _ ⟨Az, cz, As, cs, gw, m8, l8, i4, o8, J8, zbk, QT⟩
  refine qaa ?_ ?_
  ·rintro b a w' ⟨Az, cz, As, cs, gw, m8, l8, i4, o8, J8, ha, QT⟩ hb_ hon hoff;refine ⟨_, rfl, fun K hK => ?_⟩;have e13 : a.tmps[13]? = some (.slice P0 t0.length O0) := zon_ ha 4 rfl rfl hon;replace ha := z_ ha;refine qae (w1 := w') (v := .int .i64 (t0.length : Int)) zbX rfl zbt ?_;refine hK.o _ _ ⟨Az, cz, As, cs, gw, m8, l8, i4, o8, J8, zbl, QT⟩
  refine qaa ?_ ?_
  ·rintro b a w' ⟨Az, cz, As, cs, gw, m8, l8, i4, o8, J8, ha, QT⟩ hb_ hon hoff;refine ⟨_, rfl, fun K hK => ?_⟩;have e14 : a.tmps[14]? = some (.int .i64 (t0.length : Int)) := zon_ ha 5 rfl rfl hon;replace ha := z_ ha;refine qae (w1 := w') (v := .bool ((t0.length : Int) == 50)) zbX rfl zbt ?_;refine hK.o _ _ ⟨Az, cz, As, cs, gw, m8, l8, i4, o8, J8, zbm, QT⟩
  refine qaa ?_ ?_
  ·rintro b a w' ⟨Az, cz, As, cs, gw, m8, l8, i4, o8, J8, ha, O4, D0, NB, E5, N6, P6, m5, K5, Q3, Y5, k7⟩ hb_ hon hoff;refine ⟨_, rfl, fun K hK => ?_⟩;have e9 : a.tmps[9]? = some (.agg #[.slice P0 t0.length O0]) := zon_ ha 0 rfl rfl hon;have e10 : a.tmps[10]? = some (m8) := zon_ ha 1 rfl rfl hon;rw [m5 (hon 1 zbS)] at e10;have e11 : a.tmps[11]? = some (l8) := zon_ ha 2 rfl rfl hon;rw [K5 (hon 2 zbS)] at e11;have e15 : a.tmps[15]? = some (.bool ((t0.length : Int) == 50)) := zon_ ha 6 rfl rfl hon;replace ha := z_ ha;refine qae (w1 := w') (v := .agg #[.slice P0 t0.length O0, .slice Az 0 cz, .slice As noneW.length cs, .bool ((t0.length : Int) == 50)]) zbX rfl zbt ?_;refine hK.o _ _ ⟨Az, cz, As, cs, gw, m8, l8, (.agg #[.slice P0 t0.length O0, .slice Az 0 cz, .slice As noneW.length cs, .bool ((t0.length : Int) == 50)]), o8, J8, zbn, O4, D0, NB, E5, nf_ (hoff 8 zbS), nf_ (hoff 8 zbS), m5, K5, fun _ => rfl, nf_ (hoff 8 zbS), nf_ (hoff 9 zbS)⟩
  refine qaa ?_ ?_
  ·rintro b a w' ⟨Az, cz, As, cs, gw, m8, l8, i4, o8, J8, ha, O4, D0, NB, E5, N6, P6, m5, K5, Q3, Y5, k7⟩ hb_ hon hoff;refine ⟨_, rfl, fun K hK => ?_⟩;have e16 : a.tmps[16]? = some (i4) := zon_ ha 7 rfl rfl hon;rw [Q3 (hon 7 zbS)] at e16;replace ha := z_ ha;have lA := z_ O4;have o4 := z_ D0;have sX := z_ (NB (hon 1 zbS));have BK := z_ (E5 (hon 2 zbS));refine qae (w1 := w'.alloc (.cells #[.slice P0 t0.length O0, .slice Az 0 cz, .slice As noneW.length cs, .bool ((t0.length : Int) == 50)] 107 (0, 0))) (v := .pointer (some ⟨w'.heap.size, 0, none⟩)) zbX rfl zbP ?_;refine hK.o _ _ ⟨Az, cz, As, cs, w'.heap.size, m8, l8, i4, (.pointer (some ⟨w'.heap.size, 0, none⟩)), J8, zbo, qah lA.o _, qas o4.o _, fun _ => Kd.qaV sX.o _, fun _ => Kd.qaV BK.o _, fun _ => qcb w' _, fun _ => o4.o.size, m5, K5, Q3, fun _ => rfl, nf_ (hoff 9 zbS)⟩
  refine qaa ?_ ?_
  ·rintro b a w' ⟨Az, cz, As, cs, gw, m8, l8, i4, o8, J8, ha, O4, D0, NB, E5, N6, P6, m5, K5, Q3, Y5, k7⟩ hb_ hon hoff;refine ⟨_, rfl, fun K hK => ?_⟩;have e17 : a.tmps[17]? = some (o8) := zon_ ha 8 rfl rfl hon;rw [Y5 (hon 8 zbS)] at e17;replace ha := z_ ha;refine qae (w1 := w') (v := .pointer (some ⟨gw, 0, none⟩)) zbX rfl zbt ?_;refine hK.o _ _ ⟨Az, cz, As, cs, gw, m8, l8, i4, o8, (.pointer (some ⟨gw, 0, none⟩)), zbp, O4, D0, NB, E5, N6, P6, m5, K5, Q3, Y5, fun _ => rfl⟩
  exact qbo
 rintro b a wA hall ⟨Az, cz, As, cs, gw, m8, l8, i4, o8, J8, ha, O4, D0, NB, E5, N6, P6, m5, K5, Q3, Y5, k7⟩;clear lA o4;have X2 := hall 0 zbS;have X1 := hall 1 zbS;have N2 := hall 2 zbS;have M2 := hall 3 zbS;have I2 := hall 4 zbS;have D3 := hall 5 zbS;have j3 := hall 6 zbS;have i3 := hall 7 zbS;have U2 := hall 8 zbS;have Y2 := hall 9 zbS;subst ha;obtain rfl := m5 X1;obtain rfl := K5 N2;obtain rfl := Q3 i3;obtain rfl := Y5 U2;obtain rfl := k7 Y2;simp only [qa7, X2, X1, N2, M2, I2, D3, j3, i3, U2, Y2, if_true, Act.put, List.setIfInBounds_toArray, List.set_cons_zero, List.set_cons_succ];have lA := z_ O4;clear O4;have o4 := z_ D0;clear D0;have sX := z_ (NB X1);clear NB;have BK := z_ (E5 N2);clear E5;have dT := z_ (N6 U2);clear N6;have nT := z_ (P6 U2);clear P6 hall X2 X1 N2 M2 I2 D3 j3 i3 U2 Y2 lA;have cJ := z_ (show LkAt w wA gw (.slice P0 t0.length O0) (.slice Az 0 cz) (.slice As noneW.length cs) ((t0.length : Int) == 50) [] noneW from ⟨nT.o, dT.o, BK.o, sX.o⟩);clear nT dT BK sX;obtain ⟨b, S, P, hlk⟩ : ∃ b S P, lookW t0 a1 = (b, S, P) := ⟨_, _, _, rfl⟩
 have HRt := z_ (show walkR t0 a1 = (P, S, ((b && riseB P) && decide (P.length ≤ 60))) from by unfold walkR; rw [hlk]);have hI := qeG t0 a1;rw [hlk] at hI;have HIt := z_ hI;have HLK := z_ hlk;clear hI hlk
 go_upto_if 19 with fail
 go_cut [18] (fun v18 wc => v18 = .int .i64 a1 ∧ ∃ vp vs : Value, Aside0 (LkAt w wc gw (.slice P0 t0.length O0) vp vs b P S) ∧ Aside0 (Below w.heap.size w wc))
 case first =>
  by_cases hm : a1 = -1
  ·have c1 : (a1 != -1) = false := by rw [hm]; rfl
   have he := (show lookW t0 a1 = (((t0.length : Int) == 50), noneW, []) from by rw [hm]; exact qiO t0).symm.trans HLK.o;simp only [Prod.mk.injEq] at he;obtain ⟨e1, e2, e3⟩ := he;have HWt := z_ (show LkAt w wA gw (.slice P0 t0.length O0) (.slice Az 0 cz) (.slice As noneW.length cs) b P S from by rw [← e1, ← e2, ← e3]; exact cJ.o);clear e1 e2 e3 cJ hm
   go_wp2_with fail
   go_meet
   case rel => exact ⟨rfl, _, _, HWt, o4⟩
  ·have c1 : (a1 != -1) = true := bne_iff_ne.2 hm;have HC := z_ (qgD t0 w P0 O0 HR.o HBD.o a1 hm wA gw _ _ o4.o cJ.o);clear hm
   go_wp2_with fail
   refine HC.o.mono ?_;rintro e w2 ⟨rfl, hb2, zd, vs2, hl2⟩;rw [HLK.o] at hl2;have HWt := z_ hl2;have HBt := z_ hb2;clear hl2 hb2 HC
   go_wp2_with fail
   go_meet
   case rel => exact ⟨rfl, _, _, HWt, HBt⟩
 case rest =>
  obtain ⟨rfl, zd, vs2, HWt, HBt⟩ := hcut;clear cJ o4 HLK;obtain ⟨vpA, vpc, ev, _, _⟩ := Kd.qbI HWt.o.2.2.2;subst ev;obtain ⟨vsA, vsc, ev, _, _⟩ := Kd.qbI HWt.o.2.2.1;subst ev;have hroom : P.length + 3 * S.count false ≤ 150 := HIt.o.room;have hpl : P.length ≤ 150 := zbV;clear hroom HIt
  go_upto_region 5 with fail
  go_loopw [8] (fun v8 wr => ∃ (i : Nat) (c : Bool), 1 ≤ i ∧ (i ≤ P.length ∨ i = 1) ∧ v8 = .int .i64 (i : Int) ∧ Aside0 (LkAt w wr gw (.slice P0 t0.length O0) (.slice vpA P.length vpc) (.slice vsA S.length vsc) c P S) ∧ Aside0 (Below w.heap.size w wr) ∧ Aside0 ((c && qcy (qdl P) i (P.length - i)) = (b && riseB P))) (fun v8 _ => P.length - (intOf v8).toNat)
  case atStart => exact ⟨1, b, zbV, .inr rfl, rfl, HWt, HBt, ⟨rfl⟩⟩
  case round =>
   clear HWt HBt;obtain ⟨i, q, hi1, hi, rfl, HWr, HBr, HEr⟩ := hrel;obtain ⟨d0, d1, d2, d3⟩ := qbz HWr.o.2.1
   by_cases hlt : i < P.length
   ·have c5 : decide ((i : Int) < (P.length : Int)) = true := decide_eq_true zbV;obtain ⟨j, hj⟩ : ∃ j, i = j + 1 := ⟨i - 1, zbV⟩
    subst hj;have hall : qcy (qdl P) (j + 1) (P.length - (j + 1)) = (qdl P (j + 1) && qcy (qdl P) (j + 1 + 1) (P.length - (j + 1 + 1))) := by
     rw [show P.length - (j + 1) = (P.length - (j + 1 + 1)) + 1 from zbV];rfl
    have hE := HEr.o;rw [hall] at hE;have HE := z_ hE;obtain ⟨gp, cp, ev, _⟩ := Kd.qcJ HWr.o.2.2.2 zbV;injection ev with ev1 _ ev2
    subst ev1; subst ev2;have HWJ := z_ (show IntKind.i64.wrap (j : Int) = (j : Int) from zbF);have HJ := z_ hlt;obtain ⟨k1, hk1⟩ : ∃ k1, k1 = qcR P j := ⟨_, rfl⟩
    obtain ⟨k2, hk2⟩ : ∃ k2, k2 = qcR P (j + 1) := ⟨_, rfl⟩
    have hkl : qdl P (j + 1) = Op.bytesLess k1.toList k2.toList := by unfold qdl; rw [hk1, hk2]; rfl
    have HKL := z_ hkl;have q7 := z_ hk1.symm;have p7 := z_ hk2.symm;have hlt2 : j + 1 < P.length := hlt;clear hE hall HEr hk1 hk2 hkl hi hi1
    go_upto_region 7 with fail
    clear d0 d1 d2 d3;have LA := z_ (HWr.o.below (qaW (Below.refl _ wr)));have o4 := z_ (qaW HBr.o);clear HWr HBr c5
    cases q with
    | false =>
     have HE2 := z_ (show (false && qcy (qdl P) (j + 1 + 1) (P.length - (j + 1 + 1))) = (b && riseB P) from by have h := HE.o; rw [Bool.false_and] at h; rw [Bool.false_and]; exact h);refine qbY (n := 28) (S := fun w' => True) (ds := []) #[false, false, false, false, false, false, false, false, false, false, false, false, false, false, false, false, false, false, false, false, false, false, false, false, false, false, false, false] zbS rfl rfl trivial (fun hHeld => ?_);refine qbg sWalk.tab7 sWalk.bits7 (fun l4 R6 => ?_);generalize wr.drew = wd at LA o4 ⊢;refine qcd [0, 1, 2, 3, 4, 5, 6, 7, 8, 9, 10, 11, 12, 13, 14, 15, 16, 17, 18, 19, 20, 21, 22, 23, 24, 25, 26, 27] (fun E8 b a w' => a = qa7 E8 b [(0, 32, .pointer (some ⟨gw, 0, none⟩)), (1, 33, .pointer (some ⟨gw, 0, none⟩)), (2, 34, .pointer (some ⟨gw, 0, none⟩)), (3, 35, .pointer (some ⟨gw, 3, none⟩)), (4, 36, .bool false), (5, 37, .bool false), (6, 38, undef), (7, 39, undef), (8, 40, undef), (9, 41, undef), (10, 42, undef), (11, 43, undef), (12, 44, undef), (13, 45, undef), (14, 46, undef), (15, 47, undef), (16, 48, undef), (17, 49, undef), (18, 50, undef), (19, 51, undef), (20, 52, undef), (21, 53, undef), (22, 54, undef), (23, 55, undef), (24, 56, .bool false), (25, 57, .pointer (some ⟨gw, 0, none⟩)), (26, 58, .pointer (some ⟨gw, 3, none⟩))] ∧ (b 27 = false → LkAt w w' gw (.slice P0 t0.length O0) (.slice (some ⟨gp, 0, none⟩) P.length vpc) (.slice vsA S.length vsc) false P S) ∧ (b 27 = true → LkAt w w' gw (.slice P0 t0.length O0) (.slice (some ⟨gp, 0, none⟩) P.length vpc) (.slice vsA S.length vsc) false P S) ∧ (Below w.heap.size w w')) l4.o R6.o zbS zbS ?_ ?_ ?_
     ·exact ⟨zaO, fun _ => LA.o, fun h_ => absurd h_ zbT, o4.o⟩
     ·skip;clear o4 LA;refine qaa ?_ ?_
      ·rintro b a w' ⟨ha, QT⟩ hb_ hon hoff;refine ⟨_, rfl, fun K hK => ?_⟩;have e7 : a.tmps[7]? = some (.pointer (some ⟨gw, 0, none⟩)) := zbu;replace ha := z_ ha;refine qae (w1 := w') (v := .pointer (some ⟨gw, 0, none⟩)) zbX rfl zbt ?_;refine hK.o _ _ ⟨zbg, QT⟩
      refine qaa ?_ ?_
      ·rintro b a w' ⟨ha, QT⟩ hb_ hon hoff;refine ⟨_, rfl, fun K hK => ?_⟩;have e7 : a.tmps[7]? = some (.pointer (some ⟨gw, 0, none⟩)) := zbu;replace ha := z_ ha;refine qae (w1 := w') (v := .pointer (some ⟨gw, 0, none⟩)) zbX rfl zbt ?_;refine hK.o _ _ ⟨zbh, QT⟩
      refine qaa ?_ ?_
      ·rintro b a w' ⟨ha, QT⟩ hb_ hon hoff;refine ⟨_, rfl, fun K hK => ?_⟩;have e33 : a.tmps[33]? = some (.pointer (some ⟨gw, 0, none⟩)) := zon_ ha 1 rfl rfl hon;replace ha := z_ ha;refine qae (w1 := w') (v := .pointer (some ⟨gw, 0, none⟩)) zbX rfl zbt ?_;refine hK.o _ _ ⟨zbi, QT⟩
      refine qaa ?_ ?_
      ·rintro b a w' ⟨ha, QT⟩ hb_ hon hoff;refine ⟨_, rfl, fun K hK => ?_⟩;have e34 : a.tmps[34]? = some (.pointer (some ⟨gw, 0, none⟩)) := zon_ ha 2 rfl rfl hon;replace ha := z_ ha;refine qae (w1 := w') (v := .pointer (some ⟨gw, 3, none⟩)) zbX rfl zbt ?_;refine hK.o _ _ ⟨zbj, QT⟩
      refine qaa ?_ ?_
      ·rintro b a w' ⟨ha, QT⟩ hb_ hon hoff;refine ⟨_, rfl, fun K hK => ?_⟩;have e35 : a.tmps[35]? = some (.pointer (some ⟨gw, 3, none⟩)) := zon_ ha 3 rfl rfl hon;replace ha := z_ ha;have LA := z_ (QT.1 (hoff 27 zbS));have L7 := (qbz LA.o.2.1).2.2.2;refine qae (w1 := w') (v := .bool false) zbX rfl zbt ?_;refine hK.o _ _ ⟨zbk, QT⟩
      refine qaa ?_ ?_
      ·rintro b a w' ⟨ha, QT⟩ hb_ hon hoff;refine ⟨_, rfl, fun K hK => ?_⟩;have e36 : a.tmps[36]? = some (.bool false) := zon_ ha 4 rfl rfl hon;replace ha := z_ ha;refine qae (w1 := w') (v := .bool false) zbX rfl zbt ?_;refine hK.o _ _ ⟨zbl, QT⟩
      refine qaa ?_ ?_
      ·rintro b a w' ⟨ha, P1, G4, D0⟩ hb_ hon hoff;refine ⟨_, rfl, fun K hK => ?_⟩;have e37 : a.tmps[37]? = some (.bool false) := zon_ ha 5 rfl rfl hon;replace ha := z_ ha;refine off_ (qaL rfl rfl rfl (e37.trans zbC)) ?_;refine hK.o _ _ ⟨zbm, P1, nf_ (hoff 27 zbS), D0⟩
      refine qaa ?_ ?_
      ·rintro b a w' ⟨ha, P1, G4, D0⟩ hb_ hon hoff;refine ⟨_, rfl, fun K hK => ?_⟩;have e37 : a.tmps[37]? = some (.bool false) := zon_ ha 5 rfl rfl hon;replace ha := z_ ha;refine off_ (qaL rfl rfl rfl (e37.trans zbC)) ?_;refine hK.o _ _ ⟨zbn, P1, nf_ (hoff 27 zbS), D0⟩
      refine qaa ?_ ?_
      ·rintro b a w' ⟨ha, P1, G4, D0⟩ hb_ hon hoff;refine ⟨_, rfl, fun K hK => ?_⟩;have e37 : a.tmps[37]? = some (.bool false) := zon_ ha 5 rfl rfl hon;replace ha := z_ ha;refine off_ (qaL rfl rfl rfl (e37.trans zbC)) ?_;refine hK.o _ _ ⟨zbo, P1, nf_ (hoff 27 zbS), D0⟩
      refine qaa ?_ ?_
      ·rintro b a w' ⟨ha, P1, G4, D0⟩ hb_ hon hoff;refine ⟨_, rfl, fun K hK => ?_⟩;have e37 : a.tmps[37]? = some (.bool false) := zon_ ha 5 rfl rfl hon;replace ha := z_ ha;refine off_ (qaL rfl rfl rfl (e37.trans zbC)) ?_;refine hK.o _ _ ⟨zbp, P1, nf_ (hoff 27 zbS), D0⟩
      refine qaa ?_ ?_
      ·rintro b a w' ⟨ha, P1, G4, D0⟩ hb_ hon hoff;refine ⟨_, rfl, fun K hK => ?_⟩;have e37 : a.tmps[37]? = some (.bool false) := zon_ ha 5 rfl rfl hon;replace ha := z_ ha;refine off_ (qaL rfl rfl rfl (e37.trans zbC)) ?_;refine hK.o _ _ ⟨zaP, P1, nf_ (hoff 27 zbS), D0⟩
      refine qaa ?_ ?_
      ·rintro b a w' ⟨ha, P1, G4, D0⟩ hb_ hon hoff;refine ⟨_, rfl, fun K hK => ?_⟩;have e37 : a.tmps[37]? = some (.bool false) := zon_ ha 5 rfl rfl hon;replace ha := z_ ha;refine off_ (qaL rfl rfl rfl (e37.trans zbC)) ?_;refine hK.o _ _ ⟨zaQ, P1, nf_ (hoff 27 zbS), D0⟩
      refine qaa ?_ ?_
      ·rintro b a w' ⟨ha, P1, G4, D0⟩ hb_ hon hoff;refine ⟨_, rfl, fun K hK => ?_⟩;have e37 : a.tmps[37]? = some (.bool false) := zon_ ha 5 rfl rfl hon;replace ha := z_ ha;refine off_ (qaL rfl rfl rfl (e37.trans zbC)) ?_;refine hK.o _ _ ⟨zaR, P1, nf_ (hoff 27 zbS), D0⟩
      refine qaa ?_ ?_
      ·rintro b a w' ⟨ha, P1, G4, D0⟩ hb_ hon hoff;refine ⟨_, rfl, fun K hK => ?_⟩;have e37 : a.tmps[37]? = some (.bool false) := zon_ ha 5 rfl rfl hon;replace ha := z_ ha;refine off_ (qaL rfl rfl rfl (e37.trans zbC)) ?_;refine hK.o _ _ ⟨zaS, P1, nf_ (hoff 27 zbS), D0⟩
      refine qaa ?_ ?_
      ·rintro b a w' ⟨ha, P1, G4, D0⟩ hb_ hon hoff;refine ⟨_, rfl, fun K hK => ?_⟩;have e37 : a.tmps[37]? = some (.bool false) := zon_ ha 5 rfl rfl hon;replace ha := z_ ha;refine off_ (qaL rfl rfl rfl (e37.trans zbC)) ?_;refine hK.o _ _ ⟨zaT, P1, nf_ (hoff 27 zbS), D0⟩
      refine qaa ?_ ?_
      ·rintro b a w' ⟨ha, P1, G4, D0⟩ hb_ hon hoff;refine ⟨_, rfl, fun K hK => ?_⟩;have e37 : a.tmps[37]? = some (.bool false) := zon_ ha 5 rfl rfl hon;replace ha := z_ ha;refine off_ (qaL rfl rfl rfl (e37.trans zbC)) ?_;refine hK.o _ _ ⟨zaU, P1, nf_ (hoff 27 zbS), D0⟩
      refine qaa ?_ ?_
      ·rintro b a w' ⟨ha, P1, G4, D0⟩ hb_ hon hoff;refine ⟨_, rfl, fun K hK => ?_⟩;have e37 : a.tmps[37]? = some (.bool false) := zon_ ha 5 rfl rfl hon;replace ha := z_ ha;refine off_ (qaL rfl rfl rfl (e37.trans zbC)) ?_;refine hK.o _ _ ⟨zaV, P1, nf_ (hoff 27 zbS), D0⟩
      refine qaa ?_ ?_
      ·rintro b a w' ⟨ha, P1, G4, D0⟩ hb_ hon hoff;refine ⟨_, rfl, fun K hK => ?_⟩;have e37 : a.tmps[37]? = some (.bool false) := zon_ ha 5 rfl rfl hon;replace ha := z_ ha;refine off_ (qaL rfl rfl rfl (e37.trans zbC)) ?_;refine hK.o _ _ ⟨zaW, P1, nf_ (hoff 27 zbS), D0⟩
      refine qaa ?_ ?_
      ·rintro b a w' ⟨ha, P1, G4, D0⟩ hb_ hon hoff;refine ⟨_, rfl, fun K hK => ?_⟩;have e37 : a.tmps[37]? = some (.bool false) := zon_ ha 5 rfl rfl hon;replace ha := z_ ha;refine off_ (qaL rfl rfl rfl (e37.trans zbC)) ?_;refine hK.o _ _ ⟨zaX, P1, nf_ (hoff 27 zbS), D0⟩
      refine qaa ?_ ?_
      ·rintro b a w' ⟨ha, P1, G4, D0⟩ hb_ hon hoff;refine ⟨_, rfl, fun K hK => ?_⟩;have e37 : a.tmps[37]? = some (.bool false) := zon_ ha 5 rfl rfl hon;replace ha := z_ ha;refine off_ (qaL rfl rfl rfl (e37.trans zbC)) ?_;refine hK.o _ _ ⟨zaY, P1, nf_ (hoff 27 zbS), D0⟩
      refine qaa ?_ ?_
      ·rintro b a w' ⟨ha, P1, G4, D0⟩ hb_ hon hoff;refine ⟨_, rfl, fun K hK => ?_⟩;have e37 : a.tmps[37]? = some (.bool false) := zon_ ha 5 rfl rfl hon;replace ha := z_ ha;refine off_ (qaL rfl rfl rfl (e37.trans zbC)) ?_;refine hK.o _ _ ⟨zaZ, P1, nf_ (hoff 27 zbS), D0⟩
      refine qaa ?_ ?_
      ·rintro b a w' ⟨ha, P1, G4, D0⟩ hb_ hon hoff;refine ⟨_, rfl, fun K hK => ?_⟩;have e37 : a.tmps[37]? = some (.bool false) := zon_ ha 5 rfl rfl hon;replace ha := z_ ha;refine off_ (qaL rfl rfl rfl (e37.trans zbC)) ?_;refine hK.o _ _ ⟨zba, P1, nf_ (hoff 27 zbS), D0⟩
      refine qaa ?_ ?_
      ·rintro b a w' ⟨ha, P1, G4, D0⟩ hb_ hon hoff;refine ⟨_, rfl, fun K hK => ?_⟩;have e37 : a.tmps[37]? = some (.bool false) := zon_ ha 5 rfl rfl hon;replace ha := z_ ha;refine off_ (qaL rfl rfl rfl (e37.trans zbC)) ?_;refine hK.o _ _ ⟨zbb, P1, nf_ (hoff 27 zbS), D0⟩
      refine qaa ?_ ?_
      ·rintro b a w' ⟨ha, P1, G4, D0⟩ hb_ hon hoff;refine ⟨_, rfl, fun K hK => ?_⟩;have e37 : a.tmps[37]? = some (.bool false) := zon_ ha 5 rfl rfl hon;replace ha := z_ ha;refine off_ (qaL rfl rfl rfl (e37.trans zbC)) ?_;refine hK.o _ _ ⟨zbc, P1, nf_ (hoff 27 zbS), D0⟩
      refine qaa ?_ ?_
      ·rintro b a w' ⟨ha, QT⟩ hb_ hon hoff;refine ⟨_, rfl, fun K hK => ?_⟩;have e37 : a.tmps[37]? = some (.bool false) := zon_ ha 5 rfl rfl hon;have e55 : a.tmps[55]? = some (undef) := zon_ ha 23 rfl rfl hon;replace ha := z_ ha;refine qae (w1 := w') (v := .bool false) zbX rfl zbt ?_;refine hK.o _ _ ⟨zbd, QT⟩
      refine qaa ?_ ?_
      ·rintro b a w' ⟨ha, QT⟩ hb_ hon hoff;refine ⟨_, rfl, fun K hK => ?_⟩;have e32 : a.tmps[32]? = some (.pointer (some ⟨gw, 0, none⟩)) := zon_ ha 0 rfl rfl hon;replace ha := z_ ha;refine qae (w1 := w') (v := .pointer (some ⟨gw, 0, none⟩)) zbX rfl zbt ?_;refine hK.o _ _ ⟨zbe, QT⟩
      refine qaa ?_ ?_
      ·rintro b a w' ⟨ha, QT⟩ hb_ hon hoff;refine ⟨_, rfl, fun K hK => ?_⟩;have e57 : a.tmps[57]? = some (.pointer (some ⟨gw, 0, none⟩)) := zon_ ha 25 rfl rfl hon;replace ha := z_ ha;refine qae (w1 := w') (v := .pointer (some ⟨gw, 3, none⟩)) zbX rfl zbt ?_;refine hK.o _ _ ⟨zbf, QT⟩
      refine qaa ?_ ?_
      ·rintro b a w' ⟨ha, P1, G4, D0⟩ hb_ hon hoff;refine ⟨_, rfl, fun K hK => ?_⟩;have e58 : a.tmps[58]? = some (.pointer (some ⟨gw, 3, none⟩)) := zon_ ha 26 rfl rfl hon;have e56 : a.tmps[56]? = some (.bool false) := zon_ ha 24 rfl rfl hon;replace ha := z_ ha;have LA := z_ (P1 hb_);have o4 := z_ D0;have iP := (qbz LA.o.2.1).2.2.2;have QW := qab LA.o.2.1 3;refine qeR (w1 := w'.setCell ⟨gw, 3, none⟩ (.bool false)) zbX rfl (by go_simp) ?_;refine hK.o _ _ ⟨zbq, fun N7 => absurd ((qa5 b 27).symm.trans N7) zbT, fun _ => LA.o.qen false, o4.o.setCell (p := ⟨gw, 3, none⟩) LA.o.1 _⟩
      exact qbo
     rintro b a w' hall ⟨ha, P1, G4, D0⟩;clear o4 LA;have X2 := hall 0 zbS;have X1 := hall 1 zbS;have N2 := hall 2 zbS;have M2 := hall 3 zbS;have I2 := hall 4 zbS;have D3 := hall 5 zbS;have j3 := hall 6 zbS;have i3 := hall 7 zbS;have U2 := hall 8 zbS;have Y2 := hall 9 zbS;have D2 := hall 10 zbS;have Q2 := hall 11 zbS;have F2 := hall 12 zbS;have j4 := hall 13 zbS;have D4 := hall 14 zbS;have n6 := hall 15 zbS;have q6 := hall 16 zbS;have m6 := hall 17 zbS;have s6 := hall 18 zbS;have r6 := hall 19 zbS;have j6 := hall 20 zbS;have o6 := hall 21 zbS;have u7 := hall 22 zbS;have G9 := hall 23 zbS;have zB := hall 24 zbS;have EB := hall 25 zbS;have KB := hall 26 zbS;have zA := hall 27 zbS;subst ha;simp only [qa7, X2, X1, N2, M2, I2, D3, j3, i3, U2, Y2, D2, Q2, F2, j4, D4, n6, q6, m6, s6, r6, j6, o6, u7, G9, zB, EB, KB, zA, if_true, Act.put, List.setIfInBounds_toArray, List.set_cons_zero, List.set_cons_succ];clear P1;have LB := z_ (G4 zA);clear G4;have o4 := z_ D0;clear D0 hall X2 X1 N2 M2 I2 D3 j3 i3 U2 Y2 D2 Q2 F2 j4 D4 n6 q6 m6 s6 r6 j6 o6 u7 G9 zB EB KB zA
     go_wp2_with fail
     go_roundw
     case rel => exact ⟨j + 1 + 1, false, zbV, zbV, zbU, LB, o4, HE2⟩
     case measure => simp [intOf]; omega
    | true =>
     obtain ⟨bl, hless⟩ : ∃ bl, Op.bytesLess k1.toList k2.toList = bl := ⟨_, rfl⟩
     have HE2 := z_ (show (bl && qcy (qdl P) (j + 1 + 1) (P.length - (j + 1 + 1))) = (b && riseB P) from by have h := HE.o; rw [HKL.o, hless, Bool.true_and] at h; exact h);have HLS := z_ hless;clear hless;refine qbY (n := 28) (S := fun w' => True) (ds := []) #[false, false, false, false, false, false, false, false, false, false, false, false, false, false, false, false, false, false, false, false, false, false, false, false, false, false, false, false] zbS rfl rfl trivial (fun hHeld => ?_);refine qbg sWalk.tab7 sWalk.bits7 (fun l4 R6 => ?_);generalize wr.drew = wd at LA o4 ⊢;refine qcd [0, 1, 2, 3, 4, 5, 6, 7, 8, 9, 10, 11, 12, 13, 14, 15, 16, 17, 18, 19, 20, 21, 22, 23, 24, 25, 26, 27] (fun E8 b a w' => a = qa7 E8 b [(0, 32, .pointer (some ⟨gw, 0, none⟩)), (1, 33, .pointer (some ⟨gw, 0, none⟩)), (2, 34, .pointer (some ⟨gw, 0, none⟩)), (3, 35, .pointer (some ⟨gw, 3, none⟩)), (4, 36, .bool true), (5, 37, .bool true), (6, 38, .pointer (some ⟨gw, 0, none⟩)), (7, 39, .pointer (some ⟨gw, 0, none⟩)), (8, 40, .pointer (some ⟨gw, 1, none⟩)), (9, 41, .slice (some ⟨gp, 0, none⟩) P.length vpc), (10, 42, .int .i64 ((j + 1 : Nat) : Int)), (11, 43, .int .i64 (j : Int)), (12, 44, .pointer (some ⟨gp, j * 2, none⟩)), (13, 45, .pointer (some ⟨gp, j * 2, none⟩)), (14, 46, .string k1), (15, 47, .pointer (some ⟨gw, 0, none⟩)), (16, 48, .pointer (some ⟨gw, 0, none⟩)), (17, 49, .pointer (some ⟨gw, 1, none⟩)), (18, 50, .slice (some ⟨gp, 0, none⟩) P.length vpc), (19, 51, .int .i64 ((j + 1 : Nat) : Int)), (20, 52, .pointer (some ⟨gp, (j + 1) * 2, none⟩)), (21, 53, .pointer (some ⟨gp, (j + 1) * 2, none⟩)), (22, 54, .string k2), (23, 55, .bool bl), (24, 56, .bool bl), (25, 57, .pointer (some ⟨gw, 0, none⟩)), (26, 58, .pointer (some ⟨gw, 3, none⟩))] ∧ (b 27 = false → LkAt w w' gw (.slice P0 t0.length O0) (.slice (some ⟨gp, 0, none⟩) P.length vpc) (.slice vsA S.length vsc) true P S) ∧ (b 27 = true → LkAt w w' gw (.slice P0 t0.length O0) (.slice (some ⟨gp, 0, none⟩) P.length vpc) (.slice vsA S.length vsc) bl P S) ∧ (Below w.heap.size w w')) l4.o R6.o zbS zbS ?_ ?_ ?_
     ·exact ⟨zaO, fun _ => LA.o, fun h_ => absurd h_ zbT, o4.o⟩
     ·skip;clear o4 LA;refine qaa ?_ ?_
      ·rintro b a w' ⟨ha, QT⟩ hb_ hon hoff;refine ⟨_, rfl, fun K hK => ?_⟩;have e7 : a.tmps[7]? = some (.pointer (some ⟨gw, 0, none⟩)) := zbu;replace ha := z_ ha;refine qae (w1 := w') (v := .pointer (some ⟨gw, 0, none⟩)) zbX rfl zbt ?_;refine hK.o _ _ ⟨zbg, QT⟩
      refine qaa ?_ ?_
      ·rintro b a w' ⟨ha, QT⟩ hb_ hon hoff;refine ⟨_, rfl, fun K hK => ?_⟩;have e7 : a.tmps[7]? = some (.pointer (some ⟨gw, 0, none⟩)) := zbu;replace ha := z_ ha;refine qae (w1 := w') (v := .pointer (some ⟨gw, 0, none⟩)) zbX rfl zbt ?_;refine hK.o _ _ ⟨zbh, QT⟩
      refine qaa ?_ ?_
      ·rintro b a w' ⟨ha, QT⟩ hb_ hon hoff;refine ⟨_, rfl, fun K hK => ?_⟩;have e33 : a.tmps[33]? = some (.pointer (some ⟨gw, 0, none⟩)) := zon_ ha 1 rfl rfl hon;replace ha := z_ ha;refine qae (w1 := w') (v := .pointer (some ⟨gw, 0, none⟩)) zbX rfl zbt ?_;refine hK.o _ _ ⟨zbi, QT⟩
      refine qaa ?_ ?_
      ·rintro b a w' ⟨ha, QT⟩ hb_ hon hoff;refine ⟨_, rfl, fun K hK => ?_⟩;have e34 : a.tmps[34]? = some (.pointer (some ⟨gw, 0, none⟩)) := zon_ ha 2 rfl rfl hon;replace ha := z_ ha;refine qae (w1 := w') (v := .pointer (some ⟨gw, 3, none⟩)) zbX rfl zbt ?_;refine hK.o _ _ ⟨zbj, QT⟩
      refine qaa ?_ ?_
      ·rintro b a w' ⟨ha, QT⟩ hb_ hon hoff;refine ⟨_, rfl, fun K hK => ?_⟩;have e35 : a.tmps[35]? = some (.pointer (some ⟨gw, 3, none⟩)) := zon_ ha 3 rfl rfl hon;replace ha := z_ ha;have LA := z_ (QT.1 (hoff 27 zbS));have L7 := (qbz LA.o.2.1).2.2.2;refine qae (w1 := w') (v := .bool true) zbX rfl zbt ?_;refine hK.o _ _ ⟨zbk, QT⟩
      refine qaa ?_ ?_
      ·rintro b a w' ⟨ha, QT⟩ hb_ hon hoff;refine ⟨_, rfl, fun K hK => ?_⟩;have e36 : a.tmps[36]? = some (.bool true) := zon_ ha 4 rfl rfl hon;replace ha := z_ ha;refine qae (w1 := w') (v := .bool true) zbX rfl zbt ?_;refine hK.o _ _ ⟨zbl, QT⟩
      refine qaa ?_ ?_
      ·rintro b a w' ⟨ha, QT⟩ hb_ hon hoff;refine ⟨_, rfl, fun K hK => ?_⟩;have e7 : a.tmps[7]? = some (.pointer (some ⟨gw, 0, none⟩)) := zbu;have e37 : a.tmps[37]? = some (.bool true) := zon_ ha 5 rfl rfl hon;replace ha := z_ ha;refine qae (w1 := w') (v := .pointer (some ⟨gw, 0, none⟩)) (qaR rfl rfl rfl (e37.trans zbC)) rfl zbt ?_;refine hK.o _ _ ⟨zbm, QT⟩
      refine qaa ?_ ?_
      ·rintro b a w' ⟨ha, QT⟩ hb_ hon hoff;refine ⟨_, rfl, fun K hK => ?_⟩;have e38 : a.tmps[38]? = some (.pointer (some ⟨gw, 0, none⟩)) := zon_ ha 6 rfl rfl hon;have e37 : a.tmps[37]? = some (.bool true) := zon_ ha 5 rfl rfl hon;replace ha := z_ ha;refine qae (w1 := w') (v := .pointer (some ⟨gw, 0, none⟩)) (qaR rfl rfl rfl (e37.trans zbC)) rfl zbt ?_;refine hK.o _ _ ⟨zbn, QT⟩
      refine qaa ?_ ?_
      ·rintro b a w' ⟨ha, QT⟩ hb_ hon hoff;refine ⟨_, rfl, fun K hK => ?_⟩;have e39 : a.tmps[39]? = some (.pointer (some ⟨gw, 0, none⟩)) := zon_ ha 7 rfl rfl hon;have e37 : a.tmps[37]? = some (.bool true) := zon_ ha 5 rfl rfl hon;replace ha := z_ ha;refine qae (w1 := w') (v := .pointer (some ⟨gw, 1, none⟩)) (qaR rfl rfl rfl (e37.trans zbC)) rfl zbt ?_;refine hK.o _ _ ⟨zbo, QT⟩
      refine qaa ?_ ?_
      ·rintro b a w' ⟨ha, QT⟩ hb_ hon hoff;refine ⟨_, rfl, fun K hK => ?_⟩;have e40 : a.tmps[40]? = some (.pointer (some ⟨gw, 1, none⟩)) := zon_ ha 8 rfl rfl hon;have e37 : a.tmps[37]? = some (.bool true) := zon_ ha 5 rfl rfl hon;replace ha := z_ ha;have LA := z_ (QT.1 (hoff 27 zbS));have L7 := (qbz LA.o.2.1).2.1;refine qae (w1 := w') (v := .slice (some ⟨gp, 0, none⟩) P.length vpc) (qaR rfl rfl rfl (e37.trans zbC)) rfl zbt ?_;refine hK.o _ _ ⟨zbp, QT⟩
      refine qaa ?_ ?_
      ·rintro b a w' ⟨ha, QT⟩ hb_ hon hoff;refine ⟨_, rfl, fun K hK => ?_⟩;have e8 : a.tmps[8]? = some (.int .i64 ((j + 1 : Nat) : Int)) := zbu;have e37 : a.tmps[37]? = some (.bool true) := zon_ ha 5 rfl rfl hon;replace ha := z_ ha;refine qae (w1 := w') (v := .int .i64 ((j + 1 : Nat) : Int)) (qaR rfl rfl rfl (e37.trans zbC)) rfl zbt ?_;refine hK.o _ _ ⟨zaP, QT⟩
      refine qaa ?_ ?_
      ·rintro b a w' ⟨ha, QT⟩ hb_ hon hoff;refine ⟨_, rfl, fun K hK => ?_⟩;have e42 : a.tmps[42]? = some (.int .i64 ((j + 1 : Nat) : Int)) := zon_ ha 10 rfl rfl hon;have e37 : a.tmps[37]? = some (.bool true) := zon_ ha 5 rfl rfl hon;replace ha := z_ ha;have EH := HWJ.o;refine qae (w1 := w') (v := .int .i64 (j : Int)) (qaR rfl rfl rfl (e37.trans zbC)) rfl zbt ?_;refine hK.o _ _ ⟨zaQ, QT⟩
      refine qaa ?_ ?_
      ·rintro b a w' ⟨ha, QT⟩ hb_ hon hoff;refine ⟨_, rfl, fun K hK => ?_⟩;have e41 : a.tmps[41]? = some (.slice (some ⟨gp, 0, none⟩) P.length vpc) := zon_ ha 9 rfl rfl hon;have e43 : a.tmps[43]? = some (.int .i64 (j : Int)) := zon_ ha 11 rfl rfl hon;have e37 : a.tmps[37]? = some (.bool true) := zon_ ha 5 rfl rfl hon;replace ha := z_ ha;have lW : (j : Int) < (P.length : Int) := by have := HJ.o; omega
       have rX : 0 ≤ (j : Int) := zbV;refine qae (w1 := w') (v := .pointer (some ⟨gp, j * 2, none⟩)) (qaR rfl rfl rfl (e37.trans zbC)) rfl zbt ?_;refine hK.o _ _ ⟨zaR, QT⟩
      refine qaa ?_ ?_
      ·rintro b a w' ⟨ha, QT⟩ hb_ hon hoff;refine ⟨_, rfl, fun K hK => ?_⟩;have e44 : a.tmps[44]? = some (.pointer (some ⟨gp, j * 2, none⟩)) := zon_ ha 12 rfl rfl hon;have e37 : a.tmps[37]? = some (.bool true) := zon_ ha 5 rfl rfl hon;replace ha := z_ ha;refine qae (w1 := w') (v := .pointer (some ⟨gp, j * 2, none⟩)) (qaR rfl rfl rfl (e37.trans zbC)) rfl zbt ?_;refine hK.o _ _ ⟨zaS, QT⟩
      refine qaa ?_ ?_
      ·rintro b a w' ⟨ha, QT⟩ hb_ hon hoff;refine ⟨_, rfl, fun K hK => ?_⟩;have e45 : a.tmps[45]? = some (.pointer (some ⟨gp, j * 2, none⟩)) := zon_ ha 13 rfl rfl hon;have e37 : a.tmps[37]? = some (.bool true) := zon_ ha 5 rfl rfl hon;replace ha := z_ ha;have LA := z_ (QT.1 (hoff 27 zbS));have L7 := qfj LA.o.2.2.2 (j := j) (by have := HJ.o; omega);rw [q7.o] at L7;refine qae (w1 := w') (v := .string k1) (qaR rfl rfl rfl (e37.trans zbC)) rfl zbt ?_;refine hK.o _ _ ⟨zaT, QT⟩
      refine qaa ?_ ?_
      ·rintro b a w' ⟨ha, QT⟩ hb_ hon hoff;refine ⟨_, rfl, fun K hK => ?_⟩;have e7 : a.tmps[7]? = some (.pointer (some ⟨gw, 0, none⟩)) := zbu;have e37 : a.tmps[37]? = some (.bool true) := zon_ ha 5 rfl rfl hon;replace ha := z_ ha;refine qae (w1 := w') (v := .pointer (some ⟨gw, 0, none⟩)) (qaR rfl rfl rfl (e37.trans zbC)) rfl zbt ?_;refine hK.o _ _ ⟨zaU, QT⟩
      refine qaa ?_ ?_
      ·rintro b a w' ⟨ha, QT⟩ hb_ hon hoff;refine ⟨_, rfl, fun K hK => ?_⟩;have e47 : a.tmps[47]? = some (.pointer (some ⟨gw, 0, none⟩)) := zon_ ha 15 rfl rfl hon;have e37 : a.tmps[37]? = some (.bool true) := zon_ ha 5 rfl rfl hon;replace ha := z_ ha;refine qae (w1 := w') (v := .pointer (some ⟨gw, 0, none⟩)) (qaR rfl rfl rfl (e37.trans zbC)) rfl zbt ?_;refine hK.o _ _ ⟨zaV, QT⟩
      refine qaa ?_ ?_
      ·rintro b a w' ⟨ha, QT⟩ hb_ hon hoff;refine ⟨_, rfl, fun K hK => ?_⟩;have e48 : a.tmps[48]? = some (.pointer (some ⟨gw, 0, none⟩)) := zon_ ha 16 rfl rfl hon;have e37 : a.tmps[37]? = some (.bool true) := zon_ ha 5 rfl rfl hon;replace ha := z_ ha;refine qae (w1 := w') (v := .pointer (some ⟨gw, 1, none⟩)) (qaR rfl rfl rfl (e37.trans zbC)) rfl zbt ?_;refine hK.o _ _ ⟨zaW, QT⟩
      refine qaa ?_ ?_
      ·rintro b a w' ⟨ha, QT⟩ hb_ hon hoff;refine ⟨_, rfl, fun K hK => ?_⟩;have e49 : a.tmps[49]? = some (.pointer (some ⟨gw, 1, none⟩)) := zon_ ha 17 rfl rfl hon;have e37 : a.tmps[37]? = some (.bool true) := zon_ ha 5 rfl rfl hon;replace ha := z_ ha;have LA := z_ (QT.1 (hoff 27 zbS));have L7 := (qbz LA.o.2.1).2.1;refine qae (w1 := w') (v := .slice (some ⟨gp, 0, none⟩) P.length vpc) (qaR rfl rfl rfl (e37.trans zbC)) rfl zbt ?_;refine hK.o _ _ ⟨zaX, QT⟩
      refine qaa ?_ ?_
      ·rintro b a w' ⟨ha, QT⟩ hb_ hon hoff;refine ⟨_, rfl, fun K hK => ?_⟩;have e8 : a.tmps[8]? = some (.int .i64 ((j + 1 : Nat) : Int)) := zbu;have e37 : a.tmps[37]? = some (.bool true) := zon_ ha 5 rfl rfl hon;replace ha := z_ ha;refine qae (w1 := w') (v := .int .i64 ((j + 1 : Nat) : Int)) (qaR rfl rfl rfl (e37.trans zbC)) rfl zbt ?_;refine hK.o _ _ ⟨zaY, QT⟩
      refine qaa ?_ ?_
      ·rintro b a w' ⟨ha, QT⟩ hb_ hon hoff;refine ⟨_, rfl, fun K hK => ?_⟩;have e50 : a.tmps[50]? = some (.slice (some ⟨gp, 0, none⟩) P.length vpc) := zon_ ha 18 rfl rfl hon;have e51 : a.tmps[51]? = some (.int .i64 ((j + 1 : Nat) : Int)) := zon_ ha 19 rfl rfl hon;have e37 : a.tmps[37]? = some (.bool true) := zon_ ha 5 rfl rfl hon;replace ha := z_ ha;have lW : ((j + 1 : Nat) : Int) < (P.length : Int) := by have := HJ.o; omega
       have rX : 0 ≤ ((j + 1 : Nat) : Int) := zbV;have xY : ((j + 1 : Nat) : Int).toNat = j + 1 := zbV;have xf : ¬ ((j : Int) + 1 < 0) := zbV;have y4_ : (j : Int) + 1 < (P.length : Int) := by have := HJ.o; omega
       have y5_ : ((j : Int) + 1).toNat = j + 1 := zbV;have y6_ : 0 ≤ (j : Int) + 1 := zbV;refine qae (w1 := w') (v := .pointer (some ⟨gp, (j + 1) * 2, none⟩)) (qaR rfl rfl rfl (e37.trans zbC)) rfl zbt ?_;refine hK.o _ _ ⟨zaZ, QT⟩
      refine qaa ?_ ?_
      ·rintro b a w' ⟨ha, QT⟩ hb_ hon hoff;refine ⟨_, rfl, fun K hK => ?_⟩;have e52 : a.tmps[52]? = some (.pointer (some ⟨gp, (j + 1) * 2, none⟩)) := zon_ ha 20 rfl rfl hon;have e37 : a.tmps[37]? = some (.bool true) := zon_ ha 5 rfl rfl hon;replace ha := z_ ha;refine qae (w1 := w') (v := .pointer (some ⟨gp, (j + 1) * 2, none⟩)) (qaR rfl rfl rfl (e37.trans zbC)) rfl zbt ?_;refine hK.o _ _ ⟨zba, QT⟩
      refine qaa ?_ ?_
      ·rintro b a w' ⟨ha, QT⟩ hb_ hon hoff;refine ⟨_, rfl, fun K hK => ?_⟩;have e53 : a.tmps[53]? = some (.pointer (some ⟨gp, (j + 1) * 2, none⟩)) := zon_ ha 21 rfl rfl hon;have e37 : a.tmps[37]? = some (.bool true) := zon_ ha 5 rfl rfl hon;replace ha := z_ ha;have LA := z_ (QT.1 (hoff 27 zbS));have L7 := qfj LA.o.2.2.2 (j := j + 1) HJ.o;rw [p7.o] at L7;refine qae (w1 := w') (v := .string k2) (qaR rfl rfl rfl (e37.trans zbC)) rfl zbt ?_;refine hK.o _ _ ⟨zbb, QT⟩
      refine qaa ?_ ?_
      ·rintro b a w' ⟨ha, QT⟩ hb_ hon hoff;refine ⟨_, rfl, fun K hK => ?_⟩;have e46 : a.tmps[46]? = some (.string k1) := zon_ ha 14 rfl rfl hon;have e54 : a.tmps[54]? = some (.string k2) := zon_ ha 22 rfl rfl hon;have e37 : a.tmps[37]? = some (.bool true) := zon_ ha 5 rfl rfl hon;replace ha := z_ ha;have L7 := HLS.o;refine qae (w1 := w') (v := .bool bl) (qaR rfl rfl rfl (e37.trans zbC)) rfl zbt ?_;refine hK.o _ _ ⟨zbc, QT⟩
      refine qaa ?_ ?_
      ·rintro b a w' ⟨ha, QT⟩ hb_ hon hoff;refine ⟨_, rfl, fun K hK => ?_⟩;have e37 : a.tmps[37]? = some (.bool true) := zon_ ha 5 rfl rfl hon;have e55 : a.tmps[55]? = some (.bool bl) := zon_ ha 23 rfl rfl hon;replace ha := z_ ha;refine qae (w1 := w') (v := .bool bl) zbX rfl zbt ?_;refine hK.o _ _ ⟨zbd, QT⟩
      refine qaa ?_ ?_
      ·rintro b a w' ⟨ha, QT⟩ hb_ hon hoff;refine ⟨_, rfl, fun K hK => ?_⟩;have e32 : a.tmps[32]? = some (.pointer (some ⟨gw, 0, none⟩)) := zon_ ha 0 rfl rfl hon;replace ha := z_ ha;refine qae (w1 := w') (v := .pointer (some ⟨gw, 0, none⟩)) zbX rfl zbt ?_;refine hK.o _ _ ⟨zbe, QT⟩
      refine qaa ?_ ?_
      ·rintro b a w' ⟨ha, QT⟩ hb_ hon hoff;refine ⟨_, rfl, fun K hK => ?_⟩;have e57 : a.tmps[57]? = some (.pointer (some ⟨gw, 0, none⟩)) := zon_ ha 25 rfl rfl hon;replace ha := z_ ha;refine qae (w1 := w') (v := .pointer (some ⟨gw, 3, none⟩)) zbX rfl zbt ?_;refine hK.o _ _ ⟨zbf, QT⟩
      refine qaa ?_ ?_
      ·rintro b a w' ⟨ha, P1, G4, D0⟩ hb_ hon hoff;refine ⟨_, rfl, fun K hK => ?_⟩;have e58 : a.tmps[58]? = some (.pointer (some ⟨gw, 3, none⟩)) := zon_ ha 26 rfl rfl hon;have e56 : a.tmps[56]? = some (.bool bl) := zon_ ha 24 rfl rfl hon;replace ha := z_ ha;have LA := z_ (P1 hb_);have o4 := z_ D0;have iP := (qbz LA.o.2.1).2.2.2;have QW := qab LA.o.2.1 3;refine qeR (w1 := w'.setCell ⟨gw, 3, none⟩ (.bool bl)) zbX rfl (by go_simp) ?_;refine hK.o _ _ ⟨zbq, fun N7 => absurd ((qa5 b 27).symm.trans N7) zbT, fun _ => LA.o.qen bl, o4.o.setCell (p := ⟨gw, 3, none⟩) LA.o.1 _⟩
      exact qbo
     rintro b a w' hall ⟨ha, P1, G4, D0⟩;clear o4 LA;have X2 := hall 0 zbS;have X1 := hall 1 zbS;have N2 := hall 2 zbS;have M2 := hall 3 zbS;have I2 := hall 4 zbS;have D3 := hall 5 zbS;have j3 := hall 6 zbS;have i3 := hall 7 zbS;have U2 := hall 8 zbS;have Y2 := hall 9 zbS;have D2 := hall 10 zbS;have Q2 := hall 11 zbS;have F2 := hall 12 zbS;have j4 := hall 13 zbS;have D4 := hall 14 zbS;have n6 := hall 15 zbS;have q6 := hall 16 zbS;have m6 := hall 17 zbS;have s6 := hall 18 zbS;have r6 := hall 19 zbS;have j6 := hall 20 zbS;have o6 := hall 21 zbS;have u7 := hall 22 zbS;have G9 := hall 23 zbS;have zB := hall 24 zbS;have EB := hall 25 zbS;have KB := hall 26 zbS;have zA := hall 27 zbS;subst ha;simp only [qa7, X2, X1, N2, M2, I2, D3, j3, i3, U2, Y2, D2, Q2, F2, j4, D4, n6, q6, m6, s6, r6, j6, o6, u7, G9, zB, EB, KB, zA, if_true, Act.put, List.setIfInBounds_toArray, List.set_cons_zero, List.set_cons_succ];clear P1;have LB := z_ (G4 zA);clear G4;have o4 := z_ D0;clear D0 hall X2 X1 N2 M2 I2 D3 j3 i3 U2 Y2 D2 Q2 F2 j4 D4 n6 q6 m6 s6 r6 j6 o6 u7 G9 zB EB KB zA
     go_wp2_with fail
     go_roundw
     case rel => exact ⟨j + 1 + 1, bl, zbV, zbV, zbU, LB, o4, HE2⟩
     case measure => simp [intOf]; omega
   ·have c5 : decide ((i : Int) < (P.length : Int)) = false := decide_eq_false zbV;have hE := HEr.o;rw [show P.length - i = 0 from zbV, qcy, Bool.and_true] at hE;have HE := z_ hE;clear hE HEr
    go_upto_region 8 with fail
    clear d0 d1 d2 d3;have LA := z_ (HWr.o.below (qaW (Below.refl _ wr)));have o4 := z_ (qaW HBr.o);clear HWr HBr c5
    cases q with
    | false =>
     refine qbY (n := 23) (S := fun w' => True) (ds := []) #[false, false, false, false, false, false, false, false, false, false, false, false, false, false, false, false, false, false, false, false, false, false, false] zbS rfl rfl trivial (fun hHeld => ?_);refine qbg sWalk.tab8 sWalk.bits8 (fun l4 R6 => ?_);generalize wr.drew = wd at LA o4 ⊢;refine qcd [0, 1, 2, 3, 4, 5, 6, 7, 8, 9, 10, 11, 12, 13, 14, 15, 16, 17, 18, 19, 20, 21, 22] (fun E8 b a w' => a = qa7 E8 b [(0, 59, .pointer (some ⟨gw, 0, none⟩)), (1, 60, .pointer (some ⟨gw, 0, none⟩)), (2, 61, .pointer (some ⟨gw, 1, none⟩)), (3, 62, .slice vpA P.length vpc), (4, 63, .pointer (some ⟨gw, 0, none⟩)), (5, 64, .pointer (some ⟨gw, 0, none⟩)), (6, 65, .pointer (some ⟨gw, 2, none⟩)), (7, 66, .slice vsA S.length vsc), (8, 67, .pointer (some ⟨gw, 0, none⟩)), (9, 68, .pointer (some ⟨gw, 0, none⟩)), (10, 69, .pointer (some ⟨gw, 3, none⟩)), (11, 70, .bool false), (12, 71, .bool false), (13, 72, undef), (14, 73, undef), (15, 74, undef), (16, 75, undef), (17, 76, undef), (18, 77, undef), (19, 78, .bool false), (20, 4, .slice vpA P.length vpc), (21, 5, .slice vsA S.length vsc), (22, 6, .bool false)] ∧ (LkAt w w' gw (.slice P0 t0.length O0) (.slice vpA P.length vpc) (.slice vsA S.length vsc) false P S) ∧ (Below w.heap.size w w')) l4.o R6.o zbS zbS ?_ ?_ ?_
     ·exact ⟨zaO, LA.o, o4.o⟩
     ·skip;clear o4 LA;refine qaa ?_ ?_
      ·rintro b a w' ⟨ha, QT⟩ hb_ hon hoff;refine ⟨_, rfl, fun K hK => ?_⟩;have e7 : a.tmps[7]? = some (.pointer (some ⟨gw, 0, none⟩)) := zbu;replace ha := z_ ha;refine qae (w1 := w') (v := .pointer (some ⟨gw, 0, none⟩)) zbX rfl zbt ?_;refine hK.o _ _ ⟨zbg, QT⟩
      refine qaa ?_ ?_
      ·rintro b a w' ⟨ha, QT⟩ hb_ hon hoff;refine ⟨_, rfl, fun K hK => ?_⟩;have e59 : a.tmps[59]? = some (.pointer (some ⟨gw, 0, none⟩)) := zon_ ha 0 rfl rfl hon;replace ha := z_ ha;refine qae (w1 := w') (v := .pointer (some ⟨gw, 0, none⟩)) zbX rfl zbt ?_;refine hK.o _ _ ⟨zbh, QT⟩
      refine qaa ?_ ?_
      ·rintro b a w' ⟨ha, QT⟩ hb_ hon hoff;refine ⟨_, rfl, fun K hK => ?_⟩;have e60 : a.tmps[60]? = some (.pointer (some ⟨gw, 0, none⟩)) := zon_ ha 1 rfl rfl hon;replace ha := z_ ha;refine qae (w1 := w') (v := .pointer (some ⟨gw, 1, none⟩)) zbX rfl zbt ?_;refine hK.o _ _ ⟨zbi, QT⟩
      refine qaa ?_ ?_
      ·rintro b a w' ⟨ha, QT⟩ hb_ hon hoff;refine ⟨_, rfl, fun K hK => ?_⟩;have e61 : a.tmps[61]? = some (.pointer (some ⟨gw, 1, none⟩)) := zon_ ha 2 rfl rfl hon;replace ha := z_ ha;have LA := z_ QT.1;have L7 := (qbz LA.o.2.1).2.1;refine qae (w1 := w') (v := .slice vpA P.length vpc) zbX rfl zbt ?_;refine hK.o _ _ ⟨zbj, QT⟩
      refine qaa ?_ ?_
      ·rintro b a w' ⟨ha, QT⟩ hb_ hon hoff;refine ⟨_, rfl, fun K hK => ?_⟩;have e7 : a.tmps[7]? = some (.pointer (some ⟨gw, 0, none⟩)) := zbu;replace ha := z_ ha;refine qae (w1 := w') (v := .pointer (some ⟨gw, 0, none⟩)) zbX rfl zbt ?_;refine hK.o _ _ ⟨zbk, QT⟩
      refine qaa ?_ ?_
      ·rintro b a w' ⟨ha, QT⟩ hb_ hon hoff;refine ⟨_, rfl, fun K hK => ?_⟩;have e63 : a.tmps[63]? = some (.pointer (some ⟨gw, 0, none⟩)) := zon_ ha 4 rfl rfl hon;replace ha := z_ ha;refine qae (w1 := w') (v := .pointer (some ⟨gw, 0, none⟩)) zbX rfl zbt ?_;refine hK.o _ _ ⟨zbl, QT⟩
      refine qaa ?_ ?_
      ·rintro b a w' ⟨ha, QT⟩ hb_ hon hoff;refine ⟨_, rfl, fun K hK => ?_⟩;have e64 : a.tmps[64]? = some (.pointer (some ⟨gw, 0, none⟩)) := zon_ ha 5 rfl rfl hon;replace ha := z_ ha;refine qae (w1 := w') (v := .pointer (some ⟨gw, 2, none⟩)) zbX rfl zbt ?_;refine hK.o _ _ ⟨zbm, QT⟩
      refine qaa ?_ ?_
      ·rintro b a w' ⟨ha, QT⟩ hb_ hon hoff;refine ⟨_, rfl, fun K hK => ?_⟩;have e65 : a.tmps[65]? = some (.pointer (some ⟨gw, 2, none⟩)) := zon_ ha 6 rfl rfl hon;replace ha := z_ ha;have LA := z_ QT.1;have L7 := (qbz LA.o.2.1).2.2.1;refine qae (w1 := w') (v := .slice vsA S.length vsc) zbX rfl zbt ?_;refine hK.o _ _ ⟨zbn, QT⟩
      refine qaa ?_ ?_
      ·rintro b a w' ⟨ha, QT⟩ hb_ hon hoff;refine ⟨_, rfl, fun K hK => ?_⟩;have e7 : a.tmps[7]? = some (.pointer (some ⟨gw, 0, none⟩)) := zbu;replace ha := z_ ha;refine qae (w1 := w') (v := .pointer (some ⟨gw, 0, none⟩)) zbX rfl zbt ?_;refine hK.o _ _ ⟨zbo, QT⟩
      refine qaa ?_ ?_
      ·rintro b a w' ⟨ha, QT⟩ hb_ hon hoff;refine ⟨_, rfl, fun K hK => ?_⟩;have yY : a.tmps[67]? = some (.pointer (some ⟨gw, 0, none⟩)) := zon_ ha 8 rfl rfl hon;replace ha := z_ ha;refine qae (w1 := w') (v := .pointer (some ⟨gw, 0, none⟩)) zbX rfl zbt ?_;refine hK.o _ _ ⟨zbp, QT⟩
      refine qaa ?_ ?_
      ·rintro b a w' ⟨ha, QT⟩ hb_ hon hoff;refine ⟨_, rfl, fun K hK => ?_⟩;have rQ : a.tmps[68]? = some (.pointer (some ⟨gw, 0, none⟩)) := zon_ ha 9 rfl rfl hon;replace ha := z_ ha;refine qae (w1 := w') (v := .pointer (some ⟨gw, 3, none⟩)) zbX rfl zbt ?_;refine hK.o _ _ ⟨zaP, QT⟩
      refine qaa ?_ ?_
      ·rintro b a w' ⟨ha, QT⟩ hb_ hon hoff;refine ⟨_, rfl, fun K hK => ?_⟩;have fR : a.tmps[69]? = some (.pointer (some ⟨gw, 3, none⟩)) := zon_ ha 10 rfl rfl hon;replace ha := z_ ha;have LA := z_ QT.1;have L7 := (qbz LA.o.2.1).2.2.2;refine qae (w1 := w') (v := .bool false) zbX rfl zbt ?_;refine hK.o _ _ ⟨zaQ, QT⟩
      refine qaa ?_ ?_
      ·rintro b a w' ⟨ha, QT⟩ hb_ hon hoff;refine ⟨_, rfl, fun K hK => ?_⟩;have ZX : a.tmps[70]? = some (.bool false) := zon_ ha 11 rfl rfl hon;replace ha := z_ ha;refine qae (w1 := w') (v := .bool false) zbX rfl zbt ?_;refine hK.o _ _ ⟨zaR, QT⟩
      refine qaa ?_ ?_
      ·rintro b a w' ⟨ha, P1, D0⟩ hb_ hon hoff;refine ⟨_, rfl, fun K hK => ?_⟩;have RC : a.tmps[71]? = some (.bool false) := zon_ ha 12 rfl rfl hon;replace ha := z_ ha;refine off_ (qaL rfl rfl rfl (RC.trans zbC)) ?_;refine hK.o _ _ ⟨zaS, P1, D0⟩
      refine qaa ?_ ?_
      ·rintro b a w' ⟨ha, P1, D0⟩ hb_ hon hoff;refine ⟨_, rfl, fun K hK => ?_⟩;have RC : a.tmps[71]? = some (.bool false) := zon_ ha 12 rfl rfl hon;replace ha := z_ ha;refine off_ (qaL rfl rfl rfl (RC.trans zbC)) ?_;refine hK.o _ _ ⟨zaT, P1, D0⟩
      refine qaa ?_ ?_
      ·rintro b a w' ⟨ha, P1, D0⟩ hb_ hon hoff;refine ⟨_, rfl, fun K hK => ?_⟩;have RC : a.tmps[71]? = some (.bool false) := zon_ ha 12 rfl rfl hon;replace ha := z_ ha;refine off_ (qaL rfl rfl rfl (RC.trans zbC)) ?_;refine hK.o _ _ ⟨zaU, P1, D0⟩
      refine qaa ?_ ?_
      ·rintro b a w' ⟨ha, P1, D0⟩ hb_ hon hoff;refine ⟨_, rfl, fun K hK => ?_⟩;have RC : a.tmps[71]? = some (.bool false) := zon_ ha 12 rfl rfl hon;replace ha := z_ ha;refine off_ (qaL rfl rfl rfl (RC.trans zbC)) ?_;refine hK.o _ _ ⟨zaV, P1, D0⟩
      refine qaa ?_ ?_
      ·rintro b a w' ⟨ha, P1, D0⟩ hb_ hon hoff;refine ⟨_, rfl, fun K hK => ?_⟩;have RC : a.tmps[71]? = some (.bool false) := zon_ ha 12 rfl rfl hon;replace ha := z_ ha;refine off_ (qaL rfl rfl rfl (RC.trans zbC)) ?_;refine hK.o _ _ ⟨zaW, P1, D0⟩
      refine qaa ?_ ?_
      ·rintro b a w' ⟨ha, P1, D0⟩ hb_ hon hoff;refine ⟨_, rfl, fun K hK => ?_⟩;have RC : a.tmps[71]? = some (.bool false) := zon_ ha 12 rfl rfl hon;replace ha := z_ ha;refine off_ (qaL rfl rfl rfl (RC.trans zbC)) ?_;refine hK.o _ _ ⟨zaX, P1, D0⟩
      refine qaa ?_ ?_
      ·rintro b a w' ⟨ha, QT⟩ hb_ hon hoff;refine ⟨_, rfl, fun K hK => ?_⟩;have RC : a.tmps[71]? = some (.bool false) := zon_ ha 12 rfl rfl hon;have e77 : a.tmps[77]? = some (undef) := zon_ ha 18 rfl rfl hon;replace ha := z_ ha;refine qae (w1 := w') (v := .bool false) zbX rfl zbt ?_;refine hK.o _ _ ⟨zaY, QT⟩
      refine qaa ?_ ?_
      ·rintro b a w' ⟨ha, QT⟩ hb_ hon hoff;refine ⟨_, rfl, fun K hK => ?_⟩;have e62 : a.tmps[62]? = some (.slice vpA P.length vpc) := zon_ ha 3 rfl rfl hon;replace ha := z_ ha;refine qae (w1 := w') (v := .slice vpA P.length vpc) zbX rfl zbt ?_;refine hK.o _ _ ⟨zaZ, QT⟩
      refine qaa ?_ ?_
      ·rintro b a w' ⟨ha, QT⟩ hb_ hon hoff;refine ⟨_, rfl, fun K hK => ?_⟩;have ud : a.tmps[66]? = some (.slice vsA S.length vsc) := zon_ ha 7 rfl rfl hon;replace ha := z_ ha;refine qae (w1 := w') (v := .slice vsA S.length vsc) zbX rfl zbt ?_;refine hK.o _ _ ⟨zba, QT⟩
      refine qaa ?_ ?_
      ·rintro b a w' ⟨ha, QT⟩ hb_ hon hoff;refine ⟨_, rfl, fun K hK => ?_⟩;have mg : a.tmps[78]? = some (.bool false) := zon_ ha 19 rfl rfl hon;replace ha := z_ ha;refine qae (w1 := w') (v := .bool false) zbX rfl zbt ?_;refine hK.o _ _ ⟨zbb, QT⟩
      exact qbo
     rintro b a w' hall ⟨ha, P1, D0⟩;clear o4 LA;have X2 := hall 0 zbS;have X1 := hall 1 zbS;have N2 := hall 2 zbS;have M2 := hall 3 zbS;have I2 := hall 4 zbS;have D3 := hall 5 zbS;have j3 := hall 6 zbS;have i3 := hall 7 zbS;have U2 := hall 8 zbS;have Y2 := hall 9 zbS;have D2 := hall 10 zbS;have Q2 := hall 11 zbS;have F2 := hall 12 zbS;have j4 := hall 13 zbS;have D4 := hall 14 zbS;have n6 := hall 15 zbS;have q6 := hall 16 zbS;have m6 := hall 17 zbS;have s6 := hall 18 zbS;have r6 := hall 19 zbS;have j6 := hall 20 zbS;have o6 := hall 21 zbS;have u7 := hall 22 zbS;subst ha;simp only [qa7, X2, X1, N2, M2, I2, D3, j3, i3, U2, Y2, D2, Q2, F2, j4, D4, n6, q6, m6, s6, r6, j6, o6, u7, if_true, Act.put, List.setIfInBounds_toArray, List.set_cons_zero, List.set_cons_succ];have LA := z_ P1;clear P1;have o4 := z_ D0;clear D0 hall X2 X1 N2 M2 I2 D3 j3 i3 U2 Y2 D2 Q2 F2 j4 D4 n6 q6 m6 s6 r6 j6 o6 u7
     go_wp2_with fail
     ((try simp only [Exit.inBlock, Exit.then]); refine bodyPost_ret (results_tmp3 rfl _ _ _) rfl ?_)
     have hR := HRt.o;rw [← HE.o, HH.o] at hR;simp only [Prod.mk.injEq, Bool.false_and] at hR;obtain ⟨rfl, rfl, rfl⟩ := hR;exact ⟨_, _, rfl, LA.o.2.2.2, LA.o.2.2.1, o4.o⟩
    | true =>
     obtain ⟨ble, hle⟩ : ∃ ble, decide (P.length ≤ 60) = ble := ⟨_, rfl⟩
     have HLE := z_ (show decide ((P.length : Int) ≤ 60) = ble from by rw [← hle]; exact decide_eq_decide.2 zbV);have de := z_ hle;clear hle;refine qbY (n := 23) (S := fun w' => True) (ds := []) #[false, false, false, false, false, false, false, false, false, false, false, false, false, false, false, false, false, false, false, false, false, false, false] zbS rfl rfl trivial (fun hHeld => ?_);refine qbg sWalk.tab8 sWalk.bits8 (fun l4 R6 => ?_);generalize wr.drew = wd at LA o4 ⊢;refine qcd [0, 1, 2, 3, 4, 5, 6, 7, 8, 9, 10, 11, 12, 13, 14, 15, 16, 17, 18, 19, 20, 21, 22] (fun E8 b a w' => a = qa7 E8 b [(0, 59, .pointer (some ⟨gw, 0, none⟩)), (1, 60, .pointer (some ⟨gw, 0, none⟩)), (2, 61, .pointer (some ⟨gw, 1, none⟩)), (3, 62, .slice vpA P.length vpc), (4, 63, .pointer (some ⟨gw, 0, none⟩)), (5, 64, .pointer (some ⟨gw, 0, none⟩)), (6, 65, .pointer (some ⟨gw, 2, none⟩)), (7, 66, .slice vsA S.length vsc), (8, 67, .pointer (some ⟨gw, 0, none⟩)), (9, 68, .pointer (some ⟨gw, 0, none⟩)), (10, 69, .pointer (some ⟨gw, 3, none⟩)), (11, 70, .bool true), (12, 71, .bool true), (13, 72, .pointer (some ⟨gw, 0, none⟩)), (14, 73, .pointer (some ⟨gw, 0, none⟩)), (15, 74, .pointer (some ⟨gw, 1, none⟩)), (16, 75, .slice vpA P.length vpc), (17, 76, .int .i64 (P.length : Int)), (18, 77, .bool ble), (19, 78, .bool ble), (20, 4, .slice vpA P.length vpc), (21, 5, .slice vsA S.length vsc), (22, 6, .bool ble)] ∧ (LkAt w w' gw (.slice P0 t0.length O0) (.slice vpA P.length vpc) (.slice vsA S.length vsc) true P S) ∧ (Below w.heap.size w w')) l4.o R6.o zbS zbS ?_ ?_ ?_
     ·exact ⟨zaO, LA.o, o4.o⟩
     ·skip;clear o4 LA;refine qaa ?_ ?_
      ·rintro b a w' ⟨ha, QT⟩ hb_ hon hoff;refine ⟨_, rfl, fun K hK => ?_⟩;have e7 : a.tmps[7]? = some (.pointer (some ⟨gw, 0, none⟩)) := zbu;replace ha := z_ ha;refine qae (w1 := w') (v := .pointer (some ⟨gw, 0, none⟩)) zbX rfl zbt ?_;refine hK.o _ _ ⟨zbg, QT⟩
      refine qaa ?_ ?_
      ·rintro b a w' ⟨ha, QT⟩ hb_ hon hoff;refine ⟨_, rfl, fun K hK => ?_⟩;have e59 : a.tmps[59]? = some (.pointer (some ⟨gw, 0, none⟩)) := zon_ ha 0 rfl rfl hon;replace ha := z_ ha;refine qae (w1 := w') (v := .pointer (some ⟨gw, 0, none⟩)) zbX rfl zbt ?_;refine hK.o _ _ ⟨zbh, QT⟩
      refine qaa ?_ ?_
      ·rintro b a w' ⟨ha, QT⟩ hb_ hon hoff;refine ⟨_, rfl, fun K hK => ?_⟩;have e60 : a.tmps[60]? = some (.pointer (some ⟨gw, 0, none⟩)) := zon_ ha 1 rfl rfl hon;replace ha := z_ ha;refine qae (w1 := w') (v := .pointer (some ⟨gw, 1, none⟩)) zbX rfl zbt ?_;refine hK.o _ _ ⟨zbi, QT⟩
      refine qaa ?_ ?_
      ·rintro b a w' ⟨ha, QT⟩ hb_ hon hoff;refine ⟨_, rfl, fun K hK => ?_⟩;have e61 : a.tmps[61]? = some (.pointer (some ⟨gw, 1, none⟩)) := zon_ ha 2 rfl rfl hon;replace ha := z_ ha;have LA := z_ QT.1;have L7 := (qbz LA.o.2.1).2.1;refine qae (w1 := w') (v := .slice vpA P.length vpc) zbX rfl zbt ?_;refine hK.o _ _ ⟨zbj, QT⟩
      refine qaa ?_ ?_
      ·rintro b a w' ⟨ha, QT⟩ hb_ hon hoff;refine ⟨_, rfl, fun K hK => ?_⟩;have e7 : a.tmps[7]? = some (.pointer (some ⟨gw, 0, none⟩)) := zbu;replace ha := z_ ha;refine qae (w1 := w') (v := .pointer (some ⟨gw, 0, none⟩)) zbX rfl zbt ?_;refine hK.o _ _ ⟨zbk, QT⟩
      refine qaa ?_ ?_
      ·rintro b a w' ⟨ha, QT⟩ hb_ hon hoff;refine ⟨_, rfl, fun K hK => ?_⟩;have e63 : a.tmps[63]? = some (.pointer (some ⟨gw, 0, none⟩)) := zon_ ha 4 rfl rfl hon;replace ha := z_ ha;refine qae (w1 := w') (v := .pointer (some ⟨gw, 0, none⟩)) zbX rfl zbt ?_;refine hK.o _ _ ⟨zbl, QT⟩
      refine qaa ?_ ?_
      ·rintro b a w' ⟨ha, QT⟩ hb_ hon hoff;refine ⟨_, rfl, fun K hK => ?_⟩;have e64 : a.tmps[64]? = some (.pointer (some ⟨gw, 0, none⟩)) := zon_ ha 5 rfl rfl hon;replace ha := z_ ha;refine qae (w1 := w') (v := .pointer (some ⟨gw, 2, none⟩)) zbX rfl zbt ?_;refine hK.o _ _ ⟨zbm, QT⟩
      refine qaa ?_ ?_
      ·rintro b a w' ⟨ha, QT⟩ hb_ hon hoff;refine ⟨_, rfl, fun K hK => ?_⟩;have e65 : a.tmps[65]? = some (.pointer (some ⟨gw, 2, none⟩)) := zon_ ha 6 rfl rfl hon;replace ha := z_ ha;have LA := z_ QT.1;have L7 := (qbz LA.o.2.1).2.2.1;refine qae (w1 := w') (v := .slice vsA S.length vsc) zbX rfl zbt ?_;refine hK.o _ _ ⟨zbn, QT⟩
      refine qaa ?_ ?_
      ·rintro b a w' ⟨ha, QT⟩ hb_ hon hoff;refine ⟨_, rfl, fun K hK => ?_⟩;have e7 : a.tmps[7]? = some (.pointer (some ⟨gw, 0, none⟩)) := zbu;replace ha := z_ ha;refine qae (w1 := w') (v := .pointer (some ⟨gw, 0, none⟩)) zbX rfl zbt ?_;refine hK.o _ _ ⟨zbo, QT⟩
      refine qaa ?_ ?_
      ·rintro b a w' ⟨ha, QT⟩ hb_ hon hoff;refine ⟨_, rfl, fun K hK => ?_⟩;have yY : a.tmps[67]? = some (.pointer (some ⟨gw, 0, none⟩)) := zon_ ha 8 rfl rfl hon;replace ha := z_ ha;refine qae (w1 := w') (v := .pointer (some ⟨gw, 0, none⟩)) zbX rfl zbt ?_;refine hK.o _ _ ⟨zbp, QT⟩
      refine qaa ?_ ?_
      ·rintro b a w' ⟨ha, QT⟩ hb_ hon hoff;refine ⟨_, rfl, fun K hK => ?_⟩;have rQ : a.tmps[68]? = some (.pointer (some ⟨gw, 0, none⟩)) := zon_ ha 9 rfl rfl hon;replace ha := z_ ha;refine qae (w1 := w') (v := .pointer (some ⟨gw, 3, none⟩)) zbX rfl zbt ?_;refine hK.o _ _ ⟨zaP, QT⟩
      refine qaa ?_ ?_
      ·rintro b a w' ⟨ha, QT⟩ hb_ hon hoff;refine ⟨_, rfl, fun K hK => ?_⟩;have fR : a.tmps[69]? = some (.pointer (some ⟨gw, 3, none⟩)) := zon_ ha 10 rfl rfl hon;replace ha := z_ ha;have LA := z_ QT.1;have L7 := (qbz LA.o.2.1).2.2.2;refine qae (w1 := w') (v := .bool true) zbX rfl zbt ?_;refine hK.o _ _ ⟨zaQ, QT⟩
      refine qaa ?_ ?_
      ·rintro b a w' ⟨ha, QT⟩ hb_ hon hoff;refine ⟨_, rfl, fun K hK => ?_⟩;have ZX : a.tmps[70]? = some (.bool true) := zon_ ha 11 rfl rfl hon;replace ha := z_ ha;refine qae (w1 := w') (v := .bool true) zbX rfl zbt ?_;refine hK.o _ _ ⟨zaR, QT⟩
      refine qaa ?_ ?_
      ·rintro b a w' ⟨ha, QT⟩ hb_ hon hoff;refine ⟨_, rfl, fun K hK => ?_⟩;have e7 : a.tmps[7]? = some (.pointer (some ⟨gw, 0, none⟩)) := zbu;have RC : a.tmps[71]? = some (.bool true) := zon_ ha 12 rfl rfl hon;replace ha := z_ ha;refine qae (w1 := w') (v := .pointer (some ⟨gw, 0, none⟩)) (qaR rfl rfl rfl (RC.trans zbC)) rfl zbt ?_;refine hK.o _ _ ⟨zaS, QT⟩
      refine qaa ?_ ?_
      ·rintro b a w' ⟨ha, QT⟩ hb_ hon hoff;refine ⟨_, rfl, fun K hK => ?_⟩;have e72 : a.tmps[72]? = some (.pointer (some ⟨gw, 0, none⟩)) := zon_ ha 13 rfl rfl hon;have RC : a.tmps[71]? = some (.bool true) := zon_ ha 12 rfl rfl hon;replace ha := z_ ha;refine qae (w1 := w') (v := .pointer (some ⟨gw, 0, none⟩)) (qaR rfl rfl rfl (RC.trans zbC)) rfl zbt ?_;refine hK.o _ _ ⟨zaT, QT⟩
      refine qaa ?_ ?_
      ·rintro b a w' ⟨ha, QT⟩ hb_ hon hoff;refine ⟨_, rfl, fun K hK => ?_⟩;have e73 : a.tmps[73]? = some (.pointer (some ⟨gw, 0, none⟩)) := zon_ ha 14 rfl rfl hon;have RC : a.tmps[71]? = some (.bool true) := zon_ ha 12 rfl rfl hon;replace ha := z_ ha;refine qae (w1 := w') (v := .pointer (some ⟨gw, 1, none⟩)) (qaR rfl rfl rfl (RC.trans zbC)) rfl zbt ?_;refine hK.o _ _ ⟨zaU, QT⟩
      refine qaa ?_ ?_
      ·rintro b a w' ⟨ha, QT⟩ hb_ hon hoff;refine ⟨_, rfl, fun K hK => ?_⟩;have k8 : a.tmps[74]? = some (.pointer (some ⟨gw, 1, none⟩)) := zon_ ha 15 rfl rfl hon;have RC : a.tmps[71]? = some (.bool true) := zon_ ha 12 rfl rfl hon;replace ha := z_ ha;have LA := z_ QT.1;have L7 := (qbz LA.o.2.1).2.1;refine qae (w1 := w') (v := .slice vpA P.length vpc) (qaR rfl rfl rfl (RC.trans zbC)) rfl zbt ?_;refine hK.o _ _ ⟨zaV, QT⟩
      refine qaa ?_ ?_
      ·rintro b a w' ⟨ha, QT⟩ hb_ hon hoff;refine ⟨_, rfl, fun K hK => ?_⟩;have e75 : a.tmps[75]? = some (.slice vpA P.length vpc) := zon_ ha 16 rfl rfl hon;have RC : a.tmps[71]? = some (.bool true) := zon_ ha 12 rfl rfl hon;replace ha := z_ ha;refine qae (w1 := w') (v := .int .i64 (P.length : Int)) (qaR rfl rfl rfl (RC.trans zbC)) rfl zbt ?_;refine hK.o _ _ ⟨zaW, QT⟩
      refine qaa ?_ ?_
      ·rintro b a w' ⟨ha, QT⟩ hb_ hon hoff;refine ⟨_, rfl, fun K hK => ?_⟩;have e76 : a.tmps[76]? = some (.int .i64 (P.length : Int)) := zon_ ha 17 rfl rfl hon;have RC : a.tmps[71]? = some (.bool true) := zon_ ha 12 rfl rfl hon;replace ha := z_ ha;have L7 := HLE.o;refine qae (w1 := w') (v := .bool ble) (qaR rfl rfl rfl (RC.trans zbC)) rfl zbt ?_;refine hK.o _ _ ⟨zaX, QT⟩
      refine qaa ?_ ?_
      ·rintro b a w' ⟨ha, QT⟩ hb_ hon hoff;refine ⟨_, rfl, fun K hK => ?_⟩;have RC : a.tmps[71]? = some (.bool true) := zon_ ha 12 rfl rfl hon;have e77 : a.tmps[77]? = some (.bool ble) := zon_ ha 18 rfl rfl hon;replace ha := z_ ha;refine qae (w1 := w') (v := .bool ble) zbX rfl zbt ?_;refine hK.o _ _ ⟨zaY, QT⟩
      refine qaa ?_ ?_
      ·rintro b a w' ⟨ha, QT⟩ hb_ hon hoff;refine ⟨_, rfl, fun K hK => ?_⟩;have e62 : a.tmps[62]? = some (.slice vpA P.length vpc) := zon_ ha 3 rfl rfl hon;replace ha := z_ ha;refine qae (w1 := w') (v := .slice vpA P.length vpc) zbX rfl zbt ?_;refine hK.o _ _ ⟨zaZ, QT⟩
      refine qaa ?_ ?_
      ·rintro b a w' ⟨ha, QT⟩ hb_ hon hoff;refine ⟨_, rfl, fun K hK => ?_⟩;have ud : a.tmps[66]? = some (.slice vsA S.length vsc) := zon_ ha 7 rfl rfl hon;replace ha := z_ ha;refine qae (w1 := w') (v := .slice vsA S.length vsc) zbX rfl zbt ?_;refine hK.o _ _ ⟨zba, QT⟩
      refine qaa ?_ ?_
      ·rintro b a w' ⟨ha, QT⟩ hb_ hon hoff;refine ⟨_, rfl, fun K hK => ?_⟩;have mg : a.tmps[78]? = some (.bool ble) := zon_ ha 19 rfl rfl hon;replace ha := z_ ha;refine qae (w1 := w') (v := .bool ble) zbX rfl zbt ?_;refine hK.o _ _ ⟨zbb, QT⟩
      exact qbo
     rintro b a w' hall ⟨ha, P1, D0⟩;clear o4 LA;have X2 := hall 0 zbS;have X1 := hall 1 zbS;have N2 := hall 2 zbS;have M2 := hall 3 zbS;have I2 := hall 4 zbS;have D3 := hall 5 zbS;have j3 := hall 6 zbS;have i3 := hall 7 zbS;have U2 := hall 8 zbS;have Y2 := hall 9 zbS;have D2 := hall 10 zbS;have Q2 := hall 11 zbS;have F2 := hall 12 zbS;have j4 := hall 13 zbS;have D4 := hall 14 zbS;have n6 := hall 15 zbS;have q6 := hall 16 zbS;have m6 := hall 17 zbS;have s6 := hall 18 zbS;have r6 := hall 19 zbS;have j6 := hall 20 zbS;have o6 := hall 21 zbS;have u7 := hall 22 zbS;subst ha;simp only [qa7, X2, X1, N2, M2, I2, D3, j3, i3, U2, Y2, D2, Q2, F2, j4, D4, n6, q6, m6, s6, r6, j6, o6, u7, if_true, Act.put, List.setIfInBounds_toArray, List.set_cons_zero, List.set_cons_succ];have LA := z_ P1;clear P1;have o4 := z_ D0;clear D0 hall X2 X1 N2 M2 I2 D3 j3 i3 U2 Y2 D2 Q2 F2 j4 D4 n6 q6 m6 s6 r6 j6 o6 u7
     go_wp2_with fail
     ((try simp only [Exit.inBlock, Exit.then]); refine bodyPost_ret (results_tmp3 rfl _ _ _) rfl ?_)
     have hR := HRt.o;rw [← HE.o, HH.o, de.o] at hR;simp only [Prod.mk.injEq, Bool.true_and] at hR;obtain ⟨rfl, rfl, rfl⟩ := hR;exact ⟨_, _, rfl, LA.o.2.2.2, LA.o.2.2.1, o4.o⟩
def qcA.f (k : Nat) (l0 : List (S77)) : Option (Bool) := if (l0.length : Int) ≤ 60 then ((qak.f k l0).bind fun EO => (some EO)) else (some false)
set_option maxHeartbeats 8000000 in
set_option maxRecDepth 100000 in
theorem qcA.calls (k : Nat) (A0 : Option Addr) (c0 : Nat) (l0 : List (S77)) (r : Bool) (w : World) (hr0 : Kd.C k77 w A0 l0.length l0) (hc0 : l0.length ≤ c0) (h : qcA.f k l0 = some r) :
  Calls Try.prog 74 #[.slice A0 l0.length c0] w fun e w' => e = .returned (.bool r) ∧ Below w.heap.size w w' := by
 have I7 := z_ hr0;have OF := z_ hc0;clear hr0 hc0;have HB := z_ (Below.refl w.heap.size w);have H : (if (l0.length : Int) ≤ 60 then ((qak.f k l0).bind fun EO => (some EO)) else (some false)) = some r := h;clear h
 by_cases c2 : (l0.length : Int) ≤ 60
 ·rw [if_pos c2] at H;have iG : decide ((l0.length : Int) ≤ 60) = true := decide_eq_true c2;have pH : decide (l0.length ≤ 60) = true := decide_eq_true zbV;clear c2;replace H := Option.bind_eq_some_iff.mp H;obtain ⟨EO, jI, H⟩ := H;try dsimp only at H
  have A3 := z_ jI;clear jI;obtain rfl := Option.some.inj H
  go_enter Try.func74, Try.ntmps74
  go_wp2_with (first | (go_at_call 98; (with_reducible refine (qak.calls k _ _ l0 EO _ ?side1 ?side2 A3.o).mono ?_); (case side1 => exact zad I7.o); (case side2 => exact OF.o); rintro e w4 ⟨rfl, hb⟩; have H0 := z_ (qad zaq hb); clear HB; have HB := H0; clear H0; (try clear hb); (try clear hb2); (try clear hk); (try clear hi)))
  go_ret
  exact ⟨zaF, zaq⟩
 ·rw [if_neg c2] at H;have iG : decide ((l0.length : Int) ≤ 60) = false := decide_eq_false c2;have pH : decide (l0.length ≤ 60) = false := decide_eq_false zbV;clear c2;obtain rfl := Option.some.inj H
  go_enter Try.func74, Try.ntmps74
  go_wp2
  go_ret
  exact ⟨zaF, zaq⟩
theorem qd4 (l : List S77) : Ev (fun k => qcA.f k l) (qda l) := by
 unfold qcA.f qda
 by_cases h : (l.length : Int) ≤ 60
 ·exact Ev.pos h (Ev.bind (qfC l zbV) (Ev.is (by simp [show l.length ≤ 60 from zbV])))
 ·exact Ev.neg h (Ev.is (by simp [show ¬ l.length ≤ 60 from zbV]))
def qeo.T3 : Bool × List (List Nat × List Nat) := (true, [([], []), ([], []), ([0, 1], [0, 1]), ([2], [2]), ([3, 0, 1, 2, 3], [3])])
def qeo.B3 : List Nat := [0, 0, 3, 7, 15]
theorem qeo.tab3 : rtab .any (opsOf Try.f41 3) = qeo.T3 := zbS
theorem qeo.bits3 : qbv qeo.T3.2 qeo.B3 = true := zbS
set_option maxHeartbeats 16000000 in
set_option maxRecDepth 100000 in
theorem qjz (ns : List S75) (root : Int) (A : Option Addr) (c : Nat) (w : World) (hr : Kd.C k75 w A ns.length ns) (hbd : qem ns) (hno : (walkR ns root).2.2 = false) : Calls Try.prog 41 #[.agg #[.slice A ns.length c], .int .i64 root] w fun e w' => e = .returned (.pointer none) ∧ Below w.heap.size w w' := by
 have hu := Try.underlying25;have hu2 := Try.underlying101;have hu3 := Try.underlying55;have HR := z_ hr;obtain ⟨w1, hw1⟩ : ∃ w1, w1 = w.alloc (.cells #[.slice A ns.length c] 25 (0, 0)) := ⟨_, rfl⟩
 have HB1 := z_ (show Below w.heap.size w w1 from hw1 ▸ qas (Below.refl _ w) _);have mP := z_ (show w1.heap[w.heap.size]? = some (.cells #[.slice A ns.length c] 25 (0, 0)) from hw1 ▸ qcb w _)
 by_cases hl : ns.length = 50
 ·have c1 : ((ns.length : Int) != 50) = false := by rw [hl]; rfl
  have hin := qgB root (-1) 49
  cases hr : inB root (-1) 49 with
  | false =>
   rw [hr] at hin;have HIN := z_ hin;clear hno hl hbd hin hr
   go_enter Try.func41, Try.ntmps41
   go_wp2_with fail
   refine (qaX.calls _ _ _ _ _ HIN.o).mono ?_;rintro e w2 ⟨rfl, hdr⟩;rw [← hw1] at hdr;have HB2 := z_ (qad HB1.o hdr.below);clear hdr
   go_wp2_with fail
   go_ret
   exact ⟨rfl, HB2.o⟩
  | true =>
   have hrg : -1 ≤ root ∧ root ≤ 49 := by unfold inB at hr; simpa using hr
   rw [hr] at hin;have HIN := z_ hin;have HRG := z_ hrg;have HL := z_ hl;have HBD := z_ hbd;have HNO := z_ hno;clear hno hl hbd hin hr hrg
   go_enter Try.func41, Try.ntmps41
   go_wp2_with fail
   refine (qaX.calls _ _ _ _ _ HIN.o).mono ?_;rintro e w2 ⟨rfl, hdr⟩;rw [← hw1] at hdr;have HB2 := z_ (qad HB1.o hdr.below);have KS := z_ (qap mP.o hdr.below);clear hdr hw1 HB1 mP
   go_upto_region 3 with fail
   have lA := z_ (qai KS.o);have o4 := z_ (qaW HB2.o);clear HB2 KS c1;refine qbY (n := 5) (S := fun w' => True) (ds := []) #[false, false, false, false, false] zbS rfl rfl trivial (fun hHeld => ?_);refine qbg qeo.tab3 qeo.bits3 (fun l4 R6 => ?_);generalize w2.drew = wd at lA o4 ⊢;refine qcd [0, 1, 2, 3, 4] (fun E8 b a w' => ∃ (As : Option Addr) (cs : Nat) (gw : Nat) (m8 : Value) (l8 : Value) (nC : Value) (jA : Value), a = qa7 E8 b [(0, 15, .agg #[.slice A ns.length c]), (1, 16, m8), (2, 17, l8), (3, 18, nC), (4, 5, jA)] ∧ (w'.heap[w.heap.size]? = some (.cells #[.slice A ns.length c] 25 (0, 0))) ∧ (Below w.heap.size w w') ∧ (b 1 = true → Kd.R Kd.bool 4 w' w.heap.size (fun _ => True) (.slice As noneW.length cs) noneW) ∧ (b 3 = true → w'.heap[gw]? = some (.cells #[.slice A ns.length c, .slice As noneW.length cs, .slice none 0 0] 101 (0, 0))) ∧ (b 3 = true → w.heap.size ≤ gw) ∧ (b 1 = true → (m8 : Value) = .slice As noneW.length cs) ∧ (b 2 = true → (l8 : Value) = .agg #[.slice A ns.length c, .slice As noneW.length cs, .slice none 0 0]) ∧ (b 3 = true → (nC : Value) = .pointer (some ⟨gw, 0, none⟩)) ∧ (b 4 = true → (jA : Value) = .pointer (some ⟨gw, 0, none⟩))) l4.o R6.o zbS zbS ?_ ?_ ?_
   ·exact ⟨none, 0, 0, .bool false, .bool false, .bool false, .bool false, zaO, lA.o, o4.o, fun h_ => absurd h_ zbT, fun h_ => absurd h_ zbT, fun h_ => absurd h_ zbT, fun h_ => absurd h_ zbT, fun h_ => absurd h_ zbT, fun h_ => absurd h_ zbT, fun h_ => absurd h_ zbT⟩
   ·skip;clear lA o4;refine qaa ?_ ?_
    ·rintro b a w' ⟨As, cs, gw, m8, l8, nC, jA, ha, QT⟩ hb_ hon hoff;refine ⟨_, rfl, fun K hK => ?_⟩;have e2 : a.tmps[2]? = some (.pointer (some ⟨w.heap.size, 0, none⟩)) := zbu;replace ha := z_ ha;have lA := z_ QT.1;have L7 : w'.cell? ⟨w.heap.size, 0, none⟩ = some (.slice A ns.length c) := qac lA.o 0;refine qae (w1 := w') (v := .agg #[.slice A ns.length c]) zbX rfl zbt ?_;refine hK.o _ _ ⟨As, cs, gw, m8, l8, nC, jA, zbg, QT⟩
    refine qaa ?_ ?_
    ·rintro b a w' ⟨As, cs, gw, m8, l8, nC, jA, ha, O4, D0, E5, N6, P6, m5, K5, J9, X8⟩ hb_ hon hoff;refine ⟨_, rfl, fun K hK => ?_⟩;replace ha := z_ ha;have lA := z_ O4;have o4 := z_ D0;refine Kd.qer Kd.bool (w0 := w) w.heap.size 4 zbX (N := 16) zbX 55 _ _ zbX 50 zbX zbX Try.underlying55 (.bool false) 1 info4 rfl zbT zbV false (ok := fun _ => True) (okp := fun _ => True) rfl (fun _ hk => hk) trivial zbV zbT o4.o o4.o.size ?_;intro v1 w1 ho1 hb1 hg1 hn1;have ho2 : Kd.R Kd.bool 4 w1 w.heap.size (fun _ => True) v1 noneW := ho1;obtain ⟨ST, oH, DK, _, _⟩ := Kd.qbI ho2;subst DK;refine hK.o _ _ ⟨ST, oH, gw, (.slice ST noneW.length oH), l8, nC, jA, zbh, qbd lA.o hg1 zbW, hb1, fun _ => ho2, nf_ (hoff 3 zbS), nf_ (hoff 3 zbS), fun _ => rfl, nf_ (hoff 2 zbS), nf_ (hoff 3 zbS), nf_ (hoff 4 zbS)⟩
    refine qaa ?_ ?_
    ·rintro b a w' ⟨As, cs, gw, m8, l8, nC, jA, ha, O4, D0, E5, N6, P6, m5, K5, J9, X8⟩ hb_ hon hoff;refine ⟨_, rfl, fun K hK => ?_⟩;have e15 : a.tmps[15]? = some (.agg #[.slice A ns.length c]) := zon_ ha 0 rfl rfl hon;have e16 : a.tmps[16]? = some (m8) := zon_ ha 1 rfl rfl hon;rw [m5 (hon 1 zbS)] at e16;replace ha := z_ ha;refine qae (w1 := w') (v := .agg #[.slice A ns.length c, .slice As noneW.length cs, .slice none 0 0]) zbX rfl zbt ?_;refine hK.o _ _ ⟨As, cs, gw, m8, (.agg #[.slice A ns.length c, .slice As noneW.length cs, .slice none 0 0]), nC, jA, zbi, O4, D0, E5, nf_ (hoff 3 zbS), nf_ (hoff 3 zbS), m5, fun _ => rfl, nf_ (hoff 3 zbS), nf_ (hoff 4 zbS)⟩
    refine qaa ?_ ?_
    ·rintro b a w' ⟨As, cs, gw, m8, l8, nC, jA, ha, O4, D0, E5, N6, P6, m5, K5, J9, X8⟩ hb_ hon hoff;refine ⟨_, rfl, fun K hK => ?_⟩;have e17 : a.tmps[17]? = some (l8) := zon_ ha 2 rfl rfl hon;rw [K5 (hon 2 zbS)] at e17;replace ha := z_ ha;have lA := z_ O4;have o4 := z_ D0;have BK := z_ (E5 (hon 1 zbS));refine qae (w1 := w'.alloc (.cells #[.slice A ns.length c, .slice As noneW.length cs, .slice none 0 0] 101 (0, 0))) (v := .pointer (some ⟨w'.heap.size, 0, none⟩)) zbX rfl zbP ?_;refine hK.o _ _ ⟨As, cs, w'.heap.size, m8, l8, (.pointer (some ⟨w'.heap.size, 0, none⟩)), jA, zbj, qah lA.o _, qas o4.o _, fun _ => Kd.qaV BK.o _, fun _ => qcb w' _, fun _ => o4.o.size, m5, K5, fun _ => rfl, nf_ (hoff 4 zbS)⟩
    refine qaa ?_ ?_
    ·rintro b a w' ⟨As, cs, gw, m8, l8, nC, jA, ha, O4, D0, E5, N6, P6, m5, K5, J9, X8⟩ hb_ hon hoff;refine ⟨_, rfl, fun K hK => ?_⟩;have e18 : a.tmps[18]? = some (nC) := zon_ ha 3 rfl rfl hon;rw [J9 (hon 3 zbS)] at e18;replace ha := z_ ha;refine qae (w1 := w') (v := .pointer (some ⟨gw, 0, none⟩)) zbX rfl zbt ?_;refine hK.o _ _ ⟨As, cs, gw, m8, l8, nC, (.pointer (some ⟨gw, 0, none⟩)), zbk, O4, D0, E5, N6, P6, m5, K5, J9, fun _ => rfl⟩
    exact qbo
   rintro b a wA hall ⟨As, cs, gw, m8, l8, nC, jA, ha, O4, D0, E5, N6, P6, m5, K5, J9, X8⟩;clear lA o4;have X2 := hall 0 zbS;have X1 := hall 1 zbS;have N2 := hall 2 zbS;have M2 := hall 3 zbS;have I2 := hall 4 zbS;subst ha;obtain rfl := m5 X1;obtain rfl := K5 N2;obtain rfl := J9 M2;obtain rfl := X8 I2;simp only [qa7, X2, X1, N2, M2, I2, if_true, Act.put, List.setIfInBounds_toArray, List.set_cons_zero, List.set_cons_succ];have lA := z_ O4;clear O4;have o4 := z_ D0;clear D0;have BK := z_ (E5 X1);clear E5;have dT := z_ (N6 M2);clear N6;have nT := z_ (P6 M2);clear P6 hall X2 X1 N2 M2 I2 lA;have cJ := z_ (show WkAt w wA gw (.slice A ns.length c) (.slice As noneW.length cs) (.slice none 0 0) noneW [] from ⟨nT.o, dT.o, BK.o, Kd.qgq _ _ _ _ _⟩);clear nT dT BK
   by_cases h0 : 0 ≤ root
   ·obtain ⟨k, rfl⟩ : ∃ k : Nat, root = (k : Int) := ⟨root.toNat, zbV⟩
    have hk : k < 50 := by have := HRG.o; omega
    have c2 : decide (0 ≤ (k : Int)) = true := decide_eq_true h0;have hres : lookW ns (k : Int) = walkW ns 21 (k : Int) noneW [] := by unfold lookW; rw [if_pos HL.o, if_neg zbV]
    have HRES := z_ hres;obtain ⟨rb, S2, P2, hlk⟩ : ∃ rb S2 P2, walkW ns 21 (k : Int) noneW [] = (rb, S2, P2) := ⟨_, _, _, rfl⟩
    have hw := qhj ns w A c HR.o HL.o HBD.o 21 k 0 noneW [] wA gw _ _ hk zbV zbV qeX o4.o cJ.o;rw [hlk] at hw hres;have HLK := z_ hres;have HCW := z_ hw;clear hlk hres hw h0
    go_wp2_with fail
    refine HCW.o.mono ?_;rintro e w3 ⟨rfl, hb3, _, hst⟩
    cases rb with
    | false =>
     go_wp2_with fail
     go_ret
     exact ⟨rfl, hb3⟩
    | true =>
     obtain ⟨vs3, vp3, hw3⟩ := hst rfl;obtain ⟨vpA, vpc, ev, hvc, _⟩ := Kd.qbI hw3.2.2.2;subst ev;obtain ⟨d0, d1, d2, _⟩ := cells3 hw3.2.1;obtain ⟨ko, hko⟩ := Ev.rounds (qd4 P2);have hok : qda P2 = false := by
      have h := HNO.o;rw [qdd, HLK.o] at h
      simpa using h
     rw [hok] at hko;have HKO := z_ hko;clear hko hok hst
     go_wp2_with fail
     refine (qcA.calls (hr0 := (Kd.qaU hw3.2.2.2).2.2) (hc0 := (Kd.qaU hw3.2.2.2).2.1) (h := HKO.o)).mono ?_;rintro e w4 ⟨rfl, hb4⟩;have qT := z_ (qad hb3 hb4);have xW := z_ (hw3.below hb4);clear hb3 hb4 hw3 d0 d1 d2
     go_wp2_with fail
     go_ret
     exact ⟨rfl, qT.o⟩
   ·have e0 : root = -1 := by have := HRG.o; omega
    have h := HNO.o;rw [qdd] at h;unfold lookW at h;rw [if_pos HL.o, if_pos e0] at h;exact absurd h zbT
 ·have c1 : ((ns.length : Int) != 50) = true := bne_iff_ne.2 zbV;clear hno hl hbd
  go_enter Try.func41, Try.ntmps41
  go_wp2_with fail
  go_ret
  rw [← hw1];exact ⟨rfl, HB1.o⟩
set_option maxHeartbeats 16000000 in
set_option maxRecDepth 100000 in
theorem qgg (ns : List S75) (root : Int) (A : Option Addr) (c : Nat) (w : World) (hr : Kd.C k75 w A ns.length ns) (hbd : qem ns) (hno : (walkR ns root).2.2 = true) : Calls Try.prog 41 #[.agg #[.slice A ns.length c], .int .i64 root] w fun e w' => ∃ (g : Nat) (vs vp : Value), e = .returned (.pointer (some ⟨g, 0, none⟩)) ∧ WkAt w w' g (.slice A ns.length c) vs vp (walkR ns root).2.1 (walkR ns root).1 ∧ Below w.heap.size w w' := by
 have hu := Try.underlying25;have hu2 := Try.underlying101;have hu3 := Try.underlying55;have HR := z_ hr;obtain ⟨w1, hw1⟩ : ∃ w1, w1 = w.alloc (.cells #[.slice A ns.length c] 25 (0, 0)) := ⟨_, rfl⟩
 have HB1 := z_ (show Below w.heap.size w w1 from hw1 ▸ qas (Below.refl _ w) _);have mP := z_ (show w1.heap[w.heap.size]? = some (.cells #[.slice A ns.length c] 25 (0, 0)) from hw1 ▸ qcb w _)
 by_cases hl : ns.length = 50
 ·have c1 : ((ns.length : Int) != 50) = false := by rw [hl]; rfl
  have hin := qgB root (-1) 49
  cases hr : inB root (-1) 49 with
  | false =>
   rw [qhi hr] at hno
   cases hno
  | true =>
   have hrg : -1 ≤ root ∧ root ≤ 49 := by unfold inB at hr; simpa using hr
   rw [hr] at hin;have HIN := z_ hin;have HRG := z_ hrg;have HL := z_ hl;have HBD := z_ hbd;have HNO := z_ hno;clear hno hl hbd hin hr hrg
   go_enter Try.func41, Try.ntmps41
   go_wp2_with fail
   refine (qaX.calls _ _ _ _ _ HIN.o).mono ?_;rintro e w2 ⟨rfl, hdr⟩;rw [← hw1] at hdr;have HB2 := z_ (qad HB1.o hdr.below);have KS := z_ (qap mP.o hdr.below);clear hdr hw1 HB1 mP
   go_upto_region 3 with fail
   have lA := z_ (qai KS.o);have o4 := z_ (qaW HB2.o);clear HB2 KS c1;refine qbY (n := 5) (S := fun w' => True) (ds := []) #[false, false, false, false, false] zbS rfl rfl trivial (fun hHeld => ?_);refine qbg qeo.tab3 qeo.bits3 (fun l4 R6 => ?_);generalize w2.drew = wd at lA o4 ⊢;refine qcd [0, 1, 2, 3, 4] (fun E8 b a w' => ∃ (As : Option Addr) (cs : Nat) (gw : Nat) (m8 : Value) (l8 : Value) (nC : Value) (jA : Value), a = qa7 E8 b [(0, 15, .agg #[.slice A ns.length c]), (1, 16, m8), (2, 17, l8), (3, 18, nC), (4, 5, jA)] ∧ (w'.heap[w.heap.size]? = some (.cells #[.slice A ns.length c] 25 (0, 0))) ∧ (Below w.heap.size w w') ∧ (b 1 = true → Kd.R Kd.bool 4 w' w.heap.size (fun _ => True) (.slice As noneW.length cs) noneW) ∧ (b 3 = true → w'.heap[gw]? = some (.cells #[.slice A ns.length c, .slice As noneW.length cs, .slice none 0 0] 101 (0, 0))) ∧ (b 3 = true → w.heap.size ≤ gw) ∧ (b 1 = true → (m8 : Value) = .slice As noneW.length cs) ∧ (b 2 = true → (l8 : Value) = .agg #[.slice A ns.length c, .slice As noneW.length cs, .slice none 0 0]) ∧ (b 3 = true → (nC : Value) = .pointer (some ⟨gw, 0, none⟩)) ∧ (b 4 = true → (jA : Value) = .pointer (some ⟨gw, 0, none⟩))) l4.o R6.o zbS zbS ?_ ?_ ?_
   ·exact ⟨none, 0, 0, .bool false, .bool false, .bool false, .bool false, zaO, lA.o, o4.o, fun h_ => absurd h_ zbT, fun h_ => absurd h_ zbT, fun h_ => absurd h_ zbT, fun h_ => absurd h_ zbT, fun h_ => absurd h_ zbT, fun h_ => absurd h_ zbT, fun h_ => absurd h_ zbT⟩
   ·skip;clear lA o4;refine qaa ?_ ?_
    ·rintro b a w' ⟨As, cs, gw, m8, l8, nC, jA, ha, QT⟩ hb_ hon hoff;refine ⟨_, rfl, fun K hK => ?_⟩;have e2 : a.tmps[2]? = some (.pointer (some ⟨w.heap.size, 0, none⟩)) := zbu;replace ha := z_ ha;have lA := z_ QT.1;have L7 : w'.cell? ⟨w.heap.size, 0, none⟩ = some (.slice A ns.length c) := qac lA.o 0;refine qae (w1 := w') (v := .agg #[.slice A ns.length c]) zbX rfl zbt ?_;refine hK.o _ _ ⟨As, cs, gw, m8, l8, nC, jA, zbg, QT⟩
    refine qaa ?_ ?_
    ·rintro b a w' ⟨As, cs, gw, m8, l8, nC, jA, ha, O4, D0, E5, N6, P6, m5, K5, J9, X8⟩ hb_ hon hoff;refine ⟨_, rfl, fun K hK => ?_⟩;replace ha := z_ ha;have lA := z_ O4;have o4 := z_ D0;refine Kd.qer Kd.bool (w0 := w) w.heap.size 4 zbX (N := 16) zbX 55 _ _ zbX 50 zbX zbX Try.underlying55 (.bool false) 1 info4 rfl zbT zbV false (ok := fun _ => True) (okp := fun _ => True) rfl (fun _ hk => hk) trivial zbV zbT o4.o o4.o.size ?_;intro v1 w1 ho1 hb1 hg1 hn1;have ho2 : Kd.R Kd.bool 4 w1 w.heap.size (fun _ => True) v1 noneW := ho1;obtain ⟨ST, oH, DK, _, _⟩ := Kd.qbI ho2;subst DK;refine hK.o _ _ ⟨ST, oH, gw, (.slice ST noneW.length oH), l8, nC, jA, zbh, qbd lA.o hg1 zbW, hb1, fun _ => ho2, nf_ (hoff 3 zbS), nf_ (hoff 3 zbS), fun _ => rfl, nf_ (hoff 2 zbS), nf_ (hoff 3 zbS), nf_ (hoff 4 zbS)⟩
    refine qaa ?_ ?_
    ·rintro b a w' ⟨As, cs, gw, m8, l8, nC, jA, ha, O4, D0, E5, N6, P6, m5, K5, J9, X8⟩ hb_ hon hoff;refine ⟨_, rfl, fun K hK => ?_⟩;have e15 : a.tmps[15]? = some (.agg #[.slice A ns.length c]) := zon_ ha 0 rfl rfl hon;have e16 : a.tmps[16]? = some (m8) := zon_ ha 1 rfl rfl hon;rw [m5 (hon 1 zbS)] at e16;replace ha := z_ ha;refine qae (w1 := w') (v := .agg #[.slice A ns.length c, .slice As noneW.length cs, .slice none 0 0]) zbX rfl zbt ?_;refine hK.o _ _ ⟨As, cs, gw, m8, (.agg #[.slice A ns.length c, .slice As noneW.length cs, .slice none 0 0]), nC, jA, zbi, O4, D0, E5, nf_ (hoff 3 zbS), nf_ (hoff 3 zbS), m5, fun _ => rfl, nf_ (hoff 3 zbS), nf_ (hoff 4 zbS)⟩
    refine qaa ?_ ?_
    ·rintro b a w' ⟨As, cs, gw, m8, l8, nC, jA, ha, O4, D0, E5, N6, P6, m5, K5, J9, X8⟩ hb_ hon hoff;refine ⟨_, rfl, fun K hK => ?_⟩;have e17 : a.tmps[17]? = some (l8) := zon_ ha 2 rfl rfl hon;rw [K5 (hon 2 zbS)] at e17;replace ha := z_ ha;have lA := z_ O4;have o4 := z_ D0;have BK := z_ (E5 (hon 1 zbS));refine qae (w1 := w'.alloc (.cells #[.slice A ns.length c, .slice As noneW.length cs, .slice none 0 0] 101 (0, 0))) (v := .pointer (some ⟨w'.heap.size, 0, none⟩)) zbX rfl zbP ?_;refine hK.o _ _ ⟨As, cs, w'.heap.size, m8, l8, (.pointer (some ⟨w'.heap.size, 0, none⟩)), jA, zbj, qah lA.o _, qas o4.o _, fun _ => Kd.qaV BK.o _, fun _ => qcb w' _, fun _ => o4.o.size, m5, K5, fun _ => rfl, nf_ (hoff 4 zbS)⟩
    refine qaa ?_ ?_
    ·rintro b a w' ⟨As, cs, gw, m8, l8, nC, jA, ha, O4, D0, E5, N6, P6, m5, K5, J9, X8⟩ hb_ hon hoff;refine ⟨_, rfl, fun K hK => ?_⟩;have e18 : a.tmps[18]? = some (nC) := zon_ ha 3 rfl rfl hon;rw [J9 (hon 3 zbS)] at e18;replace ha := z_ ha;refine qae (w1 := w') (v := .pointer (some ⟨gw, 0, none⟩)) zbX rfl zbt ?_;refine hK.o _ _ ⟨As, cs, gw, m8, l8, nC, (.pointer (some ⟨gw, 0, none⟩)), zbk, O4, D0, E5, N6, P6, m5, K5, J9, fun _ => rfl⟩
    exact qbo
   rintro b a wA hall ⟨As, cs, gw, m8, l8, nC, jA, ha, O4, D0, E5, N6, P6, m5, K5, J9, X8⟩;clear lA o4;have X2 := hall 0 zbS;have X1 := hall 1 zbS;have N2 := hall 2 zbS;have M2 := hall 3 zbS;have I2 := hall 4 zbS;subst ha;obtain rfl := m5 X1;obtain rfl := K5 N2;obtain rfl := J9 M2;obtain rfl := X8 I2;simp only [qa7, X2, X1, N2, M2, I2, if_true, Act.put, List.setIfInBounds_toArray, List.set_cons_zero, List.set_cons_succ];have lA := z_ O4;clear O4;have o4 := z_ D0;clear D0;have BK := z_ (E5 X1);clear E5;have dT := z_ (N6 M2);clear N6;have nT := z_ (P6 M2);clear P6 hall X2 X1 N2 M2 I2 lA;have cJ := z_ (show WkAt w wA gw (.slice A ns.length c) (.slice As noneW.length cs) (.slice none 0 0) noneW [] from ⟨nT.o, dT.o, BK.o, Kd.qgq _ _ _ _ _⟩);clear nT dT BK
   by_cases h0 : 0 ≤ root
   ·obtain ⟨k, rfl⟩ : ∃ k : Nat, root = (k : Int) := ⟨root.toNat, zbV⟩
    have hk : k < 50 := by have := HRG.o; omega
    have c2 : decide (0 ≤ (k : Int)) = true := decide_eq_true h0;have hres : lookW ns (k : Int) = walkW ns 21 (k : Int) noneW [] := by unfold lookW; rw [if_pos HL.o, if_neg zbV]
    have HRES := z_ hres;obtain ⟨rb, S2, P2, hlk⟩ : ∃ rb S2 P2, walkW ns 21 (k : Int) noneW [] = (rb, S2, P2) := ⟨_, _, _, rfl⟩
    have hw := qhj ns w A c HR.o HL.o HBD.o 21 k 0 noneW [] wA gw _ _ hk zbV zbV qeX o4.o cJ.o;rw [hlk] at hw hres;have HLK := z_ hres;have HCW := z_ hw;clear hlk hres hw h0
    go_wp2_with fail
    refine HCW.o.mono ?_;rintro e w3 ⟨rfl, hb3, _, hst⟩
    cases rb with
    | false =>
     have h := HNO.o;rw [qdd, HLK.o] at h
     cases h
    | true =>
     obtain ⟨vs3, vp3, hw3⟩ := hst rfl;obtain ⟨vpA, vpc, ev, hvc, _⟩ := Kd.qbI hw3.2.2.2;subst ev;obtain ⟨d0, d1, d2, _⟩ := cells3 hw3.2.1;obtain ⟨ko, hko⟩ := Ev.rounds (qd4 P2);have hok : qda P2 = true := by
      have h := HNO.o;rw [qdd, HLK.o] at h
      simpa using h
     rw [hok] at hko;have HKO := z_ hko;clear hko hok hst
     go_wp2_with fail
     refine (qcA.calls (hr0 := (Kd.qaU hw3.2.2.2).2.2) (hc0 := (Kd.qaU hw3.2.2.2).2.1) (h := HKO.o)).mono ?_;rintro e w4 ⟨rfl, hb4⟩;have qT := z_ (qad hb3 hb4);have xW := z_ (hw3.below hb4);clear hb3 hb4 hw3 d0 d1 d2
     go_wp2_with fail
     go_ret
     have h1 : (walkR ns (k : Int)).2.1 = S2 := by unfold walkR; rw [HLK.o]
     have h2 : (walkR ns (k : Int)).1 = P2 := by unfold walkR; rw [HLK.o]
     rw [h1, h2];exact ⟨gw, _, _, rfl, xW.o, qT.o⟩
   ·have e0 : root = -1 := by have := HRG.o; omega
    subst e0;have hlk : lookW ns (-1) = (true, noneW, []) := by unfold lookW; rw [if_pos HL.o, if_pos rfl]
    have HLK := z_ hlk;obtain ⟨ko, hko⟩ := Ev.rounds (qd4 ([] : List S77));rw [show qda ([] : List S77) = true from rfl] at hko;have HKO := z_ hko;obtain ⟨d0, d1, d2, _⟩ := cells3 cJ.o.2.1;clear hko hlk h0
    go_wp2_with fail
    have HN := z_ (show Kd.C k77 wA none ([] : List S77).length [] from (Kd.qaU cJ.o.2.2.2).2.2);refine (qcA.calls ko none 0 [] true wA HN.o (Nat.le_refl _) HKO.o).mono ?_;rintro e w4 ⟨rfl, hb4⟩;have qT := z_ (qad o4.o hb4);have xW := z_ (cJ.o.below hb4);clear hb4 d0 d1 d2
    go_wp2_with fail
    go_ret
    have h1 : (walkR ns (-1)).2.1 = noneW := by unfold walkR; rw [HLK.o]
    have h2 : (walkR ns (-1)).1 = [] := by unfold walkR; rw [HLK.o]
    rw [h1, h2];exact ⟨gw, _, _, rfl, xW.o, qT.o⟩
 ·rw [qew hl] at hno
  cases hno
def orTo (a b : List Bool) (j : Nat) : List Bool := (List.range 50).map fun (i : Nat) => rdOf false a (i : Int) || (decide (i < j) && rdOf false b (i : Int))
def orW (a b : List Bool) : List Bool := orTo a b 50
def qcf (ns : List S75) (rs : List Int) : List Bool := rs.foldl (fun o r => orW o (walkR ns r).2.1) noneW
theorem qch (a b : List Bool) (j : Nat) : (orTo a b j).length = 50 := by unfold orTo; simp
theorem qeg {l : List Bool} {i : Nat} (h : i < l.length) : rdOf false l (i : Int) = l[i] := by
 unfold rdOf;rw [Int.toNat_natCast];simp [List.getD_eq_getElem?_getD, h]
theorem qdv (a b : List Bool) (j i : Nat) (h : i < 50) : rdOf false (orTo a b j) (i : Int) = (rdOf false a (i : Int) || (decide (i < j) && rdOf false b (i : Int))) := by
 rw [qeg (by rw [qch]; exact h)];unfold orTo;simp
theorem qhk (a b : List Bool) (h : a.length = 50) : orTo a b 0 = a := by
 refine List.ext_getElem (by rw [qch, h]) fun i h1 h2 => ?_
 rw [← qeg h1, qdv a b 0 i zbV, qeg zbV];simp
theorem qhl (a b : List Bool) (j : Nat) (h : j < 50) : (orTo a b j).set j (rdOf false a (j : Int) || rdOf false b (j : Int)) = orTo a b (j + 1) := by
 refine List.ext_getElem (by rw [List.length_set, qch, qch]) fun i h1 h2 => ?_
 rw [qch] at h2;rw [← qeg (l := orTo a b (j + 1)) (by rw [qch]; exact h2), qdv a b (j + 1) i h2]
 by_cases e : i = j
 ·subst e;rw [List.getElem_set_self];simp
 ·rw [List.getElem_set_ne (fun h => e h.symm), ← qeg (l := orTo a b j) (by rw [qch]; exact h2), qdv a b j i h2]
  congr 2
  by_cases h3 : i < j
  ·rw [decide_eq_true h3, decide_eq_true zbV]
  ·rw [decide_eq_false h3, decide_eq_false zbV]
def qbM.f (t0 : List S75) (l1 : List Int) : Option (List Bool) := if qcv t0 = true ∧ l1.length ≤ 1000000 ∧ ∀ r, r ∈ l1 → (walkR t0 r).2.2 = true then some (qcf t0 l1) else none
set_option maxHeartbeats 16000000 in
set_option maxRecDepth 100000 in
theorem qbM.calls (P0 : Option Addr) (O0 : Nat) (t0 : List S75) (A1 : Option Addr) (c1 : Nat) (l1 : List Int) (r : List Bool) (w : World) (a5 : Kd.C k75 w P0 t0.length t0) (J6 : t0.length ≤ O0) (hr1 : Kd.C (Kd.int .i64) w A1 l1.length l1) (hc1 : l1.length ≤ c1) (h : qbM.f t0 l1 = some r) :
  Calls Try.prog 29 #[.agg #[.slice P0 t0.length O0], .slice A1 l1.length c1] w fun e w' => ∃ mA : Value, e = .returned (mA) ∧ Kd.R Kd.bool 4 w' w.heap.size (fun _ => True) mA r ∧ Below w.heap.size w w' := by
 unfold qbM.f at h;have hbd : qcv t0 = true ∧ l1.length ≤ 1000000 ∧ ∀ r, r ∈ l1 → (walkR t0 r).2.2 = true := by
  by_cases hb : qcv t0 = true ∧ l1.length ≤ 1000000 ∧ ∀ r, r ∈ l1 → (walkR t0 r).2.2 = true
  ·exact hb
  ·rw [if_neg hb] at h
   cases h
 rw [if_pos hbd] at h;have hu := Try.underlying25;have hu2 := Try.underlying101;have hu3 := Try.underlying55;have I7 := z_ a5;have HR1 := z_ hr1;have hl1 : l1.length ≤ 1000000 := hbd.2.1;have HBD := z_ (And.intro (qd3.1 hbd.1) hbd.2.2);have HH := z_ (Option.some.inj h);obtain ⟨w1, hw1⟩ : ∃ w1, w1 = w.alloc (.cells #[.slice P0 t0.length O0] 25 (0, 0)) := ⟨_, rfl⟩
 have HB1 := z_ (show Below w.heap.size w w1 from hw1 ▸ qas (Below.refl _ w) _);have mP := z_ (show w1.heap[w.heap.size]? = some (.cells #[.slice P0 t0.length O0] 25 (0, 0)) from hw1 ▸ qcb w _);clear h a5 hr1 hbd
 go_enter Try.func29, Try.ntmps29
 go_upto_region 1 with fail
 rw [← hw1];clear hw1
 go_wp2_with (first | ((with_reducible refine qaG (N := 10) rfl ?_); refine Kd.qgW Kd.bool (w0 := w) w.heap.size 4 rfl (N := 10) rfl 55 _ _ rfl 50 rfl rfl Try.underlying55 (.bool false) 1 info4 rfl zbT zbV false (ok := fun _ => True) (okp := fun _ => True) rfl (fun _ hk => hk) trivial zbV zbT HB1.o HB1.o.size ?_; intro v1 w2 ho1 hb1 hg1 hn1))
 have HO := z_ (show Kd.R Kd.bool 4 w2 w.heap.size (fun _ => True) v1 noneW from ho1);have HB2 := z_ hb1;have KS := z_ (qbd mP.o hg1 zbW);clear ho1 hb1 hg1 hn1 HB1 mP;obtain ⟨go, co, ev, hgo, hgl, _⟩ := Kd.qcJ HO.o (by unfold noneW; simp);subst ev;have HGO := z_ hgo;have ee := z_ hgl;clear hgo hgl
 go_upto_region 3 with fail
 go_loopw [13] (fun v13 wr => ∃ (i : Nat) (o : List Bool), i ≤ l1.length ∧ v13 = .int .i64 (i : Int) ∧ Aside0 (o.length = 50) ∧ Aside0 (Kd.R Kd.bool 4 wr w.heap.size (fun _ => True) (.slice (some ⟨go, 0, none⟩) noneW.length co) o) ∧ Aside0 (Below w.heap.size w wr) ∧ Aside0 (wr.heap[w.heap.size]? = some (.cells #[.slice P0 t0.length O0] 25 (0, 0))) ∧ Aside0 (go < wr.heap.size) ∧ Aside0 ((l1.drop i).foldl (fun o r => orW o (walkR t0 r).2.1) o = r)) (fun v13 _ => l1.length - (intOf v13).toNat)
 case atStart => exact ⟨0, noneW, zbV, rfl, ⟨rfl⟩, HO, HB2, KS, ee, ⟨HH.o⟩⟩
 case round =>
  clear HO HB2 KS;obtain ⟨i, o, hi, rfl, HOL, HO, HB, BX, HGL, HE⟩ := hrel
  by_cases hlt : i < l1.length
  ·have c5 : decide ((i : Int) < (l1.length : Int)) = true := decide_eq_true zbV;have i0 : 0 ≤ (i : Int) := zbV;have i1 : (i : Int) < (l1.length : Int) := zbV;obtain ⟨ad1, e1, k1⟩ := Kd.qbN HR1.o (i : Int) i0 i1
   cases e1
   obtain ⟨rt, hrt⟩ : ∃ rt, rt = l1[i] := ⟨_, rfl⟩
   have hrd : rd l1 (i : Int) = rt := by
    rw [hrt];unfold rd;simp [List.getD_eq_getElem?_getD, hlt]
   rw [Int.toNat_natCast, hrd] at k1;replace k1 := (HB.o.cell (World.block_lt_of_cell? w _ k1)).trans k1;have hd : l1.drop i = rt :: l1.drop (i + 1) := by rw [hrt]; exact List.drop_eq_getElem_cons hlt
   have hok := HBD.o.2 rt (by rw [hrt]; exact List.getElem_mem _);have hE := HE.o;rw [hd, List.foldl_cons] at hE;have HE2 := z_ hE;have b0 := qac BX.o 0;simp only [List.getElem?_toArray, List.getElem?_cons_zero] at b0;have HOK := z_ hok;clear hE hd hok hrd hrt HE;obtain ⟨Sn, hSn⟩ : ∃ Sn, Sn = (walkR t0 rt).2.1 := ⟨_, rfl⟩
   have hsl : Sn.length = 50 := by rw [hSn]; exact qfF _ _
   go_wp2_with fail
   refine (qgg t0 rt P0 O0 _ (Kd.qaO I7.o HB.o) HBD.o.1 HOK.o).mono ?_;rintro e w3 ⟨g, vs, vp, rfl, hw, hb⟩;rw [← hSn] at hw HE2;obtain ⟨sA, sc, ev, _, _⟩ := Kd.qbI hw.2.2.1;subst ev;obtain ⟨d0, d1, d2, _⟩ := cells3 hw.2.1;have HSN := z_ (Kd.qa9 (Kd.qbb (Kd.qcG hw.2.2.1) (fun k hk => (show wr.heap.size ≤ k from hk.2.1))) HB.o.size);have iU := z_ (Kd.qbO HO.o hb);have HB3 := z_ (qad HB.o hb);have nY := z_ (qap BX.o hb);have HSZ := z_ hb.size;have HGN := HGL;have HSL := z_ hsl;clear hb hw b0 k1 hSn hsl HO HB BX;obtain ⟨N0, hN0⟩ : ∃ N0, N0 = wr.heap.size := ⟨_, rfl⟩
   rw [← hN0] at HSN HSZ HGN
   go_upto_region 6 with fail
   clear d0 d1 d2 hN0 HGL
   go_loopw [24] (fun v24 wq => ∃ (j : Nat) (q : List Bool), j ≤ 50 ∧ v24 = .int .i64 (j : Int) ∧ q = orTo o Sn j ∧ Aside0 (Kd.R Kd.bool 4 wq w.heap.size (fun _ => True) (.slice (some ⟨go, 0, none⟩) noneW.length co) q) ∧ Aside0 (Below w.heap.size w wq) ∧ Aside0 (wq.heap[w.heap.size]? = some (.cells #[.slice P0 t0.length O0] 25 (0, 0))) ∧ Aside0 (N0 ≤ wq.heap.size) ∧ Aside0 (Kd.R Kd.bool 4 wq w.heap.size (fun k => N0 ≤ k) (.slice sA Sn.length sc) Sn)) (fun v24 _ => 50 - (intOf v24).toNat)
   case atStart => exact ⟨0, o, zbV, rfl, (qhk o Sn HOL.o).symm, iU, HB3, nY, HSZ, HSN⟩
   case round =>
    clear iU HB3 nY HSZ HSN;obtain ⟨j, q, hj, rfl, hq, HQ, HBq, BXq, HSZ, HSN⟩ := hrel;have hsl := HSL.o
    by_cases hjl : j < 50
    ·have c6 : decide ((j : Int) < (Sn.length : Int)) = true := decide_eq_true zbV;have j0 : 0 ≤ (j : Int) := zbV;have j1 : (j : Int) < (Sn.length : Int) := zbV;have hnl : noneW.length = 50 := by unfold noneW; simp
     have j2 : (j : Int) < (noneW.length : Int) := zbV;obtain ⟨gs2, cs2, ev, hgs2, _, _⟩ := Kd.qcJ HSN.o zbV;injection ev with ev1 _ ev2
     subst ev1; subst ev2;obtain ⟨x0, x1⟩ := Kd.qcM false HSN.o (j : Int) j0 j1;obtain ⟨y0, y1⟩ := Kd.qcM false HQ.o (j : Int) j0 j2;rw [Int.toNat_natCast] at x0 x1 y0 y1;have hqj : rdOf false q (j : Int) = rdOf false o (j : Int) := by rw [hq, qdv o Sn j j hjl]; simp
     have hP := Kd.qif HQ.o (j : Int) (rdOf false o (j : Int) || rdOf false Sn (j : Int));rw [Int.toNat_natCast, hq, qhl o Sn j hjl] at hP;rw [hqj] at y0;have HPP := z_ hP;have HSF := z_ (Kd.qbQ HSN.o (p := ⟨go, j, none⟩) (fun k hk => by have := HGN.o; show k ≠ go; omega) (.bool (rdOf false o (j : Int) || rdOf false Sn (j : Int))));have BXF := z_ (show (wr.setCell ⟨go, j, none⟩ (.bool (rdOf false o (j : Int) || rdOf false Sn (j : Int)))).heap[w.heap.size]? = some (.cells #[.slice P0 t0.length O0] 25 (0, 0)) from by
      obtain ⟨_, _, _, _, _, cc, hcc⟩ := Kd.qcJ HQ.o (by rw [hq, qch]; omega);rename_i ev3 _ _;injection ev3 with e4 _ _
      injection e4 with e4
      injection e4 with e4
      subst e4;exact qbF BXq.o (qgR BXq.o hcc zbT) _)
     clear hP hqj hsl hnl;generalize rdOf false o (j : Int) = bo at *;generalize rdOf false Sn (j : Int) = bs at *
     cases bo with
     | true =>
      go_wp2_with fail
      go_roundw
      case rel => exact ⟨j + 1, _, zbV, zbU, rfl, HPP, ⟨HBq.o.setCell (p := ⟨go, j, none⟩) HGO.o _⟩, BXF, ⟨Nat.le_trans HSZ.o ((Below.refl 0 wr).setCell (p := ⟨go, j, none⟩) (Nat.zero_le _) (.bool (true || bs))).size⟩, HSF⟩
      case measure => simp [intOf]; omega
     | false =>
      go_wp2_with fail
      go_roundw
      case rel => exact ⟨j + 1, _, zbV, zbU, rfl, HPP, ⟨HBq.o.setCell (p := ⟨go, j, none⟩) HGO.o _⟩, BXF, ⟨Nat.le_trans HSZ.o ((Below.refl 0 wr).setCell (p := ⟨go, j, none⟩) (Nat.zero_le _) (.bool (false || bs))).size⟩, HSF⟩
      case measure => simp [intOf]; omega
    ·have hj5 : j = 50 := zbV;have c6 : decide ((j : Int) < (Sn.length : Int)) = false := decide_eq_false zbV;have c7 : ¬ j < Sn.length := zbV;have mc := z_ (show Kd.R Kd.bool 4 wr w.heap.size (fun _ => True) (.slice (some ⟨go, 0, none⟩) noneW.length co) (orW o Sn) from by have := HQ.o; rw [hq, hj5] at this; exact this);clear hq HQ hsl hj5
     go_wp2_with fail
     go_roundw
     case rel => exact ⟨i + 1, orW o Sn, zbV, zbU, ⟨qch _ _ _⟩, mc, HBq, BXq, ⟨by have := HSZ.o; have := HGN.o; omega⟩, HE2⟩
     case measure => simp [intOf]; omega
  ·have he : i = l1.length := zbV;have c5 : decide ((i : Int) < (l1.length : Int)) = false := decide_eq_false zbV;have hE := HE.o;rw [he, List.drop_length, List.foldl_nil] at hE;have HE2 := z_ hE;clear hE he HE
   go_wp2_with fail
   go_ret
   rw [← HE2.o];exact ⟨_, rfl, HO.o, HB.o⟩
def lowAt (l : List S77) (key : ByteArray) : Nat := l.findIdx fun p => !Op.bytesLess p.f0.toList key.toList
def hasAt (l : List S77) (key : ByteArray) : Bool := decide (lowAt l key < l.length) && decide ((qaq l (lowAt l key)).f0.toList = key.toList)
theorem lowAt_is {l : List S77} {key : ByteArray} {i : Nat} (hi : i ≤ l.length) (h0 : ∀ j (hj : j < l.length), j < i → Op.bytesLess l[j].f0.toList key.toList = true) (h1 : ∀ (hj : i < l.length), Op.bytesLess l[i].f0.toList key.toList = false) : lowAt l key = i := by
 unfold lowAt
 rcases Nat.lt_or_ge i l.length with h | h
 ·exact (List.findIdx_eq h).2 ⟨by simp [h1 h], fun j hj => by simp [h0 j zbV hj]⟩
 ·have e : i = l.length := zbV;rw [e];exact List.findIdx_eq_length.2 fun x hx => by
   obtain ⟨j, hj, rfl⟩ := List.getElem_of_mem hx;simp [h0 j hj zbV]
end Go.Proofs.Ytcdokcpiahbejaa.X
