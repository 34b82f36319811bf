import Derived.Test.YtcdokcpiahbejaaGreatKFnExactTreeDrop4
set_option maxRecDepth 100000
set_option maxHeartbeats 16000000
set_option linter.unusedVariables false
set_option linter.unusedSimpArgs false
namespace Go.Proofs.YtcdokcpiahbejaaGreat.X
open Go.RowKit Go.Proofs.PW Go.Proofs.PL Go.Proofs.PM
attribute [local go_sem] qaj qak qal qaf qag qao qap qad qae qah qai
def sPutN.T6 : Bool × List (List Nat × List Nat) := (true, [([], []), ([0], [0]), ([1], [1]), ([2], [2]), ([3], [3]), ([], []), ([], []), ([6], [6]), ([4, 5, 0, 1, 2, 3, 4, 5, 6, 7], [4, 5]), ([8, 7, 7, 0, 1, 2, 3, 4, 5, 6, 7], [7, 8])])
def sPutN.B6 : List Nat := [0, 1, 3, 7, 15, 0, 0, 64, 255, 511]
theorem sPutN.tab6 : rtab .any (opsOf Tryz.f71 6) = sPutN.T6 := zdG
theorem sPutN.bits6 : qbW sPutN.T6.2 sPutN.B6 = true := zdG
theorem ne_tB : ∀ q, q ∈ 4 :: Kd.bool.E → q ≠ 80 := fun q hq => by
 have : q = 4 := zcw;rw [this]; decide
theorem qgp {u : List Bool} {i : Nat} (hi : i < u.length) (h0 : u.getD i false = false) (h : ∀ j, j < i → qa5 u j) : firstFree u = i := by
 unfold firstFree;refine (List.findIdx_eq hi).2 ⟨?_, fun j hj => ?_⟩
 ·rw [List.getD_eq_getElem?_getD, List.getElem?_eq_getElem hi] at h0
  simpa using h0
 ·have := h j hj;unfold qa5 at this;rw [List.getD_eq_getElem?_getD, List.getElem?_eq_getElem zdM] at this
  simpa using this
theorem qff {u : List Bool} (h : ∀ j, j < u.length → qa5 u j) : firstFree u = u.length := by
 unfold firstFree;refine List.findIdx_eq_length.2 fun x hx => ?_
 obtain ⟨j, hj, rfl⟩ := List.getElem_of_mem hx;have := h j hj;unfold qa5 at this;rw [List.getD_eq_getElem?_getD, List.getElem?_eq_getElem hj] at this
 simpa using this
theorem ne_tB2 : ∀ q, q ∈ 4 :: Kd.bool.E → q ≠ 84 := fun q hq => by
 have : q = 4 := zcw;rw [this]; decide
theorem ne_tN : ∀ q, q ∈ 80 :: k80.E → q ≠ 4 := fun q hq => by
 simp only [k80, Kd.iso, Kd.pair, Kd.bool, Kd.slice, Kd.scalar, k61, Kd.string, Kd.int, List.mem_cons, List.mem_append, List.not_mem_nil, or_false, false_or] at hq
 rcases hq with rfl | rfl | rfl | rfl <;> decide
theorem sput (w0 w : World) (g gn cn gu cu : Nat) (b : List S80 × List Bool × Bool) (hB : Below w0.heap.size w0 w) (hb : BsAt w0 w g gn cn gu cu b) (hl : b.1.length = 50 ∧ b.2.1.length = 50) (x : S80) (A1 : Option Addr) (c1 : Nat) (A2 : Option Addr) (c2 : Nat) (A3 : Option Addr) (c3 : Nat) (P : Nat → Prop) (hP : ∀ k, P k → ¬ S3 g gn gu k) (f1 : Kd.F k61 w P A1 x.f1.length x.f1) (l1 : x.f1.length ≤ c1) (f2 : Kd.F Kd.string w P A2 x.f2.length x.f2) (l2 : x.f2.length ≤ c2) (f3 : Kd.F (Kd.int .i64) w P A3 x.f3.length x.f3) (l3 : x.f3.length ≤ c3) (hx : x.f1.length ≤ 1000000 ∧ x.f2.length ≤ 1000000 ∧ x.f3.length ≤ 1000000) :
  Calls Tryz.prog 71 #[.pointer (some ⟨g, 0, none⟩), .agg #[.bool x.f0, .slice A1 x.f1.length c1, .slice A2 x.f2.length c2, .slice A3 x.f3.length c3]] w fun e w' => e = .returned (.int .i64 ((layB x b).1 : Int)) ∧ BsAt w0 w' g gn cn gu cu (layB x b).2 ∧ Below w0.heap.size w0 w' ∧ Kept w w' (S3 g gn gu) := by
 have hu := Tryz.underlying84;have hu2 := Tryz.underlying80;have hu3 := Tryz.underlying29;obtain ⟨ns, us, full⟩ := b;simp only at hl;obtain ⟨o, ho⟩ : ∃ o, o = Obj.cells #[.bool x.f0, .slice A1 x.f1.length c1, .slice A2 x.f2.length c2, .slice A3 x.f3.length c3] 80 (0, 0) := ⟨_, rfl⟩
 obtain ⟨gb, hgb⟩ : ∃ gb, gb = w.heap.size := ⟨_, rfl⟩
 have HB0 := z_ (qaA hB o);have nU := z_ (hb.below (qaA (Below.refl _ _) o));have HX0 := z_ (show (w.alloc o).heap[gb]? = some (.cells #[.bool x.f0, .slice A1 x.f1.length c1, .slice A2 x.f2.length c2, .slice A3 x.f3.length c3] 80 (0, 0)) from zcG);have fR := z_ (And.intro (Kd.qd8 f1 o) (And.intro (Kd.qd8 f2 o) (Kd.qd8 f3 o)));have tU := z_ (show Kept w (w.alloc o) (S3 g gn gu) from (Kept.refl w _).alloc o);have HLT := z_ hb.lts;have HAP := z_ hb.apart;have HLL := z_ (And.intro l1 (And.intro l2 l3));have HON := z_ (qe7 x zdM);have HPP := z_ hP;have HGN := z_ (show w0.heap.size ≤ gn ∧ w0.heap.size ≤ gu ∧ w0.heap.size ≤ g from ⟨Kd.qgf hb.nodes gn (qbT _ _ _), Kd.qdt hb.used gu (qbT _ _ _), hb.ge⟩);obtain ⟨W1, hW1⟩ : ∃ W1, W1 = w.alloc o := ⟨_, rfl⟩
 rw [← hW1] at HB0 nU HX0 fR tU;have HGB := z_ (show gn < gb ∧ gu < gb ∧ g < gb from by rw [hgb]; have := hb.lts; omega);clear f1 f2 f3 l1 l2 l3 hx hP hB hb;rw [ho] at hW1;clear ho
 go_enter Tryz.func71, Tryz.ntmps71
 go_upto_region 1 with fail
 rw [← hW1, ← hgb];clear hW1 hgb o
 go_wp2_with fail
 go_loopw [5] (fun v5 wr => ∃ i : Nat, i ≤ 50 ∧ v5 = .int .i64 (i : Int) ∧ Aside0 (∀ j, j < i → qa5 us j) ∧ Aside0 (Below W1.heap.size W1 wr)) (fun v5 _ => 50 - (intOf v5).toNat)
 case atStart => exact ⟨0, zdM, rfl, ⟨fun j hj => absurd hj zdM⟩, ⟨Below.refl _ _⟩⟩
 case round =>
  obtain ⟨i, hi, rfl, HU, HO⟩ := hrel;have HSr := z_ (nU.o.below HO.o);have HBr := z_ (qaa HB0.o HO.o);have HKr := z_ (tU.o.below HO.o);have HXr := z_ (qab HX0.o HO.o);have HFr := z_ (And.intro (Kd.qbF fR.o.1 HO.o) (And.intro (Kd.qbF fR.o.2.1 HO.o) (Kd.qbF fR.o.2.2 HO.o)));clear nU HB0 tU HX0 fR
  by_cases hlt : i < 50
  ·have uj : decide ((i : Int) < 50) = true := decide_eq_true zdM;have w2 : IntKind.i64.wrap ((i : Int) + 1) = (i : Int) + 1 := zcK;have p1 : 0 ≤ (i : Int) := zdM;have q1 : (i : Int) < (us.length : Int) := zdM;have q2 : (i : Int) < (ns.length : Int) := zdM;obtain ⟨hx0, hx1⟩ := Kd.qc9 false HSr.o.used (i : Int) zdM zdM;rw [Int.toNat_natCast] at hx0 hx1;have d1 := qac HSr.o.blk 1;simp only [List.getElem?_toArray, List.getElem?_cons_zero, List.getElem?_cons_succ] at d1
   cases hus : us.getD i false with
   | true =>
    rw [qdL, hus] at hx0;have Fk := z_ (show ∀ j, j < i + 1 → qa5 us j from fun j hj => by
     by_cases e : j = i
     ·subst e; exact hus
     ·exact HU.o j zdM)
    clear hus
    go_wp2_with fail
    go_roundw
    case rel => exact ⟨i + 1, zdM, zdL, Fk, HO⟩
    case measure => simp [intOf]; omega
   | false =>
    rw [qdL, hus] at hx0;have hff : firstFree us = i := qgp zdM hus HU.o;have HLAY := z_ (show layB x (ns, us, full) = (i, ns.set i x, us.set i true, full) from by unfold layB; simp only; rw [hff, if_pos zdM]);have HHX := z_ hx0;have HHF := z_ hx1;obtain ⟨W2, hW2⟩ : ∃ W2, W2 = wr.setCell ⟨gu, i, none⟩ (.bool true) := ⟨_, rfl⟩
    have hap := HAP.o;have eh := z_ (show W2.heap[g]? = some (.cells #[.slice (some ⟨gn, 0, none⟩) ns.length cn, .slice (some ⟨gu, 0, none⟩) us.length cu, .bool full] 84 (0, 0)) from hW2 ▸ qbD HSr.o.blk hap.2.1 _);have JX := z_ (show Kd.S k80 80 W2 w0.heap.size (fun k => True ∧ k ≠ gu) (.slice (some ⟨gn, 0, none⟩) ns.length cn) ns from by
     obtain ⟨z, hz⟩ := HSr.o.tu;exact hW2 ▸ Kd.qgQ (p := ⟨gu, i, none⟩) (Kd.qd7 HSr.o.nodes hz ne_tN) (fun k hk => hk.2) _)
    have rU := z_ (show Kd.R Kd.bool 4 W2 w0.heap.size (fun _ => True) (.slice (some ⟨gu, 0, none⟩) us.length cu) (us.set i true) from by
     have := Kd.qgJ HSr.o.used (i : Int) true;rw [Int.toNat_natCast] at this;exact hW2 ▸ this)
    have HB2 := z_ (show Below w0.heap.size w0 W2 from hW2 ▸ HBr.o.setCell (p := ⟨gu, i, none⟩) HGN.o.2.1 _);have tQ := z_ (show Kept w W2 (S3 g gn gu) from hW2 ▸ qdI HKr.o (p := ⟨gu, i, none⟩) (.inr (.inr rfl)) _);have AE := z_ (show W2.heap[gb]? = some (.cells #[.bool x.f0, .slice A1 x.f1.length c1, .slice A2 x.f2.length c2, .slice A3 x.f3.length c3] 80 (0, 0)) from hW2 ▸ qbD HXr.o (show gb ≠ gu by have := HGB.o.2.1; omega) _);have hpf : ∀ k, P k → k ≠ (⟨gu, i, none⟩ : Addr).block := fun k hk e => HPP.o k hk (.inr (.inr e))
    have Ob := z_ (show Kd.F k61 W2 P A1 x.f1.length x.f1 ∧ Kd.F Kd.string W2 P A2 x.f2.length x.f2 ∧ Kd.F (Kd.int .i64) W2 P A3 x.f3.length x.f3 from hW2 ▸ ⟨Kd.qjI HFr.o.1 hpf _, Kd.qjI HFr.o.2.1 hpf _, Kd.qjI HFr.o.2.2 hpf _⟩);clear hus hff hap hpf HSr HBr HKr HXr HFr
    go_upto_region 6 with fail
    rw [← hW2];clear hW2 hx0 hx1 d1;have lZ := z_ (qaq eh.o);have OG := z_ (show Kd.S k80 80 W2.drew w0.heap.size (fun k => k < W2.drew.heap.size) (.slice (some ⟨gn, 0, none⟩) ns.length cn) ns from Kd.qbZ (Kd.qcr (Kd.qd1 JX.o)) (fun k hk => hk.2.2.1));have Ed := z_ (Kd.qbu rU.o);have HB3 := z_ (qba HB2.o);have EB := z_ (show Kept w W2.drew (S3 g gn gu) from tQ.o.drew);have cC := z_ (qaq AE.o);have zK := z_ (And.intro (Kd.qkd Ob.o.1) (And.intro (Kd.qkd Ob.o.2.1) (Kd.qkd Ob.o.2.2)));have k6 := z_ (Below.refl W2.drew.heap.size W2.drew);clear eh JX rU HB2 tQ AE Ob;refine qdv (n := 10) (S := fun w' => True) (ds := []) zArrF10 zdG rfl rfl trivial (fun hHeld => ?_);refine qbU sPutN.tab6 sPutN.bits6 (fun E2 r8 => ?_);have HTN := z_ (Kd.qcL OG.o gn (qbT _ _ _));generalize W2.drew = wd at lZ OG Ed HB3 EB cC zK k6 HTN ⊢;refine qer [0, 1, 2, 3, 4, 5, 6, 7, 8, 9] (fun TE b a w' => ∃ (v1 : Value) (v2 : Value) (v3 : Value) (N3 : Value), a = qbH TE b [(0, 24, .pointer (some ⟨g, 0, none⟩)), (1, 25, .pointer (some ⟨g, 0, none⟩)), (2, 26, .pointer (some ⟨g, 0, none⟩)), (3, 27, .pointer (some ⟨g, 0, none⟩)), (4, 28, .slice (some ⟨gn, 0, none⟩) ns.length cn), (5, 29, .int .i64 (i : Int)), (6, 30, .agg #[.bool x.f0, .slice A1 x.f1.length c1, .slice A2 x.f2.length c2, .slice A3 x.f3.length c3]), (7, 31, N3), (8, 32, .pointer (some ⟨gn, i * 4, none⟩))] ∧ (b 9 = false → Below wd.heap.size wd w') ∧ (b 7 = true → b 9 = false → Kd.R k61 61 w' wd.heap.size (fun _ => True) v1 x.f1) ∧ (b 7 = true → b 9 = false → Kd.R Kd.string 9 w' wd.heap.size (fun _ => True) v2 x.f2) ∧ (b 7 = true → b 9 = false → Kd.R (Kd.int .i64) 3 w' wd.heap.size (fun _ => True) v3 x.f3) ∧ (b 9 = true → w'.heap[g]? = some (.cells #[.slice (some ⟨gn, 0, none⟩) ns.length cn, .slice (some ⟨gu, 0, none⟩) us.length cu, .bool full] 84 (0, 0))) ∧ (b 9 = true → Kd.S k80 80 w' w0.heap.size (fun _ => True) (.slice (some ⟨gn, 0, none⟩) ns.length cn) (ns.set i x)) ∧ (b 9 = true → Kd.R Kd.bool 4 w' w0.heap.size (fun _ => True) (.slice (some ⟨gu, 0, none⟩) us.length cu) (us.set i true)) ∧ (b 9 = true → Below w0.heap.size w0 w') ∧ (b 9 = true → Kept w w' (S3 g gn gu)) ∧ (b 7 = true → (N3 : Value) = .agg #[.bool x.f0, v1, v2, v3])) E2.o r8.o zdG zdG ?_ ?_ ?_
    ·exact ⟨.bool false, .bool false, .bool false, .bool false, zbB, fun _ => k6.o, fun h_ => absurd h_ zdK, fun h_ => absurd h_ zdK, fun h_ => absurd h_ zdK, fun h_ => absurd h_ zdK, fun h_ => absurd h_ zdK, fun h_ => absurd h_ zdK, fun h_ => absurd h_ zdK, fun h_ => absurd h_ zdK, fun h_ => absurd h_ zdK⟩
    ·skip;clear k6;refine zsteps_ rfl ?_ ?_
     ·rintro b a w' ⟨v1, v2, v3, N3, ha, QT⟩ hb_ hon hoff K hK;have e0 : a.tmps[0]? = some (.pointer (some ⟨g, 0, none⟩)) := zcj;replace ha := z_ ha;refine qaT (w1 := w') (v := .pointer (some ⟨g, 0, none⟩)) zdO rfl zci ?_;refine hK.o _ _ ⟨v1, v2, v3, N3, zbJ, QT⟩
     refine zsteps_ rfl ?_ ?_
     ·rintro b a w' ⟨v1, v2, v3, N3, ha, QT⟩ hb_ hon hoff K hK;have e24 : a.tmps[24]? = some (.pointer (some ⟨g, 0, none⟩)) := zon_ ha 0 rfl rfl hon;replace ha := z_ ha;refine qaT (w1 := w') (v := .pointer (some ⟨g, 0, none⟩)) zdO rfl zci ?_;refine hK.o _ _ ⟨v1, v2, v3, N3, zbK, QT⟩
     refine zsteps_ rfl ?_ ?_
     ·rintro b a w' ⟨v1, v2, v3, N3, ha, QT⟩ hb_ hon hoff K hK;have e25 : a.tmps[25]? = some (.pointer (some ⟨g, 0, none⟩)) := zon_ ha 1 rfl rfl hon;replace ha := z_ ha;refine qaT (w1 := w') (v := .pointer (some ⟨g, 0, none⟩)) zdO rfl zci ?_;refine hK.o _ _ ⟨v1, v2, v3, N3, zbL, QT⟩
     refine zsteps_ rfl ?_ ?_
     ·rintro b a w' ⟨v1, v2, v3, N3, ha, QT⟩ hb_ hon hoff K hK;have e26 : a.tmps[26]? = some (.pointer (some ⟨g, 0, none⟩)) := zon_ ha 2 rfl rfl hon;replace ha := z_ ha;refine qaT (w1 := w') (v := .pointer (some ⟨g, 0, none⟩)) zdO rfl zci ?_;refine hK.o _ _ ⟨v1, v2, v3, N3, zbM, QT⟩
     refine zsteps_ rfl ?_ ?_
     ·rintro b a w' ⟨v1, v2, v3, N3, ha, QT⟩ hb_ hon hoff K hK;have e27 : a.tmps[27]? = some (.pointer (some ⟨g, 0, none⟩)) := zon_ ha 3 rfl rfl hon;replace ha := z_ ha;have k6 := z_ (QT.1 (hoff 9 zdG));have yF := qac (qab lZ.o k6.o) 0;simp only [List.getElem?_toArray, List.getElem?_cons_zero, List.getElem?_cons_succ] at yF;refine qaT (w1 := w') (v := .slice (some ⟨gn, 0, none⟩) ns.length cn) zdO rfl zci ?_;refine hK.o _ _ ⟨v1, v2, v3, N3, zbN, QT⟩
     refine zsteps_ rfl ?_ ?_
     ·rintro b a w' ⟨v1, v2, v3, N3, ha, QT⟩ hb_ hon hoff K hK;have e5 : a.tmps[5]? = some (.int .i64 (i : Int)) := zcj;replace ha := z_ ha;refine qaT (w1 := w') (v := .int .i64 (i : Int)) zdO rfl zci ?_;refine hK.o _ _ ⟨v1, v2, v3, N3, zbO, QT⟩
     refine zsteps_ rfl ?_ ?_
     ·rintro b a w' ⟨v1, v2, v3, N3, ha, QT⟩ hb_ hon hoff K hK;have e3 : a.tmps[3]? = some (.pointer (some ⟨gb, 0, none⟩)) := zcj;replace ha := z_ ha;have k6 := z_ (QT.1 (hoff 9 zdG));obtain ⟨Tg, Kg, ph, Wg⟩ := qbB (qab cC.o k6.o);refine qaT (w1 := w') (v := .agg #[.bool x.f0, .slice A1 x.f1.length c1, .slice A2 x.f2.length c2, .slice A3 x.f3.length c3]) zdO rfl zci ?_;refine hK.o _ _ ⟨v1, v2, v3, N3, zbP, QT⟩
     refine zsteps_ rfl ?_ ?_
     ·rintro b a w' ⟨v1, v2, v3, N3, ha, H7, Y9, bA, V9, SO, y9, VP, CD, nD, L4⟩ hb_ hon hoff K hK;have e30 : a.tmps[30]? = some (.agg #[.bool x.f0, .slice A1 x.f1.length c1, .slice A2 x.f2.length c2, .slice A3 x.f3.length c3]) := zon_ ha 6 rfl rfl hon;replace ha := z_ ha;have k6 := z_ (H7 (hoff 9 zdG));have hs_ := k6.o.size;refine qfE Tryz.func41 zdG rfl #[.agg #[.bool x.f0, .slice A1 x.f1.length c1, .slice A2 x.f2.length c2, .slice A3 x.f3.length c3]] zdO rfl rfl (by first | (simp only [List.map_toArray, List.map_cons, List.map_nil, Act.eval, Array.getD_eq_getD_getElem?, Option.getD_some, e30]; done) | (simp only [List.map_toArray, List.map_cons, List.map_nil, Act.eval, Array.getD_eq_getD_getElem?, Option.getD_some, e30]; rfl)) ?_;refine (qb3.calls (J3 := Kd.qcT (Kd.qbF zK.o.1 k6.o)) (I3 := HLL.o.1) (V2 := Kd.qcT (Kd.qbF zK.o.2.1 k6.o)) (F3 := HLL.o.2.1) (u3 := Kd.qcT (Kd.qbF zK.o.2.2 k6.o)) (D3 := HLL.o.2.2) (h := HON.o)).mono ?_;rintro e_ w1 ⟨ME, bG, CE, rfl, o6, Ga, Zb, hb1⟩;refine ⟨_, rfl, ?_⟩;refine hK.o _ _ ⟨ME, bG, CE, (.agg #[.bool x.f0, ME, bG, CE]), zbQ, fun _ => qaa k6.o hb1, fun _ _ => Kd.qa3 o6 hs_, fun _ _ => Kd.qa3 Ga hs_, fun _ _ => Kd.qa3 Zb hs_, nf_ (hoff 9 zdG), nf_ (hoff 9 zdG), nf_ (hoff 9 zdG), nf_ (hoff 9 zdG), nf_ (hoff 9 zdG), fun _ => rfl⟩
     refine zsteps_ rfl ?_ ?_
     ·rintro b a w' ⟨v1, v2, v3, N3, ha, QT⟩ hb_ hon hoff K hK;have e28 : a.tmps[28]? = some (.slice (some ⟨gn, 0, none⟩) ns.length cn) := zon_ ha 4 rfl rfl hon;have e29 : a.tmps[29]? = some (.int .i64 (i : Int)) := zon_ ha 5 rfl rfl hon;replace ha := z_ ha;have yd : (i : Int) < 50 := zdM;have Og : (0 : Int) ≤ (i : Int) := zdM;refine qaT (w1 := w') (v := .pointer (some ⟨gn, i * 4, none⟩)) zdO rfl zci ?_;refine hK.o _ _ ⟨v1, v2, v3, N3, zbS, QT⟩
     refine zsteps_ rfl ?_ ?_
     ·rintro b a w' ⟨v1, v2, v3, N3, ha, H7, Y9, bA, V9, SO, y9, VP, CD, nD, L4⟩ hb_ hon hoff K hK;have e32 : a.tmps[32]? = some (.pointer (some ⟨gn, i * 4, none⟩)) := zon_ ha 8 rfl rfl hon;have e31 : a.tmps[31]? = some (N3) := zon_ ha 7 rfl rfl hon;rw [L4 (hon 7 zdG)] at e31;replace ha := z_ ha;have k6 := z_ (H7 hb_);have R1 := z_ (Y9 (hon 7 zdG) hb_);have R2 := z_ (bA (hon 7 zdG) hb_);have R3 := z_ (V9 (hon 7 zdG) hb_);obtain ⟨_, lB, XE, _, V5, u6, _, _⟩ := Kd.qeR (Kd.qaO OG.o k6.o) z80 (i : Int) zdM zdM;obtain ⟨Mg, Hf, Zd, nf, kG⟩ : ∃ y0 y1 y2 y3, lB = [y0, y1, y2, y3] := by have qS : lB.length = 4 := XE; match lB, qS with | [a0, a1, a2, a3], _ => exact ⟨a0, a1, a2, a3, rfl⟩
      subst kG;have bP := V5 0 _ rfl;have g6 := V5 1 _ rfl;have i6 := V5 2 _ rfl;have P9 := V5 3 _ rfl;have O1 := u6 0;have C4 := u6 1;have G7 := u6 2;have R7 := u6 3;simp only [Int.toNat_natCast, show k80.sz = 4 from rfl, Nat.add_zero] at bP g6 i6 P9 O1 C4 G7 R7;have TM := (Kd.qfo R1.o).2;have KL := (Kd.qfo R2.o).2;have jL := (Kd.qfo R3.o).2;have WW : ∀ (a_ : Addr) (m_ : Mode) (W_ : World), (store a_ v1 m_).run Tryz.prog W_ = stored Tryz.prog W_ a_ v1 m_ := fun a_ m_ W_ => run_store _ W_ a_ v1 m_ TM
      have xW : ∀ (a_ : Addr) (m_ : Mode) (W_ : World), (store a_ v2 m_).run Tryz.prog W_ = stored Tryz.prog W_ a_ v2 m_ := fun a_ m_ W_ => run_store _ W_ a_ v2 m_ KL
      have TV : ∀ (a_ : Addr) (m_ : Mode) (W_ : World), (store a_ v3 m_).run Tryz.prog W_ = stored Tryz.prog W_ a_ v3 m_ := fun a_ m_ W_ => run_store _ W_ a_ v3 m_ jL
      refine qgN (w1 := (set4 w' gn (i * 4) (.bool x.f0) v1 v2 v3)) zdO rfl zdt ?_;refine hK.o _ _ ⟨v1, v2, v3, N3, zbR, fun qB => absurd ((qbG b 9).symm.trans qB) zdK, fun _ o6 => absurd ((qbG b 9).symm.trans o6) zdK, fun _ o6 => absurd ((qbG b 9).symm.trans o6) zdK, fun _ o6 => absurd ((qbG b 9).symm.trans o6) zdK, fun _ => qel (qab lZ.o k6.o) HAP.o.1 _ _ _ _, fun _ => S_put (Kd.qaO OG.o k6.o) zdM x R1.o R2.o R3.o HB3.o.size ⟨TM, KL, jL⟩, fun _ => Kd.qaU (qfI (Kd.qbg (Kd.qa7 Ed.o k6.o) (qab HTN.o.choose_spec k6.o) ne_tB) (fun k hk => hk.2) _ _ _ _) (fun _ _ => trivial), fun _ => qgl (qaa HB3.o k6.o) HGN.o.1 _ _ _ _, fun _ => kept4 (EB.o.below k6.o) _ _ _ _, L4⟩
     exact qcC
    rintro b a wE hall ⟨v1, v2, v3, N3, ha, H7, Y9, bA, V9, SO, y9, VP, CD, nD, L4⟩;clear k6;have Z4 := hall 0 zdG;have i3 := hall 1 zdG;have J4 := hall 2 zdG;have o4 := hall 3 zdG;have D4 := hall 4 zdG;have Q5 := hall 5 zdG;have H4 := hall 6 zdG;have q7 := hall 7 zdG;have y7 := hall 8 zdG;have i8 := hall 9 zdG;subst ha;obtain rfl := L4 q7;simp only [qbH, Z4, i3, J4, o4, D4, Q5, H4, q7, y7, i8, if_true, Act.put, List.setIfInBounds_toArray, List.set_cons_zero, List.set_cons_succ];clear H7 Y9 bA V9;have BKF := z_ (SO i8);clear SO;have SSF := z_ (y9 i8);clear y9;have UUF := z_ (VP i8);clear VP;have HBF := z_ (CD i8);clear CD;have HKF := z_ (nD i8);clear nD hall Z4 i3 J4 o4 D4 Q5 H4 q7 y7 i8
    go_wp2_with fail
    go_ret
    rw [HLAY.o];exact ⟨rfl, ⟨HGN.o.2.2, by simp only [List.length_set]; exact BKF.o, by simp only [List.length_set]; exact SSF.o, by simp only [List.length_set]; exact UUF.o⟩, HBF.o, HKF.o⟩
  ·have uj : decide ((i : Int) < 50) = false := decide_eq_false zdM;have hff : firstFree us = us.length := qff fun j hj => HU.o j zdM
   have HLAY := z_ (show layB x (ns, us, full) = (0, ns, us, true) from by unfold layB; simp only; rw [hff, if_neg zdM]);have d2 := qac HSr.o.blk 2;have e2 := qau HSr.o.blk 2;simp only [List.getElem?_toArray, List.getElem?_cons_zero, List.getElem?_cons_succ] at d2;clear hff
   go_wp2_with fail
   go_ret
   rw [HLAY.o];obtain ⟨z, hz⟩ := HSr.o.tn;obtain ⟨y, hy⟩ := HSr.o.tu;refine ⟨rfl, ⟨HGN.o.2.2, qfk HSr.o.blk 2 _, ?_, ?_⟩, HBr.o.setCell (p := ⟨g, 2, none⟩) HGN.o.2.2 _, qdI HKr.o (p := ⟨g, 2, none⟩) (.inl rfl) _⟩
   ·exact Kd.qbZ (Kd.qgQ (p := ⟨g, 2, none⟩) (Kd.qd7 HSr.o.nodes HSr.o.blk (fun q hq => by simp only [k80, Kd.iso, Kd.pair, Kd.bool, Kd.slice, Kd.scalar, k61, Kd.string, Kd.int, List.mem_cons, List.mem_append, List.not_mem_nil, or_false, false_or] at hq; rcases hq with rfl | rfl | rfl | rfl <;> decide)) (fun k hk => hk.2) _) (fun _ _ => trivial)
   ·exact Kd.qaU (Kd.qbp (p := ⟨g, 2, none⟩) (Kd.qbg HSr.o.used HSr.o.blk ne_tB2) (fun k hk => hk.2) _) (fun _ _ => trivial)
theorem qkp {α : Type} {d : Kd α} {e base : Nat} {ok : Nat → Prop} {v : Value} {xs : List α} {w0 w w' : World} {g gn cn gu cu : Nat} {b : List S80 × List Bool × Bool} (h : d.R e w base ok v xs) (hb : BsAt w0 w g gn cn gu cu b) (hk : Kept w w' (S3 g gn gu)) (h1 : ∀ q, q ∈ e :: d.E → q ≠ 84) (h2 : ∀ q, q ∈ e :: d.E → q ≠ 80) (h3 : ∀ q, q ∈ e :: d.E → q ≠ 4) : d.R e w' base ok v xs := by
 obtain ⟨y, hy⟩ := hb.tn;obtain ⟨z, hz⟩ := hb.tu;refine Kd.qaU (Kd.qeS (Kd.qbg (Kd.qbg (Kd.qbg h hb.blk h1) hy h2) hz h3) hk ?_) (fun k hk => hk.1.1.1);rintro k ⟨⟨⟨_, a1⟩, a2⟩, a3⟩ (e | e | e)
 ·exact a1 e
 ·exact a2 e
 ·exact a3 e
theorem eB : ∀ q, q ∈ 4 :: Kd.bool.E → q = 4 := fun q hq => zcw
theorem eN : ∀ q, q ∈ 80 :: k80.E → q = 80 ∨ q = 61 ∨ q = 9 ∨ q = 3 := fun q hq => by
 simpa only [k80, Kd.iso, Kd.pair, Kd.bool, Kd.slice, Kd.scalar, k61, Kd.string, Kd.int, List.mem_cons, List.mem_append, List.not_mem_nil, or_false, false_or, List.append_nil, List.nil_append] using hq
theorem BsAt.grown {w0 w w1 : World} {g gn cn gu cu : Nat} {b : List S80 × List Bool × Bool} (h : BsAt w0 w g gn cn gu cu b) {v : Value} {t : Nat} (hty : ∀ k, v.ownBlock = some k → ∃ cells, w.heap[k]? = some (.cells cells t (0, 0))) (hg : w.grownBy w1 v.ownBlock) (h1 : t ≠ 84) (h2 : t ≠ 80 ∧ t ≠ 61 ∧ t ≠ 9 ∧ t ≠ 3) (h3 : t ≠ 4) : BsAt w0 w1 g gn cn gu cu b := by
 refine ⟨h.ge, qbe h.blk hg ?_, Kd.qla h.nodes hty ?_ hg, Kd.qep h.used hty ?_ hg⟩
 ·intro e;obtain ⟨x, hx⟩ := hty g e.symm;exact qb9 hx h.blk h1 rfl
 ·intro q hq
  rcases eN q hq with rfl | rfl | rfl | rfl
  ·exact h2.1.symm
  ·exact h2.2.1.symm
  ·exact h2.2.2.1.symm
  ·exact h2.2.2.2.symm
 ·intro q hq;rw [eB q hq];exact h3.symm
structure NodeV (w : World) (P : Nat → Prop) (x : S80) (v : Value) : Prop where
 ex : ∃ A1 c1 A2 c2 A3 c3, v = .agg #[.bool x.f0, .slice A1 x.f1.length c1, .slice A2 x.f2.length c2, .slice A3 x.f3.length c3] ∧ (Kd.F k61 w P A1 x.f1.length x.f1 ∧ x.f1.length ≤ c1) ∧ (Kd.F Kd.string w P A2 x.f2.length x.f2 ∧ x.f2.length ≤ c2) ∧ (Kd.F (Kd.int .i64) w P A3 x.f3.length x.f3 ∧ x.f3.length ≤ c3)
theorem NodeV.kept {w w1 : World} {P S : Nat → Prop} {x : S80} {v : Value} (h : NodeV w P x v) (hk : Kept w w1 S) (hP : ∀ k, P k → ¬ S k) : NodeV w1 P x v := by
 obtain ⟨A1, c1, A2, c2, A3, c3, rfl, h1, h2, h3⟩ := h.ex;exact ⟨A1, c1, A2, c2, A3, c3, rfl, ⟨Kd.qd2 h1.1 hk hP, h1.2⟩, ⟨Kd.qd2 h2.1 hk hP, h2.2⟩, ⟨Kd.qd2 h3.1 hk hP, h3.2⟩⟩
theorem NodeV.below {w w1 : World} {P : Nat → Prop} {x : S80} {v : Value} (h : NodeV w P x v) (hb : Below w.heap.size w w1) : NodeV w1 P x v := h.kept (Kept.of_below hb (fun _ => False)) (fun _ _ h => h)
theorem sputV {w0 w : World} {g gn cn gu cu : Nat} {b : List S80 × List Bool × Bool} (hB : Below w0.heap.size w0 w) (hb : BsAt w0 w g gn cn gu cu b) (hl : b.1.length = 50 ∧ b.2.1.length = 50) {x : S80} {v : Value} {P : Nat → Prop} (hP : ∀ k, P k → ¬ S3 g gn gu k) (hv : NodeV w P x v) (hx : x.f1.length ≤ 1000000 ∧ x.f2.length ≤ 1000000 ∧ x.f3.length ≤ 1000000) :
  Calls Tryz.prog 71 #[.pointer (some ⟨g, 0, none⟩), v] w fun e w' => e = .returned (.int .i64 ((layB x b).1 : Int)) ∧ BsAt w0 w' g gn cn gu cu (layB x b).2 ∧ Below w0.heap.size w0 w' ∧ Kept w w' (S3 g gn gu) := by
 obtain ⟨A1, c1, A2, c2, A3, c3, rfl, h1, h2, h3⟩ := hv.ex;exact sput w0 w g gn cn gu cu b hB hb hl x A1 c1 A2 c2 A3 c3 P hP h1.1 h1.2 h2.1 h2.2 h3.1 h3.2 hx
theorem qfd {α : Type} {d : Kd α} {e N : Nat} {w : World} {A : Option Addr} {n c : Nat} {xs : List α} {ok : Nat → Prop} (h : d.R e w N ok (.slice A n c) xs) : Kd.F d w (fun k => N ≤ k) A n xs := Kd.qci (Kd.R_F (Kd.qb5 h)) (fun k hk => hk.2.1)
theorem blk4 {w : World} {g t : Nat} {x0 x1 x2 x3 : Value} (h : w.heap[g]? = some (.cells #[x0, x1, x2, x3] t (0, 0))) (v0 v1 v2 v3 : Value) : (set4 w g 0 v0 v1 v2 v3).heap[g]? = some (.cells #[v0, v1, v2, v3] t (0, 0)) := qaX (qaX (qaX (qaX h 0 v0 rfl) 1 v1 rfl) 2 v2 rfl) 3 v3 rfl
theorem sleaf (w : World) (P : Nat → Prop) (A : Option Addr) (c : Nat) (l : List S61) (hf : Kd.F k61 w P A l.length l) (hc : l.length ≤ c) :
  Calls Tryz.prog 72 #[.slice A l.length c] w fun e w' => ∃ v, e = .returned v ∧ NodeV w' (fun k => (P k ∧ k < w.heap.size) ∨ w.heap.size ≤ k) ⟨true, l, [], []⟩ v ∧ Below w.heap.size w w' := by
 have hu := Tryz.underlying80;obtain ⟨o, ho⟩ : ∃ o, o = Obj.cells #[.bool false, .slice none 0 0, .slice none 0 0, .slice none 0 0] 80 (0, 0) := ⟨_, rfl⟩
 obtain ⟨gb, hgb⟩ : ∃ gb, gb = w.heap.size := ⟨_, rfl⟩
 have HB0 := z_ (qaA (Below.refl w.heap.size w) o);have HX0 := z_ (show (w.alloc o).heap[gb]? = some (.cells #[.bool false, .slice none 0 0, .slice none 0 0, .slice none 0 0] 80 (0, 0)) from zcG);have fR := z_ (Kd.qd8 (Kd.qfq hf) o);have HC := z_ hc;have HG := z_ hgb;obtain ⟨W1, hW1⟩ : ∃ W1, W1 = w.alloc o := ⟨_, rfl⟩
 rw [← hW1] at HB0 HX0 fR;rw [ho] at hW1;clear ho hf hc
 go_enter Tryz.func72, Tryz.ntmps72
 go_upto_region 1 with fail
 rw [← hW1, ← hgb];clear hW1 hgb o
 go_wp2_with (first | ((with_reducible refine qaw (N := 4) rfl ?_); refine Kd.qdr Kd.string w.heap.size 9 zdO (N := 4) zdO (xs := ([] : List ByteArray)) (inner := []) (ok := fun _ => True) (okp := fun _ => True) zcm ?hp (fun _ hk => hk) trivial HB0.o HB0.o.size zdN ?_; (case hp => exact (Reps.none _ _)); intro v2 w2 ho2 hb2 j3 K0; have BH := z_ (Below.grown (Below.refl _ _) j3 (Nat.le_refl _) (fun k hk => zdH)); clear j3 K0; have KH := z_ ho2; have HB2 := z_ hb2; clear ho2 hb2) | (((with_reducible refine qaw (N := 5) rfl ?_); refine Kd.qdr (Kd.int .i64) w.heap.size 3 zdO (N := 5) zdO (xs := ([] : List Int)) (inner := []) (ok := fun _ => True) (okp := fun _ => True) zcm ?hp (fun _ hk => hk) trivial HB2.o HB2.o.size zdN ?_; (case hp => exact (Reps.none _ _)); intro v3 w3 ho3 hb3 j3 K0; have Ug := z_ (Below.grown (Below.refl _ _) j3 (Nat.le_refl _) (fun k hk => zdH)); clear j3 K0; have nR := z_ ho3; have HB3 := z_ hb3; clear ho3 hb3); (have cC := z_ (qab (qab HX0.o BH.o) Ug.o); obtain ⟨Tg, Kg, ph, Wg⟩ := qbB cC.o; have f0_ := qau cC.o 0; have tE := qau cC.o 1; have pJ := qau cC.o 2; have oE := qau cC.o 3; obtain ⟨A2, c2, rfl⟩ := Kd.qbO KH.o; obtain ⟨A3, c3, rfl⟩ := Kd.qbO nR.o)))
 refine bodyPost_ret (results_cell_row rfl _ _ gb 80 #[.bool true, .slice A l.length c, .slice A2 0 c2, .slice A3 0 c3] (0, 0) _ rfl (blk4 cC.o _ _ _ _) Tryz.underlying80 rfl zdG) rfl ?_;have e1 : gb = w.heap.size := HG.o;have hF := Kd.qbF (Kd.qbF fR.o BH.o) Ug.o;have q2 : ∀ q, q ∈ 9 :: Kd.string.E → q ≠ 80 := fun q hq => by
  have : q = 9 := zcu;rw [this]; decide
 have q3 : ∀ q, q ∈ 3 :: (Kd.int .i64).E → q ≠ 80 := fun q hq => by
  have : q = 3 := zcy;rw [this]; decide
 have hR2 := qfI (o := 0) (Kd.qbg (Kd.qa7 KH.o Ug.o) cC.o q2) (fun k hk => hk.2) (.bool true) (.slice A l.length c) (.slice A2 0 c2) (.slice A3 0 c3);have dC := qfI (o := 0) (Kd.qbg nR.o cC.o q3) (fun k hk => hk.2) (.bool true) (.slice A l.length c) (.slice A2 0 c2) (.slice A3 0 c3);refine ⟨_, rfl, ⟨A, c, A2, c2, A3, c3, rfl, ⟨?_, HC.o⟩, ⟨Kd.qci (qfd hR2) (fun k hk => .inr hk), Nat.zero_le _⟩, ⟨Kd.qci (qfd dC) (fun k hk => .inr hk), Nat.zero_le _⟩⟩, ?_⟩
 ·have hne : ∀ k, P k ∧ k < w.heap.size → k ≠ gb := fun k hk => by have := hk.2; omega
  exact Kd.qci (Kd.qjI (p := ⟨gb, 3, none⟩) (Kd.qjI (p := ⟨gb, 2, none⟩) (Kd.qjI (p := ⟨gb, 1, none⟩) (Kd.qjI (p := ⟨gb, 0, none⟩) hF hne _) hne _) hne _) hne _) (fun k hk => .inl hk)
 ·exact qgl HB3.o (Nat.le_of_eq e1.symm) _ _ _ _
def qaD.l0 : Nat → List (S91) → Int → Bool → List (S61) → List ByteArray → List Int → Option (Bool × (List (S61)) × List ByteArray × List Int)
 | 0, _, _, _, _, _, _ => none
 | k + 1, x0, x4, x277000, x277001, x277002, x277003 => if x4 < (x0.length : Int) then (if 0 ≤ x4 then (if x277002.length < 8796093022208 then (if x277003.length < 17592186044416 then (qaD.l0 k x0 (wrap64 (x4 + 1)) x277000 x277001 (x277002 ++ [(qde x0 x4).f0]) (x277003 ++ [(qde x0 x4).f1])) else (none)) else (none)) else (none)) else (some (x277000, x277001, x277002, x277003))
def qaD.f (k : Nat) (l0 : List (S91)) : Option (Bool × (List (S61)) × List ByteArray × List Int) := qaD.l0 k l0 0 false (([] : List (S61))) (([] : List ByteArray)) (([] : List Int))
theorem qaD.qbl : ∀ k, (∀ y0 y1 y2 y3 y4 y5, LeO (qaD.l0 k y0 y1 y2 y3 y4 y5) (qaD.l0 (k + 1) y0 y1 y2 y3 y4 y5))
 | 0 => fun _ _ _ _ _ _ r h => by simp [qaD.l0] at h
 | k + 1 => by
  have Q9 := qaD.qbl k
  ·intro y0 y1 y2 y3 y4 y5;unfold qaD.l0;exact zleo_
def qaD.T5 : Bool × List (List Nat × List Nat) := (true, [([], []), ([0], [0]), ([], []), ([], []), ([2, 3], [2, 3]), ([4], [4]), ([5], [5]), ([6], [6]), ([1, 7], [1, 7]), ([0, 1, 2, 3, 4, 5, 6, 7, 8], []), ([9, 8, 8, 0, 1, 2, 3, 4, 5, 6, 7, 8], [8, 9])])
def qaD.B5 : List Nat := [0, 1, 0, 0, 12, 28, 60, 124, 255, 511, 1023]
theorem qaD.tab5 : rtab .any (opsOf Tryz.f74 5) = qaD.T5 := zdG
theorem qaD.bits5 : qbW qaD.T5.2 qaD.B5 = true := zdG
def qaD.T6 : Bool × List (List Nat × List Nat) := (true, [([], []), ([0], [0]), ([], []), ([], []), ([2, 3], [2, 3]), ([4], [4]), ([5], [5]), ([6], [6]), ([1, 7], [1, 7]), ([0, 1, 2, 3, 4, 5, 6, 7, 8], []), ([9, 8, 8, 0, 1, 2, 3, 4, 5, 6, 7, 8], [8, 9])])
def qaD.B6 : List Nat := [0, 1, 0, 0, 12, 28, 60, 124, 255, 511, 1023]
theorem qaD.tab6 : rtab .any (opsOf Tryz.f74 6) = qaD.T6 := zdG
theorem qaD.bits6 : qbW qaD.T6.2 qaD.B6 = true := zdG
theorem qaD.calls (k : Nat) (A0 : Option Addr) (c0 : Nat) (l0 : List (S91)) (r1 : Bool) (r2 : List (S61)) (r3 : List ByteArray) (r4 : List Int) (w : World) (hr0 : Kd.C k91 w A0 l0.length l0) (hc0 : l0.length ≤ c0) (h : qaD.f k l0 = some (r1, r2, r3, r4)) :
  Calls Tryz.prog 74 #[.slice A0 l0.length c0] w fun e w' => ∃ ME bG CE : Value, e = .returned (.agg #[.bool r1, ME, bG, CE]) ∧ Kd.R k61 61 w' w.heap.size (fun _ => True) ME r2 ∧ Kd.R Kd.string 9 w' w.heap.size (fun _ => True) bG r3 ∧ Kd.R (Kd.int .i64) 3 w' w.heap.size (fun _ => True) CE r4 ∧ Below w.heap.size w w' := by
 have lI := Tryz.underlying80;have Z1 := z_ hr0;have kB := z_ hc0;clear hr0 hc0;have HB := z_ (Below.refl w.heap.size w);have H : (qaD.l0 k l0 0 false (([] : List (S61))) (([] : List ByteArray)) (([] : List Int))) = some (r1, r2, r3, r4) := h;clear h;obtain ⟨H6, xK⟩ : ∃ y_ : List (S61), y_ = (([] : List (S61))) := ⟨_, rfl⟩
 replace H : (qaD.l0 k l0 0 false H6 (([] : List ByteArray)) (([] : List Int))) = some (r1, r2, r3, r4) := by first | (rw [xK]; with_reducible exact H) | (have J1 := (Option.bind_some _ _).symm.trans H; rw [xK]; with_reducible exact J1) | (have J1 := (Option.bind_some _ _).symm.trans H; with_reducible exact J1) | with_reducible exact H | (rw [xK]; exact H) | exact H
 have LY := z_ xK;clear xK;obtain ⟨DK, vJ⟩ : ∃ y_ : List ByteArray, y_ = (([] : List ByteArray)) := ⟨_, rfl⟩
 replace H : (qaD.l0 k l0 0 false H6 DK (([] : List Int))) = some (r1, r2, r3, r4) := by first | (rw [vJ]; with_reducible exact H) | (have J1 := (Option.bind_some _ _).symm.trans H; rw [vJ]; with_reducible exact J1) | (have J1 := (Option.bind_some _ _).symm.trans H; with_reducible exact J1) | with_reducible exact H | (rw [vJ]; exact H) | exact H
 have kY := z_ vJ;clear vJ;obtain ⟨MQ, tJ⟩ : ∃ y_ : List Int, y_ = (([] : List Int)) := ⟨_, rfl⟩
 replace H : (qaD.l0 k l0 0 false H6 DK MQ) = some (r1, r2, r3, r4) := by first | (rw [tJ]; with_reducible exact H) | (have J1 := (Option.bind_some _ _).symm.trans H; rw [tJ]; with_reducible exact J1) | (have J1 := (Option.bind_some _ _).symm.trans H; with_reducible exact J1) | with_reducible exact H | (rw [tJ]; exact H) | exact H
 have eY := z_ tJ;clear tJ;have H' := z_ H;clear H
 go_enter Tryz.func74, Tryz.ntmps74
 go_wp2_with (first | ((with_reducible refine qaw (N := 2) rfl ?_); refine qaH zdO (N := 2) zdO (cs := #[.bool false, .slice none 0 0, .slice none 0 0, .slice none 0 0]) (t := 80) zcm ?_; intro M4 hg w2 hbox hb; have Q2 := z_ (hbox); have GW266 := z_ ((zao : w.heap.size ≤ M4)); have K7 := z_ ((zao : w.heap.size ≤ M4)); replace HB := z_ (qaa zar hb); clear hb hbox hg) | ((with_reducible refine qaw (N := 5) rfl ?_); refine Kd.qdr k61 _ 61 zdO (N := 5) zdO (xs := ([] : List (S61))) (inner := []) (ok := fun _ => True) (okp := fun _ => True) zcm ?hp (fun _ hk => hk) trivial (Below.refl _ _) (Nat.le_refl _) zdN ?_; (case hp => exact (Reps.none _ _)); intro v268 w3 vN hb j3 K0; clear j3 K0; (first | rw [← LY.o] at vN | (simp only [Int.reduceToNat] at vN; rw [← LY.o] at vN)); have EE := z_ (Kd.qa3 vN (qaz (zab K7.o))); replace Q2 := z_ (qab (g := M4) (o := .cells #[.bool false, .slice none 0 0, .slice none 0 0, .slice none 0 0] 80 (0, 0)) (zac Q2.o) hb); replace HB := z_ (qaa (zab K7.o) hb); clear hb vN) | ((with_reducible refine qaw (N := 6) rfl ?_); refine Kd.qdr Kd.string _ 9 zdO (N := 6) zdO (xs := ([] : List ByteArray)) (inner := []) (ok := fun _ => True) (okp := fun _ => True) zcm ?hp (fun _ hk => hk) trivial (Below.refl _ _) (Nat.le_refl _) zdN ?_; (case hp => exact (Reps.none _ _)); intro v271 w5 KB hb j3 K0; clear j3 K0; (first | rw [← kY.o] at KB | (simp only [Int.reduceToNat] at KB; rw [← kY.o] at KB)); replace EE := z_ (Kd.qa7 (zad EE.o) hb); have mH := z_ (Kd.qa3 KB (qaz (zab K7.o))); replace Q2 := z_ (qab (g := M4) (o := .cells #[.bool false, .slice none 0 0, .slice none 0 0, .slice none 0 0] 80 (0, 0)) (zac Q2.o) hb); replace HB := z_ (qaa (zab K7.o) hb); clear hb KB) | ((with_reducible refine qaw (N := 7) rfl ?_); refine Kd.qdr (Kd.int .i64) _ 3 zdO (N := 7) zdO (xs := ([] : List Int)) (inner := []) (ok := fun _ => True) (okp := fun _ => True) zcm ?hp (fun _ hk => hk) trivial (Below.refl _ _) (Nat.le_refl _) zdN ?_; (case hp => exact (Reps.none _ _)); intro v274 w7 GR hb j3 K0; clear j3 K0; (first | rw [← eY.o] at GR | (simp only [Int.reduceToNat] at GR; rw [← eY.o] at GR)); replace EE := z_ (Kd.qa7 (zad EE.o) hb); replace mH := z_ (Kd.qa7 (zad mH.o) hb); have FP := z_ (Kd.qa3 GR (qaz (zab K7.o))); replace Q2 := z_ (qab (g := M4) (o := .cells #[.bool false, .slice none 0 0, .slice none 0 0, .slice none 0 0] 80 (0, 0)) (zac Q2.o) hb); replace HB := z_ (qaa (zab K7.o) hb); clear hb GR; obtain ⟨bY, UK, uR⟩ := Kd.qbO FP.o; subst uR; obtain ⟨tI, PB, jJ⟩ := Kd.qbO mH.o; subst jJ; obtain ⟨D7, E7, pQ⟩ := Kd.qbO EE.o; subst pQ) | ((with_reducible refine qaw (N := 3) rfl ?_); refine qaH zdO (N := 3) zdO (cs := #[.bool false, .slice none 0 0, .slice none 0 0, .slice none 0 0]) (t := 80) zcm ?_; intro V1 hg JB hbox hb; replace EE := z_ (Kd.qa7 (zad EE.o) hb); replace mH := z_ (Kd.qa7 (zad mH.o) hb); replace FP := z_ (Kd.qa7 (zad FP.o) hb); have X0 := z_ (hbox); have GW276 := z_ ((by rw [hg]; exact (qaz (zab K7.o)) : w.heap.size ≤ V1)); have KE := z_ ((by rw [hg]; exact (qaz (zab K7.o)) : w.heap.size ≤ V1)); have i5 := z_ ((by rw [hg]; exact Nat.ne_of_lt (qbo (g := M4) (o := .cells #[.bool false, .slice none 0 0, .slice none 0 0, .slice none 0 0] 80 (0, 0)) (zac Q2.o)) : M4 ≠ V1)); have iB := z_ ((by rw [hg]; exact Nat.ne_of_gt (qbo (g := M4) (o := .cells #[.bool false, .slice none 0 0, .slice none 0 0, .slice none 0 0] 80 (0, 0)) (zac Q2.o)) : V1 ≠ M4)); replace Q2 := z_ (qab (g := M4) (o := .cells #[.bool false, .slice none 0 0, .slice none 0 0, .slice none 0 0] 80 (0, 0)) (zac Q2.o) hb); replace HB := z_ (qaa (zab K7.o) hb); clear hb hbox hg; have yh := iB.o; have Kh := i5.o; obtain ⟨xI, XO, iX, tW, AI, sP, ZW, sW⟩ := zcells4 X0.o))
 go_loopg [4] k (fun kq v4 w' => ∃ (F0 : Int) (N4 : List ByteArray) (M3 : List Int) (R8 : Value) (P5 : Value), v4 = .int .i64 F0 ∧ Aside0 (qaD.l0 kq l0 F0 false H6 N4 M3 = some (r1, r2, r3, r4)) ∧ Aside0 (kq ≤ k) ∧ Aside0 (Kd.R k61 61 w' w.heap.size (fun _ => True) (.slice D7 H6.length E7) H6) ∧ Aside0 (Kd.R Kd.string 9 w' w.heap.size (fun _ => True) R8 N4) ∧ Aside0 (Kd.R (Kd.int .i64) 3 w' w.heap.size (fun _ => True) P5 M3) ∧ Aside0 (w'.heap[M4]? = some (.cells #[.bool false, (.slice none 0 0), (.slice none 0 0), (.slice none 0 0)] 80 (0, 0))) ∧ Aside0 (w'.heap[V1]? = some (.cells #[.bool false, (.slice D7 H6.length E7), R8, P5] 80 (0, 0))) ∧ Aside0 (Below w.heap.size w w'))
 case atStart => exact ⟨(0), (DK), (MQ), (.slice tI DK.length PB), (.slice bY MQ.length UK), zcc, H', ⟨Nat.le_refl _⟩, ⟨by (with_reducible repeat (first | apply Kd.qbm | apply Kd.qbE | apply Kd.qbu)); exact Kd.qaU (Kd.qbp (p := ⟨V1, 3, none⟩) (Kd.qbp (p := ⟨V1, 2, none⟩) (Kd.qbp (p := ⟨V1, 1, none⟩) (Kd.qbp (p := ⟨V1, 0, none⟩) (Kd.qbg EE.o X0.o zdK) (fun _ hk => hk.2) (.bool false)) (fun _ hk => hk.2) (.slice D7 H6.length E7)) (fun _ hk => hk.2) (.slice tI DK.length PB)) (fun _ hk => hk.2) (.slice bY MQ.length UK)) (fun _ hk => trivial)⟩, ⟨by (with_reducible repeat (first | apply Kd.qbm | apply Kd.qbE | apply Kd.qbu)); exact Kd.qaU (Kd.qbp (p := ⟨V1, 3, none⟩) (Kd.qbp (p := ⟨V1, 2, none⟩) (Kd.qbp (p := ⟨V1, 1, none⟩) (Kd.qbp (p := ⟨V1, 0, none⟩) (Kd.qbg mH.o X0.o zdK) (fun _ hk => hk.2) (.bool false)) (fun _ hk => hk.2) (.slice D7 H6.length E7)) (fun _ hk => hk.2) (.slice tI DK.length PB)) (fun _ hk => hk.2) (.slice bY MQ.length UK)) (fun _ hk => trivial)⟩, ⟨by (with_reducible repeat (first | apply Kd.qbm | apply Kd.qbE | apply Kd.qbu)); exact Kd.qaU (Kd.qbp (p := ⟨V1, 3, none⟩) (Kd.qbp (p := ⟨V1, 2, none⟩) (Kd.qbp (p := ⟨V1, 1, none⟩) (Kd.qbp (p := ⟨V1, 0, none⟩) (Kd.qbg FP.o X0.o zdK) (fun _ hk => hk.2) (.bool false)) (fun _ hk => hk.2) (.slice D7 H6.length E7)) (fun _ hk => hk.2) (.slice tI DK.length PB)) (fun _ hk => hk.2) (.slice bY MQ.length UK)) (fun _ hk => trivial)⟩, ⟨by (with_reducible repeat (first | apply qas | apply qaq | apply qam)); refine qbD ?_ i5.o _; (with_reducible repeat (first | apply qas | apply qaq | apply qam)); refine qbD ?_ i5.o _; (with_reducible repeat (first | apply qas | apply qaq | apply qam)); refine qbD ?_ i5.o _; (with_reducible repeat (first | apply qas | apply qaq | apply qam)); refine qbD ?_ i5.o _; (with_reducible repeat (first | apply qas | apply qaq | apply qam)); exact Q2.o⟩, ⟨by (with_reducible repeat (first | apply qas | apply qaq | apply qam)); refine qaX (cs := #[.bool false, .slice D7 H6.length E7, .slice tI DK.length PB, .slice none 0 0]) ?_ 3 _ rfl; (with_reducible repeat (first | apply qas | apply qaq | apply qam)); refine qaX (cs := #[.bool false, .slice D7 H6.length E7, .slice none 0 0, .slice none 0 0]) ?_ 2 _ rfl; (with_reducible repeat (first | apply qas | apply qaq | apply qam)); refine qaX (cs := #[.bool false, .slice none 0 0, .slice none 0 0, .slice none 0 0]) ?_ 1 _ rfl; (with_reducible repeat (first | apply qas | apply qaq | apply qam)); refine qaX (cs := #[.bool false, .slice none 0 0, .slice none 0 0, .slice none 0 0]) ?_ 0 _ rfl; (with_reducible repeat (first | apply qas | apply qaq | apply qam)); exact X0.o⟩, ⟨zaf K7.o KE.o⟩⟩
 case round =>
  clear H';try clear xI
  try clear XO
  try clear iX
  try clear tW
  try clear AI
  try clear sP
  try clear ZW
  try clear sW
  obtain ⟨F0, N4, M3, R8, P5, rfl, HA, I5, P1, j4, D1, Q2, X0, HB⟩ := hrel
  cases gk with
  | zero => exact absurd HA.o (by simp [qaD.l0])
  | succ k1 =>
   have H := HA.o;clear HA;simp only [qaD.l0] at H
   by_cases c15 : F0 < (l0.length : Int)
   ·rw [if_pos c15] at H;have eT : decide (F0 < (l0.length : Int)) = true := decide_eq_true c15;clear c15
    by_cases c16 : 0 ≤ F0
    ·rw [if_pos c16] at H;have c16b0 : decide (0 ≤ F0) = true := decide_eq_true c16;clear c16
     by_cases c17 : N4.length < 8796093022208
     ·rw [if_pos c17] at H;have Lf := z_ c17;clear c17;obtain ⟨u9, ZJ⟩ : ∃ y_ : List ByteArray, y_ = (N4 ++ [(qde l0 F0).f0]) := ⟨_, rfl⟩
      replace H : (if M3.length < 17592186044416 then (qaD.l0 k1 l0 (wrap64 (F0 + 1)) false H6 u9 (M3 ++ [(qde l0 F0).f1])) else (none)) = some (r1, r2, r3, r4) := by first | (rw [ZJ]; with_reducible exact H) | (have J1 := (Option.bind_some _ _).symm.trans H; rw [ZJ]; with_reducible exact J1) | (have J1 := (Option.bind_some _ _).symm.trans H; with_reducible exact J1) | with_reducible exact H | (rw [ZJ]; exact H) | exact H
      have Eh := z_ ZJ;clear ZJ
      by_cases c18 : M3.length < 17592186044416
      ·rw [if_pos c18] at H;have Ih := z_ c18;clear c18;obtain ⟨uQ, tK⟩ : ∃ y_ : List Int, y_ = (M3 ++ [(qde l0 F0).f1]) := ⟨_, rfl⟩
       replace H : (qaD.l0 k1 l0 (wrap64 (F0 + 1)) false H6 u9 uQ) = some (r1, r2, r3, r4) := by first | (rw [tK]; with_reducible exact H) | (have J1 := (Option.bind_some _ _).symm.trans H; rw [tK]; with_reducible exact J1) | (have J1 := (Option.bind_some _ _).symm.trans H; with_reducible exact J1) | with_reducible exact H | (rw [tK]; exact H) | exact H
       have He := z_ tK;clear tK;have H' := z_ H;clear H;try go_wp2
       have O1 := z_ (Kd.qbu P1.o);have C4 := z_ (Kd.qbu j4.o);have G7 := z_ (Kd.qbu D1.o);have R7 := z_ (qaq Q2.o);have EA := z_ (qaq X0.o);have RG := z_ (qa1 HB.o);clear P1 j4 D1 Q2 X0 HB;have P1 := O1;have j4 := C4;have D1 := G7;have Q2 := R7;have X0 := EA;have HB := RG;clear O1 C4 G7 R7 EA RG;have dc : 0 ≤ (F0 : Int) := zod_;have yZ : F0 < (l0.length : Int) := zod_;obtain ⟨uG, Fo, iF, dF⟩ := qhV Z1.o F0 dc yZ;have ZE := dF;have sF := iF
       cases Fo
       replace iF := zmove_ HB rfl iF;replace dF := zmove_ HB rfl dF;replace dc := eq_true dc;replace yZ := eq_true yZ;refine qdv (n := 11) (S := fun w' => w'.cell? ⟨V1, 0, none⟩ = some (.bool false) ∧ w'.cell? ⟨V1, 1, none⟩ = some (.slice D7 H6.length E7) ∧ w'.cell? ⟨V1, 2, none⟩ = some (R8) ∧ w'.cell? ⟨V1, 3, none⟩ = some (P5) ∧ w'.cell? (uG.add ((F0).toNat * 2)) = some (.string ((qde l0 F0).f0)) ∧ w'.cell? ⟨(uG.add ((F0).toNat * 2)).block, (uG.add ((F0).toNat * 2)).off + 1, none⟩ = some (.int .i64 ((qde l0 F0).f1))) (ds := [10]) zArrF11 zdG rfl rfl ⟨(qac X0.o 0).trans rfl, (qac X0.o 1).trans rfl, (qac X0.o 2).trans rfl, (qac X0.o 3).trans rfl, (zcm_ HB.o sF), (zcm_ HB.o ZE)⟩ (fun hHeld => ?_); refine qbU qaD.tab5 qaD.bits5 (fun E2 r8 => ?_);generalize wr.drew = WK at P1 j4 D1 Q2 X0 HB iF dF hHeld ⊢;refine qce (i := 0) (N := some 15) (v := _) (a' := _) #[true, false, false, false, false, false, false, false, false, false, false] rfl rfl (qbI E2.o zdG) (fun _ _ _ h => h) (Or.inl ⟨zdO, zct⟩) zaF ?_;refine qce (i := 2) (N := some 17) (v := _) (a' := _) #[true, false, true, false, false, false, false, false, false, false, false] rfl rfl (qbI E2.o zdG) (fun _ _ _ h => h) (Or.inl ⟨zdO, zct⟩) zaF ?_;refine qce (i := 3) (N := some 18) (v := _) (a' := _) #[true, false, true, true, false, false, false, false, false, false, false] rfl rfl (qbI E2.o zdG) (fun _ _ _ h => h) (Or.inl ⟨zdO, zct⟩) zaF ?_;refine qce (i := 4) (N := some 19) (v := _) (a' := _) #[true, false, true, true, true, false, false, false, false, false, false] rfl rfl (qbI E2.o zdG) (fun _ _ _ h => h) (Or.inl ⟨zdO, zct⟩) zaF ?_;refine qce (i := 5) (N := some 20) (v := _) (a' := _) #[true, false, true, true, true, true, false, false, false, false, false] rfl rfl (qbI E2.o zdG) (fun _ _ _ h => h) (Or.inl ⟨zdO, zct⟩) zaF ?_;refine qfc (i := 1) (N := some 16) (v := _) (a' := _) #[true, true, true, true, true, true, false, false, false, false, false] rfl rfl (qcI E2.o r8.o zdG) (fun _ _ _ h => h) (Or.inl ⟨zdO, zaZ⟩) hHeld zaF ?_;refine qfc (i := 6) (N := some 21) (v := _) (a' := _) #[true, true, true, true, true, true, true, false, false, false, false] rfl rfl (qcI E2.o r8.o zdG) (fun _ _ _ h => h) (Or.inl ⟨zdO, zaZ⟩) hHeld zaF ?_;refine one_ (i := 7) (N := some 22) #[true, true, true, true, true, true, true, true, false, false, false] rfl rfl (qdO E2.o zdG) zdK (fun K hK => ?_);refine qaT (w1 := ?_) (v := ?_) zdO rfl ?_ ?_;rotate_left 2
       ·go_simp
        constructor
        ·rfl
        ·rfl
       refine hK.o _ _ ⟨(qac (qam X0.o _) 0).trans rfl, (qac (qam X0.o _) 1).trans rfl, (qac (qam X0.o _) 2).trans rfl, (qac (qam X0.o _) 3).trans rfl, (World.cell?_alloc_lt _ _ _ (World.block_lt_of_cell? _ _ ((zcm_ HB.o sF)))).trans ((zcm_ HB.o sF)), (World.cell?_alloc_lt _ _ _ (World.block_lt_of_cell? _ _ ((zcm_ HB.o ZE)))).trans ((zcm_ HB.o ZE))⟩ (fun hHeld => ?_);clear hK K;refine qfD (a' := ?_) ?_ ?_;rotate_left
       ·show Act.put _ (some 22) _ = _
        simp only [Act.put, List.setIfInBounds_toArray, List.set_cons_zero, List.set_cons_succ, qef, qeP];rfl
       refine one_ (i := 8) (N := some 23) #[true, true, true, true, true, true, true, true, true, false, false] rfl rfl (qdO E2.o zdG) zdK (fun K hK => ?_);refine Kd.qbV Kd.string (w0 := w) w.heap.size zdO (.tmp 16) (.tmp 22) 68 9 (.string ⟨#[]⟩) 16 rfl Tryz.underlying68 info9 rfl zdK zdM R8 N4 ((qde l0 F0).f0) [.string ((qde l0 F0).f0)] (fun _ => True) (fun _ => False) rfl rfl ?aP (fun _ hk => hk.elim) ?aF ?aO ?aB ?aS ?aL ?_
       (case aP => exact rfl)
       (case aB => exact (zaf K7.o KE.o))
       (case aF => exact (fun _ _ => trivial))
       (case aO => exact (zad j4.o))
       (case aS => exact (qaz (zaf K7.o KE.o)))
       (case aL => have := Lf.o; omega)
       intro v279 tF ho hb hg hat;rw [← Eh.o] at ho;have O1 := z_ (Kd.qep (zad P1.o) (Kd.qcZ (zad j4.o)) zdK hg);have C4 := z_ (Kd.qep (zad D1.o) (Kd.qcZ (zad j4.o)) zdK hg);have G7 := z_ (qbe (g := M4) (o := .cells #[.bool false, .slice none 0 0, .slice none 0 0, .slice none 0 0] 80 (0, 0)) (zac Q2.o) hg (Kd.R_ne j4.o Q2.o zdK));have R7 := z_ (qbe (g := V1) (o := .cells #[.bool false, .slice D7 H6.length E7, R8, P5] 80 (0, 0)) (zac X0.o) hg (Kd.R_ne j4.o X0.o zdK));have EA := z_ (hb);have RG := z_ (ho);clear P1 D1 Q2 X0 HB j4;have P1 := O1;have D1 := C4;have Q2 := G7;have X0 := R7;have HB := EA;have qA := RG;clear O1 C4 G7 R7 EA RG ho hb hg hat;obtain ⟨Z9, W9, pT⟩ := Kd.qbO qA.o
       (first | subst pT | (injection pT with tE pJ oE; have gK := tE.symm; have TK := oE.symm; clear tE pJ oE; subst gK; subst TK))
       refine hK.o _ _ ⟨(qac X0.o 0).trans rfl, (qac X0.o 1).trans rfl, (qac X0.o 2).trans rfl, (qac X0.o 3).trans rfl, (zcm_ HB.o sF), (zcm_ HB.o ZE)⟩ (fun hHeld => ?_);clear hK K;refine qfD (a' := ?_) ?_ ?_;rotate_left
       ·show Act.put _ (some 23) _ = _
        simp only [Act.put, List.setIfInBounds_toArray, List.set_cons_zero, List.set_cons_succ, qef, qeP];rfl
       refine qce (i := 9) (N := some 24) (v := _) (a' := _) #[true, true, true, true, true, true, true, true, true, true, false] rfl rfl (qbI E2.o zdG) (fun _ _ _ h => h) (Or.inl ⟨zdO, zct⟩) zaF ?_;refine last_ (i := 10) (N := none) zArrT11 rfl rfl (qdO E2.o zdG) zdK (fun K hK => ?_);have hs22 : tF.cell? ⟨V1, 2, none⟩ = some (R8) := (qac X0.o 2).trans rfl;have hfs22 := qau X0.o 2;have Ii := i5.o;have Dl := iB.o;refine qgN (w1 := ?_) zdO rfl ?_ ?_;rotate_left
       ·go_simp;rfl
       refine hK.o _ _ ?_;clear hK K;refine qiV (qeQ E2.o zdG) ?_;try go_wp2
       have O1 : Aside0 (Kd.R k61 61 (tF.setCell ⟨V1, 2, none⟩ (.slice Z9 u9.length W9)) w.heap.size (fun _ => True) (.slice D7 H6.length E7) H6) := ⟨by (with_reducible repeat (first | apply Kd.qbm | apply Kd.qbE | apply Kd.qbu)); exact Kd.qaU (Kd.qbp (p := ⟨V1, 2, none⟩) (Kd.qbg P1.o X0.o zdK) (fun _ hk => hk.2) (.slice Z9 u9.length W9)) (fun _ hk => trivial)⟩;have C4 : Aside0 (Kd.R (Kd.int .i64) 3 (tF.setCell ⟨V1, 2, none⟩ (.slice Z9 u9.length W9)) w.heap.size (fun _ => True) P5 M3) := ⟨by (with_reducible repeat (first | apply Kd.qbm | apply Kd.qbE | apply Kd.qbu)); exact Kd.qaU (Kd.qbp (p := ⟨V1, 2, none⟩) (Kd.qbg D1.o X0.o zdK) (fun _ hk => hk.2) (.slice Z9 u9.length W9)) (fun _ hk => trivial)⟩;have G7 : Aside0 (Kd.R Kd.string 9 (tF.setCell ⟨V1, 2, none⟩ (.slice Z9 u9.length W9)) w.heap.size (fun _ => True) (.slice Z9 u9.length W9) u9) := ⟨by (with_reducible repeat (first | apply Kd.qbm | apply Kd.qbE | apply Kd.qbu)); exact Kd.qaU (Kd.qbp (p := ⟨V1, 2, none⟩) (Kd.qbg qA.o X0.o zdK) (fun _ hk => hk.2) (.slice Z9 u9.length W9)) (fun _ hk => trivial)⟩;have R7 : Aside0 ((tF.setCell ⟨V1, 2, none⟩ (.slice Z9 u9.length W9)).heap[M4]? = some (.cells #[.bool false, .slice none 0 0, .slice none 0 0, .slice none 0 0] 80 (0, 0))) := ⟨by (with_reducible repeat (first | apply qas | apply qaq | apply qam)); refine qbD ?_ i5.o _; (with_reducible repeat (first | apply qas | apply qaq | apply qam)); exact Q2.o⟩;have EA : Aside0 ((tF.setCell ⟨V1, 2, none⟩ (.slice Z9 u9.length W9)).heap[V1]? = some (.cells #[.bool false, .slice D7 H6.length E7, .slice Z9 u9.length W9, P5] 80 (0, 0))) := ⟨by (with_reducible repeat (first | apply qas | apply qaq | apply qam)); refine qaX (cs := #[.bool false, .slice D7 H6.length E7, R8, P5]) ?_ 2 _ rfl; (with_reducible repeat (first | apply qas | apply qaq | apply qam)); exact X0.o⟩;have RG : Aside0 (Below w.heap.size w (tF.setCell ⟨V1, 2, none⟩ (.slice Z9 u9.length W9))) := ⟨zaf K7.o KE.o⟩
       (try clear P1)
       (try clear D1)
       (try clear qA)
       (try clear Q2)
       (try clear X0)
       (try clear HB)
       generalize (tF.setCell ⟨V1, 2, none⟩ (.slice Z9 u9.length W9)) = YR at O1 C4 G7 R7 EA RG ⊢;have P1 := O1;have D1 := C4;have qA := G7;have Q2 := R7;have X0 := EA;have HB := RG;clear O1 C4 G7 R7 EA RG;have O1 := z_ (Kd.qbu P1.o);have C4 := z_ (Kd.qbu D1.o);have G7 := z_ (Kd.qbu qA.o);have R7 := z_ (qaq Q2.o);have EA := z_ (qaq X0.o);have RG := z_ (qa1 HB.o);clear P1 D1 qA Q2 X0 HB;have P1 := O1;have D1 := C4;have qA := G7;have Q2 := R7;have X0 := EA;have HB := RG;clear O1 C4 G7 R7 EA RG;have Xc : 0 ≤ (F0 : Int) := zod_;have Vc : F0 < (l0.length : Int) := zod_;obtain ⟨xe, im, zF, bF⟩ := qhV Z1.o F0 Xc Vc;have lF := bF;have vF := zF;obtain rfl : uG = xe := (by injection im);replace zF := zmove_ HB rfl zF;replace bF := zmove_ HB rfl bF;replace Xc := eq_true Xc;replace Vc := eq_true Vc;refine qdv (n := 11) (S := fun w' => w'.cell? ⟨V1, 0, none⟩ = some (.bool false) ∧ w'.cell? ⟨V1, 1, none⟩ = some (.slice D7 H6.length E7) ∧ w'.cell? ⟨V1, 2, none⟩ = some (.slice Z9 u9.length W9) ∧ w'.cell? ⟨V1, 3, none⟩ = some (P5) ∧ w'.cell? (uG.add ((F0).toNat * 2)) = some (.string ((qde l0 F0).f0)) ∧ w'.cell? ⟨(uG.add ((F0).toNat * 2)).block, (uG.add ((F0).toNat * 2)).off + 1, none⟩ = some (.int .i64 ((qde l0 F0).f1))) (ds := [10]) zArrF11 zdG rfl rfl ⟨(qac X0.o 0).trans rfl, (qac X0.o 1).trans rfl, (qac X0.o 2).trans rfl, (qac X0.o 3).trans rfl, (zcm_ HB.o vF), (zcm_ HB.o lF)⟩ (fun hHeld => ?_); refine qbU qaD.tab6 qaD.bits6 (fun E2 r8 => ?_);generalize YR.drew = dR at P1 D1 qA Q2 X0 HB zF bF hHeld ⊢;refine qce (i := 0) (N := some 25) (v := _) (a' := _) #[true, false, false, false, false, false, false, false, false, false, false] rfl rfl (qbI E2.o zdG) (fun _ _ _ h => h) (Or.inl ⟨zdO, zct⟩) zaF ?_;refine qce (i := 2) (N := some 27) (v := _) (a' := _) #[true, false, true, false, false, false, false, false, false, false, false] rfl rfl (qbI E2.o zdG) (fun _ _ _ h => h) (Or.inl ⟨zdO, zct⟩) zaF ?_;refine qce (i := 3) (N := some 28) (v := _) (a' := _) #[true, false, true, true, false, false, false, false, false, false, false] rfl rfl (qbI E2.o zdG) (fun _ _ _ h => h) (Or.inl ⟨zdO, zct⟩) zaF ?_;refine qce (i := 4) (N := some 29) (v := _) (a' := _) #[true, false, true, true, true, false, false, false, false, false, false] rfl rfl (qbI E2.o zdG) (fun _ _ _ h => h) (Or.inl ⟨zdO, zct⟩) zaF ?_;refine qce (i := 5) (N := some 30) (v := _) (a' := _) #[true, false, true, true, true, true, false, false, false, false, false] rfl rfl (qbI E2.o zdG) (fun _ _ _ h => h) (Or.inl ⟨zdO, zct⟩) zaF ?_;refine qfc (i := 1) (N := some 26) (v := _) (a' := _) #[true, true, true, true, true, true, false, false, false, false, false] rfl rfl (qcI E2.o r8.o zdG) (fun _ _ _ h => h) (Or.inl ⟨zdO, zaZ⟩) hHeld zaF ?_;refine qfc (i := 6) (N := some 31) (v := _) (a' := _) #[true, true, true, true, true, true, true, false, false, false, false] rfl rfl (qcI E2.o r8.o zdG) (fun _ _ _ h => h) (Or.inl ⟨zdO, zaZ⟩) hHeld zaF ?_;refine one_ (i := 7) (N := some 32) #[true, true, true, true, true, true, true, true, false, false, false] rfl rfl (qdO E2.o zdG) zdK (fun K hK => ?_)
       refine qaT (w1 := ?_) (v := ?_) zdO rfl ?_ ?_;rotate_left 2
       ·go_simp
        constructor
        ·rfl
        ·rfl
       refine hK.o _ _ ⟨(qac (qam X0.o _) 0).trans rfl, (qac (qam X0.o _) 1).trans rfl, (qac (qam X0.o _) 2).trans rfl, (qac (qam X0.o _) 3).trans rfl, (World.cell?_alloc_lt _ _ _ (World.block_lt_of_cell? _ _ ((zcm_ HB.o vF)))).trans ((zcm_ HB.o vF)), (World.cell?_alloc_lt _ _ _ (World.block_lt_of_cell? _ _ ((zcm_ HB.o lF)))).trans ((zcm_ HB.o lF))⟩ (fun hHeld => ?_);clear hK K;refine qfD (a' := ?_) ?_ ?_;rotate_left
       ·show Act.put _ (some 32) _ = _
        simp only [Act.put, List.setIfInBounds_toArray, List.set_cons_zero, List.set_cons_succ, qef, qeP];rfl
       refine one_ (i := 8) (N := some 33) #[true, true, true, true, true, true, true, true, true, false, false] rfl rfl (qdO E2.o zdG) zdK (fun K hK => ?_);refine Kd.qbV (Kd.int .i64) (w0 := w) w.heap.size zdO (.tmp 26) (.tmp 32) 25 3 (.int .i64 0) 8 rfl Tryz.underlying25 info3 rfl zdK zdM P5 M3 ((qde l0 F0).f1) [.int .i64 ((qde l0 F0).f1)] (fun _ => True) (fun _ => False) rfl rfl ?aP (fun _ hk => hk.elim) ?aF ?aO ?aB ?aS ?aL ?_
       (case aP => exact rfl)
       (case aB => exact (zaf K7.o KE.o))
       (case aF => exact (fun _ _ => trivial))
       (case aO => exact (zad D1.o))
       (case aS => exact (qaz (zaf K7.o KE.o)))
       (case aL => have := Ih.o; omega)
       intro v283 wM ho hb hg hat;rw [← He.o] at ho;have O1 := z_ (Kd.qep (zad P1.o) (Kd.qcZ (zad D1.o)) zdK hg);have C4 := z_ (qbe (g := M4) (o := .cells #[.bool false, .slice none 0 0, .slice none 0 0, .slice none 0 0] 80 (0, 0)) (zac Q2.o) hg (Kd.R_ne D1.o Q2.o zdK));have G7 := z_ (qbe (g := V1) (o := .cells #[.bool false, .slice D7 H6.length E7, .slice Z9 u9.length W9, P5] 80 (0, 0)) (zac X0.o) hg (Kd.R_ne D1.o X0.o zdK));have R7 := z_ (Kd.qep (zad qA.o) (Kd.qcZ (zad D1.o)) zdK hg);have EA := z_ (hb);have RG := z_ (ho);clear P1 Q2 X0 qA HB D1;have P1 := O1;have Q2 := C4;have X0 := G7;have qA := R7;have HB := EA;have iY := RG;clear O1 C4 G7 R7 EA RG ho hb hg hat;obtain ⟨xU, kV, df⟩ := Kd.qbO iY.o
       (first | subst df | (injection df with tE pJ oE; have gK := tE.symm; have TK := oE.symm; clear tE pJ oE; subst gK; subst TK))
       refine hK.o _ _ ⟨(qac X0.o 0).trans rfl, (qac X0.o 1).trans rfl, (qac X0.o 2).trans rfl, (qac X0.o 3).trans rfl, (zcm_ HB.o vF), (zcm_ HB.o lF)⟩ (fun hHeld => ?_);clear hK K;refine qfD (a' := ?_) ?_ ?_;rotate_left
       ·show Act.put _ (some 33) _ = _
        simp only [Act.put, List.setIfInBounds_toArray, List.set_cons_zero, List.set_cons_succ, qef, qeP];rfl
       refine qce (i := 9) (N := some 34) (v := _) (a' := _) #[true, true, true, true, true, true, true, true, true, true, false] rfl rfl (qbI E2.o zdG) (fun _ _ _ h => h) (Or.inl ⟨zdO, zct⟩) zaF ?_;refine last_ (i := 10) (N := none) zArrT11 rfl rfl (qdO E2.o zdG) zdK (fun K hK => ?_);have hs27 : wM.cell? ⟨V1, 3, none⟩ = some (P5) := (qac X0.o 3).trans rfl;have hfs27 := qau X0.o 3;have Kj := i5.o;have Ci := iB.o;refine qgN (w1 := ?_) zdO rfl ?_ ?_;rotate_left
       ·go_simp;rfl
       refine hK.o _ _ ?_;clear hK K;refine qiV (qeQ E2.o zdG) ?_;try go_wp2
       go_roundg k1
       case measure => have := I5.o; omega
       case rel => exact ⟨(wrap64 (F0 + 1)), (u9), (uQ), (.slice Z9 u9.length W9), (.slice xU uQ.length kV), zcc, H', ⟨zcY⟩, ⟨by (with_reducible repeat (first | apply Kd.qbm | apply Kd.qbE | apply Kd.qbu)); exact Kd.qaU (Kd.qbp (p := ⟨V1, 3, none⟩) (Kd.qbg P1.o X0.o zdK) (fun _ hk => hk.2) (.slice xU uQ.length kV)) (fun _ hk => trivial)⟩, ⟨by (with_reducible repeat (first | apply Kd.qbm | apply Kd.qbE | apply Kd.qbu)); exact Kd.qaU (Kd.qbp (p := ⟨V1, 3, none⟩) (Kd.qbg qA.o X0.o zdK) (fun _ hk => hk.2) (.slice xU uQ.length kV)) (fun _ hk => trivial)⟩, ⟨by (with_reducible repeat (first | apply Kd.qbm | apply Kd.qbE | apply Kd.qbu)); exact Kd.qaU (Kd.qbp (p := ⟨V1, 3, none⟩) (Kd.qbg iY.o X0.o zdK) (fun _ hk => hk.2) (.slice xU uQ.length kV)) (fun _ hk => trivial)⟩, ⟨by (with_reducible repeat (first | apply qas | apply qaq | apply qam)); refine qbD ?_ i5.o _; (with_reducible repeat (first | apply qas | apply qaq | apply qam)); exact Q2.o⟩, ⟨by (with_reducible repeat (first | apply qas | apply qaq | apply qam)); refine qaX (cs := #[.bool false, .slice D7 H6.length E7, .slice Z9 u9.length W9, P5]) ?_ 3 _ rfl; (with_reducible repeat (first | apply qas | apply qaq | apply qam)); exact X0.o⟩, ⟨zaf K7.o KE.o⟩⟩
      ·rw [if_neg c18] at H;exact absurd H zdN
     ·rw [if_neg c17] at H;exact absurd H zdN
    ·rw [if_neg c16] at H;exact absurd H zdN
   ·rw [if_neg c15] at H;have eT : decide (F0 < (l0.length : Int)) = false := decide_eq_false c15;clear c15;simp only [Option.some.injEq, Prod.mk.injEq] at H;obtain ⟨rfl, rfl, rfl, rfl⟩ := H;have hnb28 := iB.o;have hnc28 := i5.o;obtain ⟨jV, NW, TW, BV, GV, vV, gV, zU⟩ := zcells4 X0.o;obtain ⟨BP, lV, LW, AU, JN, SU, cX, FU⟩ := zcells4 Q2.o;obtain ⟨WJ, jK, ta⟩ := Kd.qbO j4.o;subst ta;obtain ⟨JW, GU, fo⟩ := Kd.qbO D1.o;subst fo
    go_wp2
    refine bodyPost_ret (results_cell_row rfl _ _ M4 80 #[.bool false, .slice D7 H6.length E7, .slice WJ N4.length jK, .slice JW M3.length GU] (0, 0) _ rfl (by (with_reducible repeat (first | apply qas | apply qaq | apply qam)); refine qaX (cs := #[.bool false, .slice D7 H6.length E7, .slice WJ N4.length jK, .slice none 0 0]) ?_ 3 _ rfl; (with_reducible repeat (first | apply qas | apply qaq | apply qam)); refine qaX (cs := #[.bool false, .slice D7 H6.length E7, .slice none 0 0, .slice none 0 0]) ?_ 2 _ rfl; (with_reducible repeat (first | apply qas | apply qaq | apply qam)); refine qaX (cs := #[.bool false, .slice none 0 0, .slice none 0 0, .slice none 0 0]) ?_ 1 _ rfl; (with_reducible repeat (first | apply qas | apply qaq | apply qam)); refine qaX (cs := #[.bool false, .slice none 0 0, .slice none 0 0, .slice none 0 0]) ?_ 0 _ rfl; (with_reducible repeat (first | apply qas | apply qaq | apply qam)); exact Q2.o) Tryz.underlying80 rfl zdG) rfl ?_;exact ⟨_, _, _, zaM, by (with_reducible repeat (first | apply Kd.qbm | apply Kd.qbE | apply Kd.qbu)); exact Kd.qaU (Kd.qbp (p := ⟨M4, 3, none⟩) (Kd.qbp (p := ⟨M4, 2, none⟩) (Kd.qbp (p := ⟨M4, 1, none⟩) (Kd.qbp (p := ⟨M4, 0, none⟩) (Kd.qbg P1.o Q2.o zdK) (fun _ hk => hk.2) (.bool false)) (fun _ hk => hk.2) (.slice D7 H6.length E7)) (fun _ hk => hk.2) (.slice WJ N4.length jK)) (fun _ hk => hk.2) (.slice JW M3.length GU)) (fun _ hk => trivial), by (with_reducible repeat (first | apply Kd.qbm | apply Kd.qbE | apply Kd.qbu)); exact Kd.qaU (Kd.qbp (p := ⟨M4, 3, none⟩) (Kd.qbp (p := ⟨M4, 2, none⟩) (Kd.qbp (p := ⟨M4, 1, none⟩) (Kd.qbp (p := ⟨M4, 0, none⟩) (Kd.qbg j4.o Q2.o zdK) (fun _ hk => hk.2) (.bool false)) (fun _ hk => hk.2) (.slice D7 H6.length E7)) (fun _ hk => hk.2) (.slice WJ N4.length jK)) (fun _ hk => hk.2) (.slice JW M3.length GU)) (fun _ hk => trivial), by (with_reducible repeat (first | apply Kd.qbm | apply Kd.qbE | apply Kd.qbu)); exact Kd.qaU (Kd.qbp (p := ⟨M4, 3, none⟩) (Kd.qbp (p := ⟨M4, 2, none⟩) (Kd.qbp (p := ⟨M4, 1, none⟩) (Kd.qbp (p := ⟨M4, 0, none⟩) (Kd.qbg D1.o Q2.o zdK) (fun _ hk => hk.2) (.bool false)) (fun _ hk => hk.2) (.slice D7 H6.length E7)) (fun _ hk => hk.2) (.slice WJ N4.length jK)) (fun _ hk => hk.2) (.slice JW M3.length GU)) (fun _ hk => trivial), zaf K7.o KE.o⟩
def partL (l : List (ByteArray × Nat)) : List S91 := l.map (fun p => ⟨p.1, (p.2 : Int)⟩)
theorem qkA (l : List S91) (hl : l.length ≤ 1000) : ∀ (d i k : Nat) (y : List S61) (xs : List ByteArray) (ks : List Int), i + d = l.length → d < k → xs.length ≤ i → ks.length ≤ i → qaD.l0 k l (i : Int) false y xs ks = some (false, y, xs ++ (l.drop i).map (·.f0), ks ++ (l.drop i).map (·.f1)) := by
 intro d
 induction d with
 | zero =>
  intro i k y xs ks hi hk _ _;obtain ⟨k, rfl⟩ : ∃ j, k = j + 1 := ⟨k - 1, zdM⟩
  have hz : i = l.length := zdM;simp only [qaD.l0];rw [if_neg zdM, hz, List.drop_length];simp
 | succ d ih =>
  intro i k y xs ks hi hk hx hy;obtain ⟨k, rfl⟩ : ∃ j, k = j + 1 := ⟨k - 1, zdM⟩
  have hlt : i < l.length := zdM;have hrd : qde l (i : Int) = l[i] := by
   unfold qde;rw [Int.toNat_natCast];simp [List.getD_eq_getElem?_getD, hlt]
  have hw : wrap64 ((i : Int) + 1) = ((i + 1 : Nat) : Int) := zdn;have := ih (i + 1) k y (xs ++ [l[i].f0]) (ks ++ [l[i].f1]) zdM zdM zdF zdF;simp only [qaD.l0];rw [if_pos zdM, if_pos zdM, if_pos zdM, if_pos zdM, hrd, hw, this, List.drop_eq_getElem_cons hlt];simp only [List.map_cons, List.append_assoc, List.cons_append, List.nil_append]
theorem inner_is (l : List S91) (hl : l.length ≤ 1000) : qaD.f (l.length + 1) l = some (false, [], l.map (·.f0), l.map (·.f1)) := by
 have := qkA l hl l.length 0 (l.length + 1) [] [] [] zdM zdM zdN zdN;unfold qaD.f
 simpa using this
theorem qlE (w : World) (A : Option Addr) (c : Nat) (l : List (ByteArray × Nat)) (P : Nat → Prop) (hf : Kd.F k91 w P A (partL l).length (partL l)) (hc : (partL l).length ≤ c) (hl : l.length ≤ 1000) :
  Calls Tryz.prog 74 #[.slice A (partL l).length c] w fun e w' => ∃ v, e = .returned v ∧ NodeV w' (fun k => (P k ∧ k < w.heap.size) ∨ w.heap.size ≤ k) (qbf l).2 v ∧ Below w.heap.size w w' := by
 have hi := inner_is (partL l) (by unfold partL; rw [List.length_map]; exact hl);refine (qaD.calls (hr0 := Kd.qcT hf) (hc0 := hc) (h := hi)).mono ?_;rintro e w1 ⟨v1, v2, v3, rfl, h1, h2, h3, hb⟩;obtain ⟨A1, c1, rfl, g1, _⟩ := Kd.qa4 h1;obtain ⟨A2, c2, rfl, g2, _⟩ := Kd.qa4 h2;obtain ⟨A3, c3, rfl, g3, _⟩ := Kd.qa4 h3;have e2 : (partL l).map (·.f0) = (qbf l).2.f2 := by unfold partL qbf; rw [List.map_map]; rfl
 have e3 : (partL l).map (·.f1) = (qbf l).2.f3 := by unfold partL qbf; rw [List.map_map]; rfl
 rw [e2] at h2 g2;rw [e3] at h3 g3;refine ⟨_, rfl, ⟨A1, c1, A2, c2, A3, c3, ?_, ⟨Kd.qci (qfd h1) (fun k hk => .inr hk), g1⟩, ⟨Kd.qci (qfd h2) (fun k hk => .inr hk), g2⟩, ⟨Kd.qci (qfd h3) (fun k hk => .inr hk), g3⟩⟩, hb⟩;rw [e2, e3];rfl
theorem NodeV.mono {w : World} {P Q : Nat → Prop} {x : S80} {v : Value} (h : NodeV w P x v) (hp : ∀ k, P k → Q k) : NodeV w Q x v := by
 obtain ⟨A1, c1, A2, c2, A3, c3, rfl, h1, h2, h3⟩ := h.ex;exact ⟨A1, c1, A2, c2, A3, c3, rfl, ⟨Kd.qci h1.1 hp, h1.2⟩, ⟨Kd.qci h2.1 hp, h2.2⟩, ⟨Kd.qci h3.1 hp, h3.2⟩⟩
theorem ePt : ∀ q, q ∈ 91 :: k91.E → q = 91 ∨ q = 9 ∨ q = 3 := fun q hq => by
 simp only [k91, Kd.iso, Kd.pair, Kd.scalar, Kd.string, Kd.int, List.mem_cons, List.mem_append, List.not_mem_nil, or_false, false_or, List.append_nil, List.nil_append] at hq;simp [*]
theorem nePt : (∀ q, q ∈ 91 :: k91.E → q ≠ 84) ∧ (∀ q, q ∈ 91 :: k91.E → q ≠ 80) ∧ ∀ q, q ∈ 91 :: k91.E → q ≠ 4 := by
 refine ⟨fun q hq => ?_, fun q hq => ?_, fun q hq => ?_⟩ <;> (rcases ePt q hq with rfl | rfl | rfl <;> decide)
structure LvAt {α : Type} (kL : Kd α) (w0 w w' : World) (g gn cn gu cu : Nat) (P : Nat → Prop) (A : Option Addr) (L : List α) (b : List S80 × List Bool × Bool) (v : Value) (out : List S91) : Prop where
 below : Below w0.heap.size w0 w'
 kept : Kept w w' (S3 g gn gu)
 list : Kd.F kL w' (fun k => P k ∧ k < w.heap.size) A L.length L
 bs : BsAt w0 w' g gn cn gu cu b
 o : Kd.R k91 91 w' w.heap.size (fun _ => True) v out
section
variable {α : Type} {kL : Kd α} {w0 w w' w1 : World} {g gn cn gu cu : Nat} {P : Nat → Prop} {A : Option Addr} {L : List α} {b c : List S80 × List Bool × Bool} {v : Value} {out : List S91}
theorem LvAt.qbQ (h : LvAt kL w0 w w' g gn cn gu cu P A L b v out) (hb : Below w'.heap.size w' w1) : LvAt kL w0 w w1 g gn cn gu cu P A L b v out := ⟨qaa h.below hb, h.kept.below hb, Kd.qbF h.list hb, h.bs.below hb, Kd.qa7 h.o hb⟩
theorem LvAt.put (h : LvAt kL w0 w w' g gn cn gu cu P A L b v out) (hP : ∀ k, P k → ¬ S3 g gn gu k) (hb : BsAt w0 w1 g gn cn gu cu c) (hw : Below w0.heap.size w0 w1) (hk : Kept w' w1 (S3 g gn gu)) : LvAt kL w0 w w1 g gn cn gu cu P A L c v out :=
 ⟨hw, ⟨Nat.le_trans h.kept.1 hk.1, fun i hi hn => (hk.2 i (Nat.lt_of_lt_of_le hi h.kept.1) hn).trans (h.kept.2 i hi hn)⟩, Kd.qd2 h.list hk (fun k hk => hP k hk.1), hb, qkp h.o h.bs hk nePt.1 nePt.2.1 nePt.2.2⟩
theorem LvAt.grown (h : LvAt kL w0 w w' g gn cn gu cu P A L b v out) (h0 : w0.heap.size ≤ w.heap.size) (hg : w'.grownBy w1 v.ownBlock) {v1 : Value} {XJ : List S91} (ho : Kd.R k91 91 w1 w.heap.size (fun _ => True) v1 XJ) : LvAt kL w0 w w1 g gn cn gu cu P A L b v1 XJ := by
 have hbase := Kd.qdt h.o;have hs := h.kept.1;refine ⟨Below.grown h.below hg zdM (fun k hk => by have := hbase k hk; omega), ⟨Nat.le_trans hs hg.size, fun i hi hn => (hg.block i zdM (fun e => by have := hbase i e.symm; omega)).trans (h.kept.2 i hi hn)⟩, Kd.qig h.list hg (fun k hk e => by have := hbase k e.symm; have := hk.2; omega), h.bs.grown (Kd.qcZ h.o) hg zdK zdK zdK, ho⟩
theorem LvAt.node (h : LvAt kL w0 w w' g gn cn gu cu P A L b v out) (hP : ∀ k, P k → ¬ S3 g gn gu k) (hS : ∀ k, S3 g gn gu k → k < w.heap.size) {x : S80} {vn : Value} (hv : NodeV w1 (fun k => ((P k ∧ k < w.heap.size) ∧ k < w'.heap.size) ∨ w'.heap.size ≤ k) x vn) : NodeV w1 (fun k => ¬ S3 g gn gu k) x vn :=
 hv.mono fun k hk => by
  rcases hk with hk | hk
  ·exact hP k hk.1.1
  ·exact fun e => by have := hS k e; have := h.kept.1; omega
end
theorem leaf_key {L : List S61} {k : Nat} (h : 0 < k) : (qan L 0).f0 = (leafF (L.take k)).1 := by
 unfold leafF qdJ qan;simp only [Int.toNat_zero, Int.toNat_natCast, List.getD_eq_getElem?_getD, List.getElem?_take, h, if_true]
theorem qlF {L : List (ByteArray × Nat)} {k : Nat} (h : 0 < k) : (qde (partL L) 0).f0 = (qbf (L.take k)).1 := by
 obtain ⟨k, rfl⟩ : ∃ j, k = j + 1 := ⟨k - 1, zdM⟩
 cases L with
 | nil => rfl
 | cons a L => rfl
theorem qje {L : List S61} : (qan L 0).f0 = (leafF L).1 := rfl
theorem qhY {L : List (ByteArray × Nat)} : (qde (partL L) 0).f0 = (qbf L).1 := by
 cases L with
 | nil => rfl
 | cons a L => rfl
theorem qis {L : List S61} (h : L.length ≤ 1000) : (leafF L).2.f1.length ≤ 1000000 ∧ (leafF L).2.f2.length ≤ 1000000 ∧ (leafF L).2.f3.length ≤ 1000000 := by
 unfold leafF; simp; omega
theorem qg4 {L : List (ByteArray × Nat)} (h : L.length ≤ 1000) : (qbf L).2.f1.length ≤ 1000000 ∧ (qbf L).2.f2.length ≤ 1000000 ∧ (qbf L).2.f3.length ≤ 1000000 := by
 unfold qbf; simp; omega
theorem qit {x : S80} {b : List S80 × List Bool × Bool} (h : b.1.length = 50 ∧ b.2.1.length = 50) : (layB x b).2.1.length = 50 ∧ (layB x b).2.2.1.length = 50 := by
 have := qir x b;exact ⟨this.len.trans h.1, this.lenu.trans h.2⟩
theorem LvAt.list2 {α : Type} {kL : Kd α} {w0 w w' : World} {g gn cn gu cu : Nat} {P : Nat → Prop} {A A2 : Option Addr} {L L2 : List α} {b : List S80 × List Bool × Bool} {v : Value} {out : List S91} (h : LvAt kL w0 w w' g gn cn gu cu P A L b v out) (hf : Kd.F kL w' (fun k => P k ∧ k < w.heap.size) A2 L2.length L2) : LvAt kL w0 w w' g gn cn gu cu P A2 L2 b v out := ⟨h.below, h.kept, hf, h.bs, h.o⟩
theorem qe9 {α : Type} {d : Kd α} {e base : Nat} {ok : Nat → Prop} {v : Value} {xs : List α} {w0 w : World} {g gn cn gu cu : Nat} {b : List S80 × List Bool × Bool} (hb : BsAt w0 w g gn cn gu cu b) (h : d.R e w base ok v xs) (h1 : ∀ q, q ∈ e :: d.E → q ≠ 84) (h2 : ∀ q, q ∈ e :: d.E → q ≠ 80) (h3 : ∀ q, q ∈ e :: d.E → q ≠ 4) : ∃ A c, v = .slice A xs.length c ∧ xs.length ≤ c ∧ Kd.F d w (fun k => ¬ S3 g gn gu k ∧ k < w.heap.size) A xs.length xs := by
 obtain ⟨y, hy⟩ := hb.tn;obtain ⟨z, hz⟩ := hb.tu;have h4 := Kd.qbg (Kd.qbg (Kd.qbg h hb.blk h1) hy h2) hz h3;obtain ⟨A, c, rfl, hl, _⟩ := Kd.qa4 h4;refine ⟨A, c, rfl, hl, Kd.qci (Kd.R_F (Kd.qb5 h4)) fun k hk => ⟨?_, hk.2.2.1⟩⟩;obtain ⟨⟨⟨⟨_, a1⟩, a2⟩, a3⟩, _⟩ := hk;rintro (e | e | e)
 ·exact a1 e
 ·exact a2 e
 ·exact a3 e
theorem neP : ∀ q, q ∈ 61 :: k61.E → q ≠ 84 ∧ q ≠ 80 ∧ q ≠ 4 := fun q hq => by
 have : q = 61 ∨ q = 9 := by
  simp only [k61, Kd.iso, Kd.pair, Kd.scalar, Kd.string, Kd.int, List.mem_cons, List.mem_append, List.not_mem_nil, or_false, false_or, List.append_nil, List.nil_append] at hq;simp [*]
 rcases this with rfl | rfl <;> decide
theorem neS : ∀ q, q ∈ 9 :: Kd.string.E → q ≠ 84 ∧ q ≠ 80 ∧ q ≠ 4 := fun q hq => by
 have : q = 9 := zcu;rw [this]; decide
theorem neI : ∀ q, q ∈ 3 :: (Kd.int .i64).E → q ≠ 84 ∧ q ≠ 80 ∧ q ≠ 4 := fun q hq => by
 have : q = 3 := zcy;rw [this]; decide
theorem BsAt.node {w0 w : World} {g gn cn gu cu : Nat} {b : List S80 × List Bool × Bool} (h : BsAt w0 w g gn cn gu cu b) {k : Nat} {x : S80} (hx : b.1[k]? = some x) :
  ∃ A1 c1 A2 c2 A3 c3, (w.cell? ⟨gn, k * 4, none⟩ = some (.bool x.f0) ∧ w.cell? ⟨gn, k * 4 + 1, none⟩ = some (.slice A1 x.f1.length c1) ∧ w.cell? ⟨gn, k * 4 + 2, none⟩ = some (.slice A2 x.f2.length c2) ∧ w.cell? ⟨gn, k * 4 + 3, none⟩ = some (.slice A3 x.f3.length c3)) ∧
   (x.f1.length ≤ c1 ∧ Kd.F k61 w (fun k => ¬ S3 g gn gu k ∧ k < w.heap.size) A1 x.f1.length x.f1) ∧ (x.f2.length ≤ c2 ∧ Kd.F Kd.string w (fun k => ¬ S3 g gn gu k ∧ k < w.heap.size) A2 x.f2.length x.f2) ∧ (x.f3.length ≤ c3 ∧ Kd.F (Kd.int .i64) w (fun k => ¬ S3 g gn gu k ∧ k < w.heap.size) A3 x.f3.length x.f3) := by
 have hk : k < b.1.length := by
  rcases Nat.lt_or_ge k b.1.length with h2 | h2
  ·exact h2
  ·rw [List.getElem?_eq_none h2] at hx; cases hx
 obtain ⟨oki, c, _, hM, hcc, _, _, _⟩ := Kd.qeR h.nodes z80 (k : Int) zdM zdM;have he : b.1.getD (k : Int).toNat z80 = x := by rw [Int.toNat_natCast, List.getD_eq_getElem?_getD, hx]; rfl
 rw [he] at hM;obtain ⟨v1, v2, v3, rfl, r1, r2, r3⟩ := qeU hM;obtain ⟨A1, c1, rfl, l1, f1⟩ := qe9 h r1 (fun q hq => (neP q hq).1) (fun q hq => (neP q hq).2.1) (fun q hq => (neP q hq).2.2);obtain ⟨A2, c2, rfl, l2, f2⟩ := qe9 h r2 (fun q hq => (neS q hq).1) (fun q hq => (neS q hq).2.1) (fun q hq => (neS q hq).2.2);obtain ⟨A3, c3, rfl, l3, f3⟩ := qe9 h r3 (fun q hq => (neI q hq).1) (fun q hq => (neI q hq).2.1) (fun q hq => (neI q hq).2.2);exact ⟨A1, c1, A2, c2, A3, c3, ⟨hcc 0 _ rfl, hcc 1 _ rfl, hcc 2 _ rfl, hcc 3 _ rfl⟩, ⟨l1, f1⟩, ⟨l2, f2⟩, ⟨l3, f3⟩⟩
structure BoxN (w w' : World) (g gn gu gb : Nat) (x : S80) (A1 : Option Addr) (c1 : Nat) (A2 : Option Addr) (c2 : Nat) (A3 : Option Addr) (c3 : Nat) : Prop where
 new : gb = w.heap.size
 lt : gb < w'.heap.size
 blk : w'.heap[gb]? = some (.cells #[.bool x.f0, .slice A1 x.f1.length c1, .slice A2 x.f2.length c2, .slice A3 x.f3.length c3] 80 (0, 0))
 r1 : Kd.F k61 w' (fun k => ¬ S3 g gn gu k ∧ k < w.heap.size) A1 x.f1.length x.f1
 r2 : Kd.F Kd.string w' (fun k => ¬ S3 g gn gu k ∧ k < w.heap.size) A2 x.f2.length x.f2
 r3 : Kd.F (Kd.int .i64) w' (fun k => ¬ S3 g gn gu k ∧ k < w.heap.size) A3 x.f3.length x.f3
 l1 : x.f1.length ≤ c1
 l2 : x.f2.length ≤ c2
 l3 : x.f3.length ≤ c3
theorem BoxN.kept {w w' w1 : World} {g gn gu gb : Nat} {x : S80} {A1 : Option Addr} {c1 : Nat} {A2 : Option Addr} {c2 : Nat} {A3 : Option Addr} {c3 : Nat} (h : BoxN w w' g gn gu gb x A1 c1 A2 c2 A3 c3) (hS : ∀ k, S3 g gn gu k → k < w.heap.size) (hk : Kept w' w1 (S3 g gn gu)) : BoxN w w1 g gn gu gb x A1 c1 A2 c2 A3 c3 :=
 ⟨h.new, Nat.lt_of_lt_of_le h.lt hk.1, (hk.2 gb h.lt (fun e => by have := hS gb e; have := h.new; omega)).trans h.blk, Kd.qd2 h.r1 hk (fun k hk => hk.1), Kd.qd2 h.r2 hk (fun k hk => hk.1), Kd.qd2 h.r3 hk (fun k hk => hk.1), h.l1, h.l2, h.l3⟩
theorem BoxN.below {w w' w1 : World} {g gn gu gb : Nat} {x : S80} {A1 : Option Addr} {c1 : Nat} {A2 : Option Addr} {c2 : Nat} {A3 : Option Addr} {c3 : Nat} (h : BoxN w w' g gn gu gb x A1 c1 A2 c2 A3 c3) (hS : ∀ k, S3 g gn gu k → k < w.heap.size) (hb : Below w'.heap.size w' w1) : BoxN w w1 g gn gu gb x A1 c1 A2 c2 A3 c3 := h.kept hS (Kept.of_below hb _)
structure ChAt (w0 w w' : World) (g gn cn gu cu gb : Nat) (x : S80) (A1 : Option Addr) (c1 : Nat) (A2 : Option Addr) (c2 : Nat) (A3 : Option Addr) (c3 : Nat) (b : List S80 × List Bool × Bool) (v : Value) (out : List S91) : Prop where
 below : Below w0.heap.size w0 w'
 kept : Kept w w' (S3 g gn gu)
 box : BoxN w w' g gn gu gb x A1 c1 A2 c2 A3 c3
 bs : BsAt w0 w' g gn cn gu cu b
 o : Kd.R k91 91 w' w.heap.size (fun _ => True) v out
section
variable {w0 w w' w1 : World} {g gn cn gu cu gb : Nat} {x : S80} {A1 : Option Addr} {c1 : Nat} {A2 : Option Addr} {c2 : Nat} {A3 : Option Addr} {c3 : Nat} {b c : List S80 × List Bool × Bool} {v v1 : Value} {out XJ : List S91}
theorem ChAt.qbQ (h : ChAt w0 w w' g gn cn gu cu gb x A1 c1 A2 c2 A3 c3 b v out) (hS : ∀ k, S3 g gn gu k → k < w.heap.size) (hb : Below w'.heap.size w' w1) : ChAt w0 w w1 g gn cn gu cu gb x A1 c1 A2 c2 A3 c3 b v out := ⟨qaa h.below hb, h.kept.below hb, h.box.below hS hb, h.bs.below hb, Kd.qa7 h.o hb⟩
theorem ChAt.call (h : ChAt w0 w w' g gn cn gu cu gb x A1 c1 A2 c2 A3 c3 b v out) (hS : ∀ k, S3 g gn gu k → k < w.heap.size) (hb : BsAt w0 w1 g gn cn gu cu c) (hw : Below w0.heap.size w0 w1) (hk : Kept w' w1 (S3 g gn gu)) : ChAt w0 w w1 g gn cn gu cu gb x A1 c1 A2 c2 A3 c3 c v out :=
 ⟨hw, h.kept.qfZ hk (fun _ e => .inl e), h.box.kept hS hk, hb, qkp h.o h.bs hk nePt.1 nePt.2.1 nePt.2.2⟩
theorem ChAt.grown (h : ChAt w0 w w' g gn cn gu cu gb x A1 c1 A2 c2 A3 c3 b v out) (h0 : w0.heap.size ≤ w.heap.size) (hg : w'.grownBy w1 v.ownBlock) (ho : Kd.R k91 91 w1 w.heap.size (fun _ => True) v1 XJ) : ChAt w0 w w1 g gn cn gu cu gb x A1 c1 A2 c2 A3 c3 b v1 XJ := by
 have hbase := Kd.qdt h.o;have hs := h.kept.1;have hF : ∀ k, (¬ S3 g gn gu k ∧ k < w.heap.size) → some k ≠ v.ownBlock := fun k hk e => by have := hbase k e.symm; have := hk.2; omega
 refine ⟨Below.grown h.below hg zdM (fun k hk => by have := hbase k hk; omega), Kept.qeh hg h.kept (fun k hk => .inr (hbase k hk)), ⟨h.box.new, Nat.lt_of_lt_of_le h.box.lt hg.size, qbe h.box.blk hg (Kd.R_ne h.o h.box.blk zdK), Kd.qig h.box.r1 hg hF, Kd.qig h.box.r2 hg hF, Kd.qig h.box.r3 hg hF, h.box.l1, h.box.l2, h.box.l3⟩, h.bs.grown (Kd.qcZ h.o) hg zdK zdK zdK, ho⟩
end
def preL (parts ch : List (ByteArray × Nat)) (m i : Nat) : List (ByteArray × Nat) := if i ≤ m then parts.take i else parts.take m ++ ch ++ (parts.drop (m + 1)).take (i - (m + 1))
theorem qlG (parts ch : List (ByteArray × Nat)) (m : Nat) : preL parts ch m 0 = [] := by unfold preL; rw [if_pos (Nat.zero_le _)]; rfl
theorem preL_at (parts ch : List (ByteArray × Nat)) (m : Nat) : preL parts ch m (m + 1) = preL parts ch m m ++ ch := by
 unfold preL;rw [if_neg zdM, if_pos (Nat.le_refl _), Nat.sub_self, List.take_zero, List.append_nil]
theorem qlH {parts ch : List (ByteArray × Nat)} {m i : Nat} (h : i ≠ m) (hi : i < parts.length) : preL parts ch m (i + 1) = preL parts ch m i ++ [parts[i]] := by
 unfold preL
 by_cases hl : i < m
 ·rw [if_pos zdM, if_pos zdM, List.take_succ_eq_append_getElem hi]
 ·have hd : i - (m + 1) < (parts.drop (m + 1)).length := zcL;rw [if_neg zdM, if_neg zdM, show i + 1 - (m + 1) = i - (m + 1) + 1 from zdM, List.take_succ_eq_append_getElem hd, List.getElem_drop, List.append_assoc, List.append_assoc];simp only [show m + 1 + (i - (m + 1)) = i from zdM, List.append_assoc]
theorem preL_end {parts ch : List (ByteArray × Nat)} {m : Nat} (h : m < parts.length) : preL parts ch m parts.length = parts.take m ++ ch ++ parts.drop (m + 1) := by
 unfold preL;rw [if_neg zdM, List.take_of_length_le (l := parts.drop (m + 1)) zcL]
theorem qiu {parts ch : List (ByteArray × Nat)} {m i : Nat} (hi : i ≤ parts.length) : (preL parts ch m i).length ≤ parts.length + ch.length := by
 unfold preL
 split
 ·rw [List.length_take]; omega
 ·rw [List.length_append, List.length_append, List.length_take, List.length_take, List.length_drop]; omega
theorem qlI {T : Nat → List S61 → List Nat → Prop} : ∀ (ms : List (ByteArray × Nat)) (ps : List S61) (pg : List Nat) (i : Nat) (h : i < ms.length), PD T ms ps pg → ∃ p q, T (ms[i]).2 p q := by
 intro ms
 induction ms with
 | nil => intro ps pg i h; exact absurd h (Nat.not_lt_zero _)
 | cons a ms ih =>
  intro ps pg i h hp;obtain ⟨p1, p2, g1, g2, rfl, rfl, h1, h2, h3⟩ := hp
  cases i with
  | zero => exact ⟨p1, g1, h1⟩
  | succ i => exact ih p2 g2 i zdB h3
theorem qgq (a b : List (ByteArray × Nat)) : partL (a ++ b) = partL a ++ partL b := by unfold partL; rw [List.map_append]
theorem qeb (l : List S61) (b : List S80 × List Bool × Bool) : (qbA l b).1.length ≤ 2 := by unfold qbA; rw [qcX]; exact (qcY 3 l).1
theorem qjU (l : List (ByteArray × Nat)) (b : List S80 × List Bool × Bool) : (qbP l b).1.length ≤ 2 := by unfold qbP; rw [qcX]; exact (qcY 4 l).1
theorem qdy (dop : List S61 → List S61) (key : ByteArray) (n k : Nat) (b : List S80 × List Bool × Bool) : (qbk dop key n k b).1.length ≤ 2 := by
 cases n with
 | zero => unfold qbk; simp
 | succ n =>
  unfold qbk
  split
  ·exact qeb _ _
  ·exact qjU _ _
section
variable {P : Program} {ops : Array Oper} {md : Region.Mode} {C : World → Prop}
def inBk (k m j : Nat) : Bool := Nat.ble k j && Nat.ble (j + 1) (k + m)
def qcq (md : Region.Mode) (ops : Array Oper) (i : Nat) : List Nat := ((ops[i]?).map fun o => (o.after.toList.filter (Region.binds md)).map (·.on)).getD []
def qfg (n : Nat) (f : Nat → Bool) : Array Bool := ((List.range n).map f).toArray
def qkq (X : Array Bool) (k m : Nat) : Nat := (List.range m).countP fun t => !X.getD (k + t) true
def qjf (md : Region.Mode) (ops : Array Oper) (L : Array Bool) (k m : Nat) : Bool :=
  Region.noSelect ops && (L.size == ops.size) && Nat.ble (k + m) ops.size &&
  ((List.range m).all fun t => !L.getD (k + t) true &&
     ((qcq md ops (k + t)).all fun e => Nat.ble (e + 1) (k + t) && (inBk k m e || L.getD e true)) &&
     (((List.range m).any fun u => Nat.ble (t + 1) u && (qcq md ops (k + u)).contains (k + t)) || (List.range ops.size).all fun j => L.getD j true || inBk k m j || (qcq md ops j).any fun e => e == k + t || (!L.getD e true && !inBk k m e))) &&
  Region.lexFrom md ops m k (qfg ops.size fun j => L.getD j true || !inBk k m j)
theorem qdV {k m j : Nat} : inBk k m j = true ↔ k ≤ j ∧ j < k + m := by
  unfold inBk;rw [Bool.and_eq_true, Nat.ble_eq, Nat.ble_eq];omega
theorem qg5 {n j : Nat} {f : Nat → Bool} : (qfg n f).getD j true = if j < n then f j else true := by
  unfold qfg
  by_cases h : j < n
  · simp [h]
  · simp [h]
theorem qg6 {n : Nat} {f : Nat → Bool} : (qfg n f).size = n := by unfold qfg; simp
theorem qjV {X : Array Bool} {j : Nat} (h : j < X.size) : X.getD j false = X.getD j true := by simp [h]
theorem qfx {j : Nat} {X : Array Bool} (hX : X.size = ops.size) (hn : ∀ e ∈ qcq md ops j, e < ops.size) : j ∈ Region.ready md ops X ↔ X.getD j true = false ∧ ∀ e ∈ qcq md ops j, X.getD e true = true := by
  rw [mem_ready]
  constructor
  · rintro ⟨h0, o, ho, h⟩;refine ⟨h0, fun e he => ?_⟩;have he2 := hn e he;unfold qcq at he;rw [ho] at he;simp only [Option.map_some, Option.getD_some, List.mem_map, List.mem_filter] at he;obtain ⟨x, ⟨h1, h2⟩, rfl⟩ := he;rw [← qjV zdM];exact h x (by simpa using h1) h2
  · rintro ⟨h0, h⟩;have hlt : j < ops.size := by
      rcases Nat.lt_or_ge j ops.size with h' | h'
      · exact h'
      · simp [show X.size ≤ j from zdM] at h0
    refine ⟨h0, ops[j], by simp [hlt], fun e he hb => ?_⟩;have hm : e.on ∈ qcq md ops j := by
      unfold qcq;simp only [hlt, Array.getElem?_eq_getElem, Option.map_some, Option.getD_some, List.mem_map, List.mem_filter];exact ⟨e, ⟨by simpa using he, hb⟩, rfl⟩
    rw [qjV (by have := hn _ hm; omega)];exact h _ hm
theorem qg7 : ∀ (m t : Nat) (p q : Nat → Bool), t < m → p t = true → q t = false → (∀ u, u ≠ t → q u = p u) → (List.range m).countP p = (List.range m).countP q + 1
  | 0, _, _, _, h, _, _, _ => absurd h zdM
  | m + 1, t, p, q, h, h1, h2, h3 => by
    rw [List.range_succ, List.countP_append, List.countP_append, List.countP_singleton, List.countP_singleton]
    by_cases he : t = m
    · subst he;rw [h1, h2, if_pos rfl, if_neg zdK];have : (List.range t).countP p = (List.range t).countP q := by
        apply List.countP_congr;intro x hx;rw [h3 x (by have := List.mem_range.1 hx; omega)]
      omega
    · rw [qg7 m t p q zdM h1 h2 h3, h3 m (Ne.symm he)];omega
theorem qhZ {Q : Act → Prop} (hs : Region.noSelect ops = true) : ∀ (l : List Oper) (k : Nat) (listed : Array Bool) (a : Act), (∀ j, j < l.length → l[j]? = ops[k + j]?) →
    Region.lexFrom md ops l.length k listed = true → wpQuiet P ops C Q l a → wpAnyQ P md ops C Q l.length listed a
  | [], _, _, _, _, hB, h => ⟨by simpa [Region.lexFrom] using hB, h⟩
  | o :: l, k, listed, a, hl, hB, h => by
    have h0 : ops[k]? = some o := by simpa using (hl 0 zdN).symm
    simp only [List.length_cons, Region.lexFrom, Bool.and_eq_true] at hB;obtain ⟨⟨hr, hf⟩, hB'⟩ := hB;have hst : qOp P ops C k (wpQuiet P ops C Q l) a := by unfold qOp; simp only [h0]; exact h
    obtain ⟨v, hy, hK⟩ := yieldsIn_of_qOp h0 hst;exact wpAnyQ_first h0 (Region.noSelect_spec hs) l.length listed a (Region.free_spec h0 hf) (by simpa using hr) hy
      (qhZ hs l (k + 1) _ _ (fun j hj => by have := hl (j + 1) zdF; simpa [Nat.add_assoc, Nat.add_comm 1 j] using this) hB' hK)
theorem qlJ {Qa : Act → Prop} {Q : Exit → Act → World → Prop} {L : Array Bool} {k m r : Nat} (hB : qjf md ops L k m = true)
    (hQ : ∀ a w, C w → Qa a → wpAny P md ops Q r (qfg ops.size fun j => L.getD j true || inBk k m j) a w) :
    ∀ (fuel : Nat) (X X' : Array Bool) (a : Act) (w : World), C w → X.size = ops.size → X'.size = ops.size → (∀ j, X'.getD j true = (X.getD j true || !inBk k m j)) → (∀ j, inBk k m j = false → X.getD j true = L.getD j true) →
      (∀ i, inBk k m i = true → X.getD i true = true → ∀ e ∈ qcq md ops i, X.getD e true = true) → qkq X k m = fuel → wpAnyQ P md ops C Qa fuel X' a → wpAny P md ops Q (fuel + r) X a w := by
  simp only [qjf, Bool.and_eq_true, List.all_eq_true, List.mem_range, beq_iff_eq, Nat.ble_eq, Bool.or_eq_true, List.any_eq_true, List.contains_eq_mem, decide_eq_true_eq, Bool.not_eq_true'] at hB;obtain ⟨⟨⟨⟨_, hLs⟩, hkm⟩, hall⟩, _⟩ := hB;have hb : ∀ i, inBk k m i = true → L.getD i true = false ∧ (∀ e ∈ qcq md ops i, e < i ∧ (inBk k m e = true ∨ L.getD e true = true)) ∧ ((∃ j, inBk k m j = true ∧ i < j ∧ i ∈ qcq md ops j) ∨ ∀ j, j < ops.size → L.getD j true = false → inBk k m j = false → ∃ e ∈ qcq md ops j, e = i ∨ (L.getD e true = false ∧ inBk k m e = false)) := by
    intro i hi;have hi2 := qdV.1 hi;obtain ⟨⟨h1, h2⟩, h3⟩ := hall (i - k) zdM;rw [show k + (i - k) = i from zdM] at h1 h2 h3;refine ⟨h1, fun e he => ⟨by have := (h2 e he).1; omega, (h2 e he).2⟩, ?_⟩
    rcases h3 with ⟨u, hu, hu1, hu2⟩ | h3
    · exact .inl ⟨k + u, qdV.2 zdM, zdM, hu2⟩
    · exact .inr fun j hj hl hn => by
        rcases h3 j hj with (h | h) | h
        · rw [hl] at h; cases h
        · rw [hn] at h; cases h
        · obtain ⟨e, h1, h2⟩ := h;refine ⟨e, h1, h2.imp id fun h => ?_⟩
          simpa using h
  intro fuel
  induction fuel with
  | zero =>
    intro X X' a w hC hX hX' hR hO hcl hn h;have hfull : X = qfg ops.size fun j => L.getD j true || inBk k m j := by
      apply Array.ext
      · rw [qg6, hX]
      · intro j h1 h2;have e1 : ∀ (Y : Array Bool) (h : j < Y.size), Y[j] = Y.getD j true := fun Y h => by simp [h]
        rw [e1 X h1, e1 _ h2, qg5, if_pos zdM]
        cases hj : inBk k m j with
        | false => rw [hO j hj, Bool.or_false]
        | true =>
          rw [Bool.or_true];have hj2 := qdV.1 hj;have := List.countP_eq_zero.1 hn (j - k) (List.mem_range.2 zdM);rw [show k + (j - k) = j from zdM] at this
          simpa using this
    rw [Nat.zero_add, hfull];exact hQ a w hC h.2
  | succ fuel ih =>
    intro X X' a w hC hX hX' hR hO hcl hn h;have hun : ∃ t, t < m ∧ X.getD (k + t) true = false := by
      have : 0 < qkq X k m := zdM;obtain ⟨t, ht, h1⟩ := List.countP_pos_iff.1 this;exact ⟨t, List.mem_range.1 ht, by simpa using h1⟩
    have hfirst : ∃ p, p ∈ Region.ready md ops X := by
      have hmin : ∀ n, (∃ i, inBk k m i = true ∧ X.getD i true = false ∧ i ≤ n) → ∃ i, inBk k m i = true ∧ X.getD i true = false ∧ ∀ e, e < i → inBk k m e = true → X.getD e true = true := by
        intro n
        induction n with
        | zero =>
          rintro ⟨i, h1, h2, h3⟩;exact ⟨i, h1, h2, fun e he => zdM⟩
        | succ n ih2 =>
          rintro ⟨i, h1, h2, h3⟩
          by_cases hx : ∃ e, e < i ∧ inBk k m e = true ∧ X.getD e true = false
          · obtain ⟨e, g1, g2, g3⟩ := hx;exact ih2 ⟨e, g2, g3, zdM⟩
          · exact ⟨i, h1, h2, fun e he hb2 => by
              cases hc : X.getD e true with
              | true => rfl
              | false => exact absurd ⟨e, he, hb2, hc⟩ hx⟩
      obtain ⟨t, ht, hx⟩ := hun;obtain ⟨i, h1, h2, h3⟩ := hmin (k + t) ⟨k + t, qdV.2 zdM, hx, Nat.le_refl _⟩;have hi := hb i h1;have hi2 := qdV.1 h1;refine ⟨i, (qfx hX (fun e he => by have := (hi.2.1 e he).1; omega)).2 ⟨h2, fun e he => ?_⟩⟩
      cases hbe : inBk k m e with
      | true => exact h3 e (hi.2.1 e he).1 hbe
      | false =>
        rw [hO e hbe]
        rcases (hi.2.1 e he).2 with h | h
        · rw [hbe] at h; cases h
        · exact h
    have hin : ∀ i, i ∈ Region.ready md ops X → inBk k m i = true := by
      intro i hi
      cases hbi : inBk k m i with
      | true => rfl
      | false =>
        exfalso
        obtain ⟨hi0, o, ho, hi1⟩ := mem_ready.1 hi;have hlt : i < ops.size := (Array.getElem?_eq_some_iff.1 ho).1;have hmax : ∀ n, (∃ p, inBk k m p = true ∧ X.getD p true = false ∧ k + m - p ≤ n) → ∃ p, inBk k m p = true ∧ X.getD p true = false ∧ ∀ e, p < e → inBk k m e = true → X.getD e true = true := by
          intro n
          induction n with
          | zero =>
            rintro ⟨p, h1, h2, h3⟩;exact absurd (qdV.1 h1) zdM
          | succ n ih2 =>
            rintro ⟨p, h1, h2, h3⟩
            by_cases hx : ∃ e, p < e ∧ inBk k m e = true ∧ X.getD e true = false
            · obtain ⟨e, g1, g2, g3⟩ := hx;exact ih2 ⟨e, g2, g3, by have := qdV.1 g2; omega⟩
            · exact ⟨p, h1, h2, fun e he hb2 => by
                cases hc : X.getD e true with
                | true => rfl
                | false => exact absurd ⟨e, he, hb2, hc⟩ hx⟩
        obtain ⟨t, ht, hx⟩ := hun;obtain ⟨p, h1, h2, h3⟩ := hmax _ ⟨k + t, qdV.2 zdM, hx, Nat.le_refl _⟩
        rcases (hb p h1).2.2 with ⟨j, g1, g2, g3⟩ | hd
        · have := hcl j g1 (h3 j g2 g1) p g3;rw [h2] at this; cases this
        · obtain ⟨e, hpi, he⟩ := hd i hlt (by rw [← hO i hbi]; exact hi0) hbi;have hX2 : X.getD e true = false := he.elim (fun h => by rw [h]; exact h2) (fun h => by rw [hO e h.2]; exact h.1);have hes : e < X.size := by
            rcases Nat.lt_or_ge e X.size with h | h
            · exact h
            · simp [h] at hX2
          unfold qcq at hpi;rw [ho] at hpi;simp only [Option.map_some, Option.getD_some, List.mem_map, List.mem_filter] at hpi;obtain ⟨x, ⟨q1, q2⟩, rfl⟩ := hpi;have := hi1 x (by simpa using q1) q2;rw [qjV hes, hX2] at this
          cases this
    rw [show fuel + 1 + r = (fuel + r) + 1 from zdM];refine ⟨fun h0 => ?_, fun i hi => ?_⟩
    · obtain ⟨p, hp⟩ := hfirst;rw [h0] at hp
      cases hp
    · have hbi := hin i hi;have hi2 := qdV.1 hbi;have hb2 := hb i hbi;have hnl : ∀ e ∈ qcq md ops i, e < ops.size := fun e he => by have := (hb2.2.1 e he).1; omega
      obtain ⟨hi0, hi1⟩ := (qfx hX hnl).1 hi;have hi' : i ∈ Region.ready md ops X' := (qfx hX' hnl).2 ⟨by rw [hR, hi0, hbi]; rfl, fun e he => by rw [hR, hi1 e he]; rfl⟩;refine wpOp_of_qOp hC (fun a' w' hC' hK => ?_) (h.2 i hi');have gs : ∀ (Y : Array Bool) (j : Nat), Y.size = ops.size → (Y.setIfInBounds i true).getD j true = if j = i then true else Y.getD j true := by
        intro Y j hY
        by_cases hj : j = i
        · subst hj;rw [if_pos rfl];simp [show j < Y.size from zdM]
        · rw [if_neg hj, getD_set_ne true (Ne.symm hj)]
      refine ih (X.setIfInBounds i true) (X'.setIfInBounds i true) a' w' hC' (by simpa using hX) (by simpa using hX') (fun j => ?_) (fun j hj => ?_) (fun j hj hx e he => ?_) ?_ hK
      · rw [gs X j hX, gs X' j hX']
        by_cases hj : j = i
        · rw [if_pos hj, if_pos hj]; rfl
        · rw [if_neg hj, if_neg hj]; exact hR j
      · rw [gs X j hX, if_neg (fun h => by rw [h, hbi] at hj; cases hj)];exact hO j hj
      · rw [gs X e hX]
        by_cases hei : e = i
        · rw [if_pos hei]
        · rw [if_neg hei]
          by_cases hji : j = i
          · subst hji; exact hi1 e he
          · rw [gs X j hX, if_neg hji] at hx;exact hcl j hj hx e he
      · have := qg7 m (i - k) (fun t => !X.getD (k + t) true) (fun t => !(X.setIfInBounds i true).getD (k + t) true) zdM (by show (!X.getD (k + (i - k)) true) = true; rw [show k + (i - k) = i from zdM, hi0]; rfl)
          (by show (!(X.setIfInBounds i true).getD (k + (i - k)) true) = false; rw [gs X _ hX, if_pos zdM]; rfl) (fun u hu => by show (!(X.setIfInBounds i true).getD (k + u) true) = (!X.getD (k + u) true); rw [gs X _ hX, if_neg zdM])
        unfold qkq at hn ⊢;omega
theorem wp_block {Q : Exit → Act → World → Prop} {L : Array Bool} {k m r : Nat} {a : Act} {w w0 : World} (hB : qjf md ops L k m = true) (hw : ∃ n, w = w0.drewN n)
    (h : wpQuiet P ops (fun w' => ∃ n, w' = w0.drewN n) (fun a' => ∀ w', (∃ n, w' = w0.drewN n) → wpAny P md ops Q r (qfg ops.size fun j => L.getD j true || inBk k m j) a' w') ((ops.toList.drop k).take m) a) : wpAny P md ops Q (m + r) L a w := by
  have hB2 := hB;simp only [qjf, Bool.and_eq_true, List.all_eq_true, List.mem_range, beq_iff_eq, Nat.ble_eq, Bool.or_eq_true, List.any_eq_true, List.contains_eq_mem, decide_eq_true_eq, Bool.not_eq_true'] at hB2;obtain ⟨⟨⟨⟨hs, hLs⟩, hkm⟩, hall⟩, hlex⟩ := hB2;have hlen : ((ops.toList.drop k).take m).length = m := zdF;have hq := qhZ (md := md) hs ((ops.toList.drop k).take m) k (qfg ops.size fun j => L.getD j true || !inBk k m j) a (fun j hj => by
    rw [hlen] at hj;rw [List.getElem?_take, if_pos hj, List.getElem?_drop];simp) (by rw [hlen]; exact hlex) h
  rw [hlen] at hq;refine qlJ hB (fun a' w' hw' h => h w' hw') m L _ a w hw hLs qg6 (fun j => ?_) (fun _ _ => rfl) (fun i hi hx => ?_) ?_ hq
  · rw [qg5]
    by_cases hj : j < ops.size
    · rw [if_pos hj]
    · rw [if_neg hj];simp [show L.size ≤ j from zdM]
  · have hi2 := qdV.1 hi;have := (hall (i - k) zdM).1.1;rw [show k + (i - k) = i from zdM, hx] at this
    cases this
  · unfold qkq;rw [List.countP_eq_length.2 (fun t ht => by have := (hall t (List.mem_range.1 ht)).1.1; rw [this]; rfl), List.length_range]
theorem qcE {id : Nat} {Q : Exit → Act → World → Prop} {a : Act} {w : World} {l : List Oper} (m r : Nat) (hm : P.follows .mixedOrders = true) (hn : l.toArray.size = m + r) (hB : qjf .any l.toArray (Array.replicate l.toArray.size false) 0 m = true)
    (h : wpQuiet P l.toArray (fun w' => ∃ n, w' = w.drewN n) (fun a' => ∀ w', (∃ n, w' = w.drewN n) → wpAny P .any l.toArray Q r (qfg l.toArray.size fun j => (Array.replicate l.toArray.size false).getD j true || inBk 0 m j) a' w') (l.take m) a) : (Code.region id l.toArray true).wp P Q a w := by
  refine wp_region_any hm ?_;have hq := wp_block (Q := Q) (r := r) (w := w.drew) (w0 := w) hB ⟨1, rfl⟩ (by rw [List.drop_zero]; exact h);rw [← hn] at hq;exact hq
theorem qlK {Q : Exit → Act → World → Prop} {L : Array Bool} {r i : Nat} {o : Oper} {a : Act} {w : World} (hi : ops[i]? = some o) (hr : Region.ready md ops L = [i])
    (h : ∀ K' : Act → World → Prop, Shut (∀ a w, wpAny P md ops Q r (L.setIfInBounds i true) a w → K' a w) → if Region.wanted o (yielded ops a.tmps) = true then Oper.wp P o a w K' Q else K' (a.put o.dst undef) w) : wpAny P md ops Q (r + 1) L a w :=
  wpAny_all hr zdN (fun j hj => by
    rw [List.mem_singleton] at hj;subst hj;exact wpOp_step hi h)
theorem qiv {Q : Exit → Act → World → Prop} {L : Array Bool} {i : Nat} {o : Oper} {a : Act} {w : World} (hi : ops[i]? = some o) (hr : Region.ready md ops L = [i]) (hd : Region.ready md ops (L.setIfInBounds i true) = [])
    (h : ∀ K' : Act → World → Prop, Shut (∀ a w, Q .normal a w → K' a w) → if Region.wanted o (yielded ops a.tmps) = true then Oper.wp P o a w K' Q else K' (a.put o.dst undef) w) : wpAny P md ops Q 1 L a w :=
  qlK (r := 0) hi hr (fun K' hK => h K' (fun a w hq => hK.o a w (wpAny_done hd hq 0)))
end
def qb7.f (B0 : ByteArray) (I2 : ByteArray) : Option (Bool) := (qch.f B0).bind fun sT => (if sT = true then (some (decide ((I2.size : Int) ≤ 90))) else (some false))
theorem qb7.calls (B0 : ByteArray) (I2 : ByteArray) (r : Bool) (w : World) (h : qb7.f B0 I2 = some r) :
  Calls Tryz.prog 118 #[.agg #[.string B0, .string I2]] w fun e w' => e = .returned (.bool r) ∧ Below w.heap.size w w' := by
 have SK := Tryz.underlying61;have HB := z_ (Below.refl w.heap.size w);have H : ((qch.f B0).bind fun sT => (if sT = true then (some (decide ((I2.size : Int) ≤ 90))) else (some false))) = some r := h;clear h;replace H := Option.bind_eq_some_iff.mp H;obtain ⟨sT, aK, H⟩ := H;try dsimp only at H
 have A2 := z_ aK;clear aK
 by_cases c3 : sT = true
 ·subst c3;rw [if_pos rfl] at H;obtain rfl := Option.some.inj H
  go_enter Tryz.func118, Tryz.ntmps118
  go_wp2_with (first | ((with_reducible refine qaw (N := 1) rfl ?_); (try (refine qcg zdO ?_; dsimp only)); refine qaH zdO (N := 1) zdO (cs := #[.string B0, .string I2]) (t := 61) zcm ?_; intro KK hg w4 hbox hb; have vT := z_ (hbox); have ie := z_ ((zao : w.heap.size ≤ KK)); have BT := z_ ((zao : w.heap.size ≤ KK)); replace HB := z_ (qaa zar hb); clear hb hbox hg; obtain ⟨CT, aT, xT, UT⟩ := zcells2 vT.o) | ((with_reducible refine qax (f := 49) rfl ?_); refine qbq (some 5) rfl rfl Tryz.func49 zdG rfl #[.string B0] rfl zaq ?_; (with_reducible refine (qch.calls B0 true _ A2.o).mono ?_); rintro e w' ⟨rfl, ⟨nd, rfl⟩⟩; refine ⟨_, rfl, ?_⟩))
  go_ret
  exact ⟨zaM, zab BT.o⟩
 ·replace c3 := Bool.eq_false_iff.mpr c3;subst c3;rw [if_neg zft_] at H;obtain rfl := Option.some.inj H
  go_enter Tryz.func118, Tryz.ntmps118
  go_wp2_with (first | ((with_reducible refine qaw (N := 1) rfl ?_); (try (refine qcg zdO ?_; dsimp only)); refine qaH zdO (N := 1) zdO (cs := #[.string B0, .string I2]) (t := 61) zcm ?_; intro KK hg w6 hbox hb; have vT := z_ (hbox); have ie := z_ ((zao : w.heap.size ≤ KK)); have BT := z_ ((zao : w.heap.size ≤ KK)); replace HB := z_ (qaa zar hb); clear hb hbox hg; obtain ⟨FM, pL, bN, ZL⟩ := zcells2 vT.o) | ((with_reducible refine qax (f := 49) rfl ?_); refine qbq (some 5) rfl rfl Tryz.func49 zdG rfl #[.string B0] rfl zaq ?_; (with_reducible refine (qch.calls B0 false _ A2.o).mono ?_); rintro e w' ⟨rfl, ⟨nd, rfl⟩⟩; refine ⟨_, rfl, ?_⟩))
  go_ret
  exact ⟨zaM, zab BT.o⟩
theorem qjg (p : S61) : qb7.f p.f0 p.f1 = some (okP p) := by
 unfold qb7.f okP;have e : ((p.f1.size : Int) ≤ 90) = (p.f1.size ≤ 90) := propext zdM;rw [qio, Option.bind_some]
 cases keyB p.f0 <;> simp [e]
def qbY.f (B0 : ByteArray) (I2 : ByteArray) : Option (Bool) := (qaY.f (B0.size : Int) 1 30).bind fun cU => (if cU = true then (some (decide ((I2.size : Int) ≤ 90))) else (some false))
theorem qbY.calls (B0 : ByteArray) (I2 : ByteArray) (r : Bool) (w : World) (h : qbY.f B0 I2 = some r) :
  Calls Tryz.prog 112 #[.agg #[.string B0, .string I2]] w fun e w' => e = .returned (.bool r) ∧ Below w.heap.size w w' := by
 have SK := Tryz.underlying61;have HB := z_ (Below.refl w.heap.size w);have H : ((qaY.f (B0.size : Int) 1 30).bind fun cU => (if cU = true then (some (decide ((I2.size : Int) ≤ 90))) else (some false))) = some r := h;clear h;replace H := Option.bind_eq_some_iff.mp H;obtain ⟨cU, aK, H⟩ := H;try dsimp only at H
 have A2 := z_ aK;clear aK
 by_cases c3 : cU = true
 ·subst c3;rw [if_pos rfl] at H;obtain rfl := Option.some.inj H
  go_enter Tryz.func112, Tryz.ntmps112
  go_wp2_with (first | ((with_reducible refine qaw (N := 1) rfl ?_); (try (refine qcg zdO ?_; dsimp only)); refine qaH zdO (N := 1) zdO (cs := #[.string B0, .string I2]) (t := 61) zcm ?_; intro NJ hg w4 hbox hb; have VT := z_ (hbox); have Jh := z_ ((zao : w.heap.size ≤ NJ)); have AS := z_ ((zao : w.heap.size ≤ NJ)); replace HB := z_ (qaa zar hb); clear hb hbox hg; obtain ⟨CT, aT, xT, UT⟩ := zcells2 VT.o) | ((with_reducible refine qax (f := 38) rfl ?_); refine qbq (some 6) rfl rfl Tryz.func38 zdG rfl #[.int .i64 (B0.size : Int), .int .i64 1, .int .i64 30] rfl zaq ?_; (with_reducible refine (qaY.calls (B0.size : Int) 1 30 true _ A2.o).mono ?_); rintro e w' ⟨rfl, ⟨nd, rfl⟩⟩; refine ⟨_, rfl, ?_⟩))
  go_ret
  exact ⟨zaM, zab AS.o⟩
 ·replace c3 := Bool.eq_false_iff.mpr c3;subst c3;rw [if_neg zft_] at H;obtain rfl := Option.some.inj H
  go_enter Tryz.func112, Tryz.ntmps112
  go_wp2_with (first | ((with_reducible refine qaw (N := 1) rfl ?_); (try (refine qcg zdO ?_; dsimp only)); refine qaH zdO (N := 1) zdO (cs := #[.string B0, .string I2]) (t := 61) zcm ?_; intro NJ hg w6 hbox hb; have VT := z_ (hbox); have Jh := z_ ((zao : w.heap.size ≤ NJ)); have AS := z_ ((zao : w.heap.size ≤ NJ)); replace HB := z_ (qaa zar hb); clear hb hbox hg; obtain ⟨FM, pL, bN, ZL⟩ := zcells2 VT.o) | ((with_reducible refine qax (f := 38) rfl ?_); refine qbq (some 6) rfl rfl Tryz.func38 zdG rfl #[.int .i64 (B0.size : Int), .int .i64 1, .int .i64 30] rfl zaq ?_; (with_reducible refine (qaY.calls (B0.size : Int) 1 30 false _ A2.o).mono ?_); rintro e w' ⟨rfl, ⟨nd, rfl⟩⟩; refine ⟨_, rfl, ?_⟩))
  go_ret
  exact ⟨zaM, zab AS.o⟩
theorem qjh (p : S61) : qbY.f p.f0 p.f1 = some (okP p) := by
 unfold qbY.f okP;have e : ((p.f1.size : Int) ≤ 90) = (p.f1.size ≤ 90) := propext zdM;rw [qkj, Option.bind_some]
 cases keyB p.f0 <;> simp [e]
structure Later (w : World) where
 val : World
 below : Below w.heap.size w val
instance Later.here (w : World) : Inhabited (Later w) := ⟨⟨w, Below.refl _ _⟩⟩
theorem Later.cell {w : World} (p : Later w) {a : Addr} {v : Value} (h : w.cell? a = some v) : p.val.cell? a = some v := qez p.below h
theorem qbc {P : Program} {id : Nat} {Q : Exit → Act → World → Prop} {a : Act} {w : World} {l : List Oper} (hm : P.follows .mixedOrders = true) (hB : Region.lexB .any l.toArray = true)
  (h : wpQuiet P l.toArray (fun w' => ∃ p : Later w.drew, w' = p.val) (fun a' => ∀ w', (∃ p : Later w.drew, w' = p.val) → Q .normal a' w') l a) : (Code.region id l.toArray true).wp P Q a w :=
 wp_region_quiet (C := fun w' => ∃ p : Later w.drew, w' = p.val) hm hB ⟨⟨w.drew, Below.refl _ _⟩, rfl⟩ zdB
theorem Calls.qbv {P : Program} {f : FuncId} {args : Array Value} {w : World} {p : Later w} {v : Value}
  (h : Calls P f args p.val fun e w' => e = .returned v ∧ Below p.val.heap.size p.val w') : Calls P f args p.val fun e w'' => e = .returned v ∧ ∃ q : Later w, w'' = q.val :=
 h.mono fun _ _ ⟨he, hb⟩ => ⟨he, ⟨_, qaa p.below hb⟩, rfl⟩
theorem Calls.qbL {P : Program} {f : FuncId} {args : Array Value} {w : World} {p : Later w} {v : Value}
  (h : Calls P f args p.val fun e w' => e = .returned v ∧ qcm p.val w') : Calls P f args p.val fun e w'' => e = .returned v ∧ ∃ q : Later w, w'' = q.val :=
 Calls.qbv (h.mono fun _ _ ⟨he, hb⟩ => ⟨he, hb.below⟩)
end Go.Proofs.YtcdokcpiahbejaaGreat.X
