import Derived.Test.YtcdokcpiahbejaaKFnRefs10
namespace Go.Proofs.Ytcdokcpiahbejaa.X
open Go.RowKit Go.Proofs.YtcdokcpiahbejaaW.PrintWords Go.Proofs.YtcdokcpiahbejaaW.PrintLast Go.Proofs.YtcdokcpiahbejaaW.PrintMore
attribute [local go_sem] qax qay qaz qat qau qaJ qaK qam qan qav qaw
set_option linter.unusedVariables false
set_option linter.unusedSimpArgs false
def qfc.T6 : Bool × List (List Nat × List Nat) := (true, [([], []), ([0], [0]), ([], []), ([], []), ([3], [3]), ([1, 2, 0, 1, 2, 3, 4], [1, 2]), ([5, 4, 4, 0, 1, 2, 3, 4], [4, 5])])
def qfc.B6 : List Nat := [0, 1, 0, 0, 8, 31, 63]
theorem qfc.tab6 : rtab .any (opsOf Try.f70 6) = qfc.T6 := zbS
theorem qfc.bits6 : qbv qfc.T6.2 qfc.B6 = true := zbS
def qcE (ns : List S75) (pages keep : List Bool) (i : Nat) (ms : List S75) : Prop := ms.length = 50 ∧ ∀ j, j < 50 → ms.getD j z75 = if j < i ∧ pages.getD j false = false ∧ keep.getD j false = false then z75 else ns.getD j z75
theorem qcE.zero {ns : List S75} {pages keep : List Bool} (h : ns.length = 50) : qcE ns pages keep 0 ns := ⟨h, fun j _ => by rw [if_neg (fun h => absurd h.1 (Nat.not_lt_zero _))]⟩
theorem qcE.free {ns ms : List S75} {pages keep : List Bool} {i : Nat} (h : qcE ns pages keep i ms) (hi : i < 50) (h1 : pages.getD i false = false) (h2 : keep.getD i false = false) : qcE ns pages keep (i + 1) (ms.set i z75) := by
 refine ⟨by rw [List.length_set]; exact h.1, fun j hj => ?_⟩
 by_cases e : j = i
 ·subst e;rw [if_pos ⟨zbV, h1, h2⟩, List.getD_eq_getElem?_getD, List.getElem?_set_self (by rw [h.1]; exact hj)];rfl
 ·have := h.2 j hj;rw [List.getD_eq_getElem?_getD] at this ⊢;rw [List.getElem?_set_ne (fun e2 => e e2.symm), this];have e3 : (j < i + 1) = (j < i) := by simp only [eq_iff_iff]; omega
  simp only [e3]
theorem qcE.keep {ns ms : List S75} {pages keep : List Bool} {i : Nat} (h : qcE ns pages keep i ms) (h1 : pages.getD i false = true ∨ keep.getD i false = true) : qcE ns pages keep (i + 1) ms := by
 refine ⟨h.1, fun j hj => ?_⟩;rw [h.2 j hj]
 by_cases e : j = i
 ·subst e;rw [if_neg (fun h => absurd h.1 (Nat.lt_irrefl _)), if_neg];rintro ⟨_, h2, h3⟩
  rcases h1 with h1 | h1
  ·rw [h1] at h2; cases h2
  ·rw [h1] at h3; cases h3
 ·have e3 : (j < i + 1) = (j < i) := by simp only [eq_iff_iff]; omega
  simp only [e3]
theorem qgJ {w : World} {base gn n c : Nat} {ns : List S75} {k t : Nat} {x : Array Value} (h : Kd.S k75 75 w base (fun _ => True) (.slice (some ⟨gn, 0, none⟩) n c) ns) (hk : w.heap[k]? = some (.cells x t (0, 0))) (ht : t ≠ 75) : k ≠ gn := by
 obtain ⟨y, hy⟩ := Kd.qdN h gn (qcS _ _ _);exact qc7 hk hy ht
theorem qjP : ∀ q, q ∈ 75 :: k75.E → q ≠ 25 := fun q hq => by
 rcases eN q hq with rfl | rfl | rfl | rfl <;> decide
theorem qcE.all {ns ms : List S75} {pages keep : List Bool} (hl : ns.length = 50) (h : qcE ns pages keep 50 ms) : ms = onlyN ns (orW keep pages) := by
 refine List.ext_getElem? fun j => ?_
 unfold onlyN;rw [List.getElem?_map]
 by_cases hj : j < 50
 ·have h1 := h.2 j hj;have h2 := qdS (a := keep) (b := pages) hj;rw [List.getElem?_range hj, Option.map_some];have e1 : ms[j]? = some (ms.getD j z75) := by rw [List.getD_eq_getElem?_getD, List.getElem?_eq_getElem (by rw [h.1]; exact hj)]; rfl
  rw [e1, h1]
  congr 1
  unfold qbj at h2
  by_cases hu : (orW keep pages).getD j false = true
  ·rw [if_pos hu]
   rcases h2.1 hu with h3 | h3
   ·rw [if_neg]; rintro ⟨_, _, h4⟩; rw [h3] at h4; cases h4
   ·rw [if_neg]; rintro ⟨_, h4, _⟩; rw [h3] at h4; cases h4
  ·rw [if_neg hu, if_pos];refine ⟨hj, ?_, ?_⟩
   ·cases e : pages.getD j false with
    | false => rfl
    | true => exact absurd (h2.2 (.inr e)) hu
   ·cases e : keep.getD j false with
    | false => rfl
    | true => exact absurd (h2.2 (.inl e)) hu
 ·rw [List.getElem?_eq_none (by rw [h.1]; omega), List.getElem?_eq_none (by rw [List.length_range]; omega)];rfl
set_option linter.unusedVariables false
set_option maxHeartbeats 16000000 in
set_option maxRecDepth 100000 in
theorem sswept (w0 w : World) (gn cn : Nat) (ns : List S75) (keep : List Bool) (root : Int) (hB : Below w0.heap.size w0 w) (hS : Kd.S k75 75 w w0.heap.size (fun _ => True) (.slice (some ⟨gn, 0, none⟩) ns.length cn) ns) (hl : ns.length = 50) (hsm : qcv ns = true) (A : Option Addr) (ck : Nat) (P : Nat → Prop) (hP : ∀ k, P k → k ≠ gn) (hk : Kd.F Kd.bool w P A keep.length keep) (hkl : keep.length = 50) (hkc : keep.length ≤ ck) :
  Calls Try.prog 70 #[.agg #[.slice (some ⟨gn, 0, none⟩) ns.length cn], .int .i64 root, .slice A keep.length ck] w fun e w' => e = .returned (.agg #[.slice (some ⟨gn, 0, none⟩) ns.length cn]) ∧ Kd.S k75 75 w' w0.heap.size (fun _ => True) (.slice (some ⟨gn, 0, none⟩) ns.length cn) (onlyN ns (orW keep (walkR ns root).2.1)) ∧ Below w0.heap.size w0 w' ∧ Kept w w' (fun k => k = gn) := by
 have hu := Try.underlying75;have hu2 := Try.underlying25;obtain ⟨gh, hgh⟩ : ∃ gh, gh = w.heap.size := ⟨_, rfl⟩
 obtain ⟨W1, hW1⟩ : ∃ W1, W1 = w.alloc (Obj.cells #[.slice (some ⟨gn, 0, none⟩) ns.length cn] 25 (0, 0)) := ⟨_, rfl⟩
 obtain ⟨gr, hgr⟩ : ∃ gr, gr = W1.heap.size := ⟨_, rfl⟩
 have rP : gr = w.heap.size + 1 := by rw [hgr, hW1]; exact Array.size_push _
 obtain ⟨W2, hW2⟩ : ∃ W2, W2 = W1.alloc (Obj.cells #[.slice none 0 0] 25 (0, 0)) := ⟨_, rfl⟩
 have qO : Below w.heap.size w W1 := by rw [hW1]; exact qas (Below.refl _ _) _
 have hY2 : Below W1.heap.size W1 W2 := zbr;have hX1 : W1.heap[gh]? = some (.cells #[.slice (some ⟨gn, 0, none⟩) ns.length cn] 25 (0, 0)) := by rw [hW1, hgh]; exact qcb w _
 have HXH := z_ (qap hX1 hY2);have HXR := z_ (show W2.heap[gr]? = some (.cells #[.slice none 0 0] 25 (0, 0)) from by rw [hW2, hgr]; exact qcb W1 _);have HYW := z_ (qad qO hY2);have HS2 := z_ (Kd.qck hS HYW.o);have p7 := z_ (Kd.qbT (Kd.qgy hk) HYW.o);have HB2 := z_ (qad hB HYW.o);have HLS := z_ hl;have HGN := z_ (Kd.qih hS gn (qcS _ _ _));have HON := z_ (qeh z75 zbT);have HLK := z_ (And.intro hkl hkc);have HPP := z_ (show ∀ k, (P k ∧ k < w.heap.size) → k ≠ gn from fun k h => hP k h.1);have HSP := z_ (show qb1.f ns root = some (walkR ns root) from if_pos hsm);have HG := z_ (And.intro hgh (And.intro hgr (Kd.S_lt hS gn (qcS _ _ _))));have HRS := z_ (Kd.qbU hS).2.1;have HGR := z_ (show w.heap.size ≤ gr ∧ w0.heap.size ≤ gr from by have := hB.size; omega);clear hB hS hl hsm hP hk hkl hkc qO hY2 hX1
 go_enter Try.func70, Try.ntmps70
 go_upto_region 1 with fail
 rw [← hW1, ← hW2, ← rP, ← hgh];clear hW1 hW2 rP hgr hgh;have hc0 := qac HXH.o 0;simp only [List.getElem?_toArray, List.getElem?_cons_zero] at hc0
 go_wp2_with fail
 refine (qb1.calls _ _ ns root _ _ _ W2 (Kd.qbU HS2.o).2.2 HRS.o (h := HSP.o)).mono ?_;rintro e w1 ⟨v0, v1, rfl, h0, h1, hb1⟩;obtain ⟨pages, hpg⟩ : ∃ pages, pages = (lookW ns root).2.1 := ⟨_, rfl⟩
 rw [← hpg] at h1;have HPL := z_ (show pages.length = 50 from by rw [hpg]; exact (qeG ns root).1);have HPE := z_ (show pages = (walkR ns root).2.1 from hpg);obtain ⟨A1, cp, rfl, lp, _⟩ := Kd.qbI h1;have HG2 := z_ (show gn < W2.heap.size ∧ w.heap.size ≤ W2.heap.size ∧ gr < W2.heap.size ∧ gh < W2.heap.size ∧ w.heap.size ≤ gr ∧ w0.heap.size ≤ gr from by
  have := HG.o; have := HYW.o.size; have a1 := qbH HXR.o; have a2 := qbH HXH.o;have b1 := HB2.o.size;refine ⟨zbV, this, a1, a2, ?_, ?_⟩
  ·exact HGR.o.1
  ·exact HGR.o.2)
 have HPF := z_ (show Kd.F Kd.bool w1 (fun k => k ≠ gn) A1 pages.length pages from Kd.qdi (qht h1) (fun k hk e => by have := HG2.o.1; omega));have HPC := z_ lp;have HKF := z_ (show Kd.F Kd.bool w1 (fun k => k ≠ gn) A keep.length keep from Kd.qdi (Kd.qbT p7.o hb1) HPP.o);have kM := z_ (Kd.qck HS2.o hb1);have HB1 := z_ (qad HB2.o hb1);have cO := z_ (qap HXH.o hb1);have PN := z_ (qap HXR.o hb1);have kH := z_ (qad HYW.o hb1);have HNG := z_ (And.intro (qgJ kM.o cO.o zbT) (qgJ kM.o PN.o zbT));clear hpg h0 h1 hb1 lp hc0 HS2 p7 HB2 HXH HXR
 go_wp2_with fail
 go_loopw [10] (fun v10 wr => ∃ (i : Nat) (ms : List S75), i ≤ 50 ∧ v10 = .int .i64 (i : Int) ∧ Aside0 (qcE ns pages keep i ms) ∧ Aside0 (Kd.S k75 75 wr w0.heap.size (fun _ => True) (.slice (some ⟨gn, 0, none⟩) ns.length cn) ms) ∧ Aside0 (Below w0.heap.size w0 wr) ∧ Aside0 (Kept w1 wr (S3 gn gn gn))) (fun v10 _ => 50 - (intOf v10).toNat)
 case atStart => exact ⟨0, ns, Nat.zero_le _, rfl, ⟨qcE.zero HLS.o⟩, kM, HB1, ⟨Kept.refl _ _⟩⟩
 case round =>
  obtain ⟨i, ms, hi, rfl, HSW, HS, HB, HK⟩ := hrel;have hne : ∀ k, k ≠ gn → ¬ S3 gn gn gn k := fun k hk e => by rcases e with e | e | e <;> exact hk e
  have HXHr := z_ ((HK.o.2 gh (qbH cO.o) (hne _ HNG.o.1)).trans cO.o);have HXRr := z_ ((HK.o.2 gr (qbH PN.o) (hne _ HNG.o.2)).trans PN.o);have HPFr := z_ (Kd.qdj HPF.o HK.o hne);have HKFr := z_ (Kd.qdj HKF.o HK.o hne);have hc0 := qac HXHr.o 0;simp only [List.getElem?_toArray, List.getElem?_cons_zero] at hc0;clear hne
  by_cases hlt : i < 50
  ·have c1 : decide ((i : Int) < 50) = true := decide_eq_true zbV;have w2 : IntKind.i64.wrap ((i : Int) + 1) = (i : Int) + 1 := zbF;have p1 : (0 : Int) ≤ (i : Int) := zbV;have q1 : (i : Int) < (pages.length : Int) := by have := HPL.o; omega
   have q2 : (i : Int) < (keep.length : Int) := by have := HLK.o.1; omega
   obtain ⟨adp, rfl, hxp⟩ := Kd.qcX (Kd.qdc HPFr.o) (i : Int) p1 q1;obtain ⟨adk, rfl, hxk⟩ := Kd.qcX (Kd.qdc HKFr.o) (i : Int) p1 q2;rw [Int.toNat_natCast, qc8] at hxp hxk
   cases hpi : pages.getD i false with
   | true =>
    rw [hpi] at hxp;have HN := z_ (HSW.o.keep (.inl hpi));clear hpi
    go_wp2_with fail
    go_roundw
    case rel => exact ⟨i + 1, ms, zbV, zbU, HN, HS, HB, HK⟩
    case measure => simp [intOf]; omega
   | false =>
    rw [hpi] at hxp
    cases hki : keep.getD i false with
    | true =>
     rw [hki] at hxk;have HN := z_ (HSW.o.keep (.inr hki));clear hpi hki
     go_wp2_with fail
     go_roundw
     case rel => exact ⟨i + 1, ms, zbV, zbU, HN, HS, HB, HK⟩
     case measure => simp [intOf]; omega
    | false =>
     rw [hki] at hxk;have HN := z_ (HSW.o.free hlt hpi hki);clear hpi hki;have HQ := z_ (show (i < ns.length) = True from eq_true (by have := HLS.o; omega))
     go_upto_region 6 with fail
     have nY := z_ (qai HXHr.o);have oO := z_ (show Kd.S k75 75 wr.drew w0.heap.size (fun k => k < wr.drew.heap.size) (.slice (some ⟨gn, 0, none⟩) ns.length cn) ms from Kd.qcx (Kd.qet (Kd.qc9 HS.o)) (fun k hk => hk.2.2.1));have HB3 := z_ (qaW HB.o);have oB := z_ (show Kept w1 wr.drew (S3 gn gn gn) from HK.o.drew);have i9 := z_ (Below.refl wr.drew.heap.size wr.drew);clear HXHr HS HB HK;refine qbY (n := 7) (S := fun w' => True) (ds := []) #[false, false, false, false, false, false, false] zbS rfl rfl trivial (fun hHeld => ?_);refine qbg qfc.tab6 qfc.bits6 (fun l4 R6 => ?_);generalize wr.drew = wd at nY oO HB3 oB i9 ⊢;refine qcd [0, 1, 2, 3, 4, 5, 6] (fun E8 b a w' => ∃ (v1 : Value) (v2 : Value) (v3 : Value) (jA : Value), a = qa7 E8 b [(0, 34, .pointer (some ⟨gh, 0, none⟩)), (1, 35, .slice (some ⟨gn, 0, none⟩) ns.length cn), (2, 36, .int .i64 (i : Int)), (3, 37, .agg #[.bool false, .slice none 0 0, .slice none 0 0, .slice none 0 0]), (4, 38, jA), (5, 39, .pointer (some ⟨gn, i * 4, none⟩))] ∧ (b 6 = false → Below wd.heap.size wd w') ∧ (b 4 = true → b 6 = false → Kd.R k77 77 w' wd.heap.size (fun _ => True) v1 z75.f1) ∧ (b 4 = true → b 6 = false → Kd.R Kd.string 9 w' wd.heap.size (fun _ => True) v2 z75.f2) ∧ (b 4 = true → b 6 = false → Kd.R (Kd.int .i64) 3 w' wd.heap.size (fun _ => True) v3 z75.f3) ∧ (b 6 = true → Kd.S k75 75 w' w0.heap.size (fun _ => True) (.slice (some ⟨gn, 0, none⟩) ns.length cn) (ms.set i z75)) ∧ (b 6 = true → Below w0.heap.size w0 w') ∧ (b 6 = true → Kept w1 w' (S3 gn gn gn)) ∧ (b 4 = true → (jA : Value) = .agg #[.bool z75.f0, v1, v2, v3])) l4.o R6.o zbS zbS ?_ ?_ ?_
     ·exact ⟨.bool false, .bool false, .bool false, .bool false, zaO, fun _ => i9.o, fun h_ => absurd h_ zbT, fun h_ => absurd h_ zbT, fun h_ => absurd h_ zbT, fun h_ => absurd h_ zbT, fun h_ => absurd h_ zbT, fun h_ => absurd h_ zbT, fun h_ => absurd h_ zbT⟩
     ·skip;clear i9;refine qaa ?_ ?_
      ·rintro b a w' ⟨v1, v2, v3, jA, ha, QT⟩ hb_ hon hoff;refine ⟨_, rfl, fun K hK => ?_⟩;have e3 : a.tmps[3]? = some (.pointer (some ⟨gh, 0, none⟩)) := zbu;replace ha := z_ ha;refine qae (w1 := w') (v := .pointer (some ⟨gh, 0, none⟩)) zbX rfl zbt ?_;refine hK.o _ _ ⟨v1, v2, v3, jA, zbg, QT⟩
      refine qaa ?_ ?_
      ·rintro b a w' ⟨v1, v2, v3, jA, ha, QT⟩ hb_ hon hoff;refine ⟨_, rfl, fun K hK => ?_⟩;have e34 : a.tmps[34]? = some (.pointer (some ⟨gh, 0, none⟩)) := zon_ ha 0 rfl rfl hon;replace ha := z_ ha;have i9 := z_ (QT.1 (hoff 6 zbS));have L7 := qac (qap nY.o i9.o) 0;simp only [List.getElem?_toArray, List.getElem?_cons_zero] at L7;refine qae (w1 := w') (v := .slice (some ⟨gn, 0, none⟩) ns.length cn) zbX rfl zbt ?_;refine hK.o _ _ ⟨v1, v2, v3, jA, zbh, QT⟩
      refine qaa ?_ ?_
      ·rintro b a w' ⟨v1, v2, v3, jA, ha, QT⟩ hb_ hon hoff;refine ⟨_, rfl, fun K hK => ?_⟩;have e10 : a.tmps[10]? = some (.int .i64 (i : Int)) := zbu;replace ha := z_ ha;refine qae (w1 := w') (v := .int .i64 (i : Int)) zbX rfl zbt ?_;refine hK.o _ _ ⟨v1, v2, v3, jA, zbi, QT⟩
      refine qaa ?_ ?_
      ·rintro b a w' ⟨v1, v2, v3, jA, ha, QT⟩ hb_ hon hoff;refine ⟨_, rfl, fun K hK => ?_⟩;replace ha := z_ ha;refine qae (w1 := w') (v := .agg #[.bool false, .slice none 0 0, .slice none 0 0, .slice none 0 0]) zbX rfl zbt ?_;refine hK.o _ _ ⟨v1, v2, v3, jA, zbj, QT⟩
      refine qaa ?_ ?_
      ·rintro b a w' ⟨v1, v2, v3, jA, ha, R8, UD, sE, kE, jE, zD, dF, X8⟩ hb_ hon hoff;refine ⟨_, rfl, fun K hK => ?_⟩;have e37 : a.tmps[37]? = some (.agg #[.bool false, .slice none 0 0, .slice none 0 0, .slice none 0 0]) := zon_ ha 3 rfl rfl hon;replace ha := z_ ha;have i9 := z_ (R8 (hoff 6 zbS));have hs_ := i9.o.size;refine qdr Try.func66 zbS rfl #[.agg #[.bool false, .slice none 0 0, .slice none 0 0, .slice none 0 0]] zbX rfl rfl (by first | (simp only [List.map_toArray, List.map_cons, List.map_nil, Act.eval, Array.getD_eq_getD_getElem?, Option.getD_some, e37]; done) | (simp only [List.map_toArray, List.map_cons, List.map_nil, Act.eval, Array.getD_eq_getD_getElem?, Option.getD_some, e37]; rfl)) ?_;refine (qbK.calls false none 0 [] none 0 [] none 0 [] _ _ _ _ w' (Kd.qhL _ _) (Nat.le_refl _) (Kd.qhL _ _) (Nat.le_refl _) (Kd.qhL _ _) (Nat.le_refl _) (h := HON.o)).mono ?_;rintro e_ lO ⟨OJ, ZL, zN, rfl, u3, oX, la, hb1⟩;refine ⟨_, rfl, ?_⟩;refine hK.o _ _ ⟨OJ, ZL, zN, (.agg #[.bool z75.f0, OJ, ZL, zN]), zbk, fun _ => qad i9.o hb1, fun _ _ => Kd.qa9 u3 hs_, fun _ _ => Kd.qa9 oX hs_, fun _ _ => Kd.qa9 la hs_, nf_ (hoff 6 zbS), nf_ (hoff 6 zbS), nf_ (hoff 6 zbS), fun _ => rfl⟩
      refine qaa ?_ ?_
      ·rintro b a w' ⟨v1, v2, v3, jA, ha, QT⟩ hb_ hon hoff;refine ⟨_, rfl, fun K hK => ?_⟩;have e35 : a.tmps[35]? = some (.slice (some ⟨gn, 0, none⟩) ns.length cn) := zon_ ha 1 rfl rfl hon;have e36 : a.tmps[36]? = some (.int .i64 (i : Int)) := zon_ ha 2 rfl rfl hon;replace ha := z_ ha;have yd := HQ.o;have Sa : (i : Int) < (ns.length : Int) := by have := HLS.o; omega
       refine qae (w1 := w') (v := .pointer (some ⟨gn, i * 4, none⟩)) zbX rfl zbt ?_;refine hK.o _ _ ⟨v1, v2, v3, jA, zbl, QT⟩
      refine qaa ?_ ?_
      ·rintro b a w' ⟨v1, v2, v3, jA, ha, R8, UD, sE, kE, jE, zD, dF, X8⟩ hb_ hon hoff;refine ⟨_, rfl, fun K hK => ?_⟩;have e39 : a.tmps[39]? = some (.pointer (some ⟨gn, i * 4, none⟩)) := zon_ ha 5 rfl rfl hon;have e38 : a.tmps[38]? = some (jA) := zon_ ha 4 rfl rfl hon;rw [X8 (hon 4 zbS)] at e38;replace ha := z_ ha;have i9 := z_ (R8 hb_);have R1 := z_ (UD (hon 4 zbS) hb_);have R2 := z_ (sE (hon 4 zbS) hb_);have R3 := z_ (kE (hon 4 zbS) hb_);obtain ⟨_, oH, bL, _, MC, lE, _, _⟩ := Kd.qij (Kd.qck oO.o i9.o) z75 (i : Int) zbV (by have := HLS.o; omega);obtain ⟨rX, lW, xY, xf, OH⟩ : ∃ y0 y1 y2 y3, oH = [y0, y1, y2, y3] := by have jY : oH.length = 4 := bL; match oH, jY with | [a0, a1, a2, a3], _ => exact ⟨a0, a1, a2, a3, rfl⟩
       subst OH;have IS := MC 0 _ rfl;have m8 := MC 1 _ rfl;have l8 := MC 2 _ rfl;have nC := MC 3 _ rfl;have H0 := lE 0;have I0 := lE 1;have K0 := lE 2;have U0 := lE 3;simp only [Int.toNat_natCast, show k75.sz = 4 from rfl, Nat.add_zero] at IS m8 l8 nC H0 I0 K0 U0;have nU := (Kd.qgv R1.o).2;have MS := (Kd.qgv R2.o).2;have VS := (Kd.qgv R3.o).2;have bZ : ∀ (a_ : Addr) (m_ : Mode) (W_ : World), (store a_ v1 m_).run Try.prog W_ = stored Try.prog W_ a_ v1 m_ := fun a_ m_ W_ => run_store _ W_ a_ v1 m_ nU
       have JZ : ∀ (a_ : Addr) (m_ : Mode) (W_ : World), (store a_ v2 m_).run Try.prog W_ = stored Try.prog W_ a_ v2 m_ := fun a_ m_ W_ => run_store _ W_ a_ v2 m_ MS
       have LZ : ∀ (a_ : Addr) (m_ : Mode) (W_ : World), (store a_ v3 m_).run Try.prog W_ = stored Try.prog W_ a_ v3 m_ := fun a_ m_ W_ => run_store _ W_ a_ v3 m_ VS
       refine qeR (w1 := (set4 w' gn (i * 4) (.bool z75.f0) v1 v2 v3)) zbX rfl zbP ?_;refine hK.o _ _ ⟨v1, v2, v3, jA, zbq, fun N7 => absurd ((qa5 b 6).symm.trans N7) zbT, fun _ u3 => absurd ((qa5 b 6).symm.trans u3) zbT, fun _ u3 => absurd ((qa5 b 6).symm.trans u3) zbT, fun _ u3 => absurd ((qa5 b 6).symm.trans u3) zbT, fun _ => S_put (Kd.qck oO.o i9.o) (by have := HLS.o; omega) z75 R1.o R2.o R3.o HB3.o.size ⟨nU, MS, VS⟩, fun _ => qiq (qad HB3.o i9.o) HGN.o _ _ _ _, fun _ => kept4 (oB.o.below i9.o) _ _ _ _, X8⟩
      exact qbo
     rintro b a wE hall ⟨v1, v2, v3, jA, ha, R8, UD, sE, kE, jE, zD, dF, X8⟩;clear i9;have X2 := hall 0 zbS;have X1 := hall 1 zbS;have N2 := hall 2 zbS;have M2 := hall 3 zbS;have I2 := hall 4 zbS;have D3 := hall 5 zbS;have j3 := hall 6 zbS;subst ha;obtain rfl := X8 I2;simp only [qa7, X2, X1, N2, M2, I2, D3, j3, if_true, Act.put, List.setIfInBounds_toArray, List.set_cons_zero, List.set_cons_succ];clear R8 UD sE kE;have SSF := z_ (jE j3);clear jE;have HBF := z_ (zD j3);clear zD;have HKF := z_ (dF j3);clear dF hall X2 X1 N2 M2 I2 D3 j3
     go_wp2_with fail
     go_roundw
     case rel => exact ⟨i + 1, ms.set i z75, zbV, zbU, HN, SSF, HBF, HKF⟩
     case measure => simp [intOf]; omega
  ·have c1 : decide ((i : Int) < 50) = false := decide_eq_false zbV;have hr0 := qac HXRr.o 0;have hf0 := qab HXRr.o 0;simp only [List.getElem?_toArray, List.getElem?_cons_zero] at hr0;have hie : i = 50 := zbV;have HE := z_ (show ms = onlyN ns (orW keep (walkR ns root).2.1) from by
    have := HSW.o;rw [hie] at this;rw [← HPE.o];exact qcE.all HLS.o this)
   clear hie
   go_wp2_with fail
   refine bodyPost_ret (results_cell_row rfl _ _ gr 25 #[.slice (some ⟨gn, 0, none⟩) ns.length cn] (0, 0) _ rfl (qbm (cs := #[.slice none 0 0]) HXRr.o 0 _ rfl) Try.underlying25 rfl zbS) rfl ?_;rw [← HE.o];refine ⟨rfl, Kd.qji HS.o HXRr.o qjP 0 _, HB.o.setCell (p := ⟨gr, 0, none⟩) HG2.o.2.2.2.2.2 _, ?_⟩;have h1 : Kept w wr (fun k => k = gn) := (Kept.of_below kH.o _).qg3 HK.o (fun k hk => .inl (by rcases hk with e | e | e <;> exact e));exact h1.setCell (p := ⟨gr, 0, none⟩) (.inr HG2.o.2.2.2.2.1) _
end Go.Proofs.Ytcdokcpiahbejaa.X
namespace Go.Proofs.Ytcdokcpiahbejaa.X
open Go.RowKit Go.Proofs.YtcdokcpiahbejaaW.PrintWords Go.Proofs.YtcdokcpiahbejaaW.PrintLast Go.Proofs.YtcdokcpiahbejaaW.PrintMore
attribute [local go_sem] qax qay qaz qat qau qaJ qaK qam qan qav qaw
set_option linter.unusedVariables false
set_option linter.unusedSimpArgs false
def GoodS (ns : List S75) (s : List Bool) : Prop := ∀ i : Nat, rdOf false s (i : Int) = true → i < ns.length ∧ nbN (qaH ns (i : Int)) = true ∧ fbN (qaH ns (i : Int)) = false
theorem qiT {Q : List Bool → Prop} {f : Int → List Bool → List S77 → Bool × List Bool × List S77} (hf : ∀ k s p, Q s → Q (f k s p).2.1) : ∀ (ks : List Int) (ms : List ByteArray) (s : List Bool) (p : List S77), Q s → Q (kidsW f ks ms s p).2.1 := by
 intro ks
 induction ks with
 | nil => intro ms s p h; rw [qdk]; exact h
 | cons k ks ih =>
  intro ms s p h
  cases ms with
  | nil => exact h
  | cons m ms =>
   rw [qdA]
   split
   ·exact ih _ _ _ (hf k s p h)
   ·exact hf k s p h
theorem qiU (ns : List S75) : ∀ (n : Nat) (k : Int) (s : List Bool) (p : List S77), GoodS ns s → GoodS ns (walkW ns n k s p).2.1 := by
 intro n
 induction n with
 | zero => intro k s p h; exact h
 | succ n ih =>
  intro k s p h;unfold walkW
  split
  ·rename_i hg;obtain ⟨g0, g1, _, g3, g4⟩ := hg;refine qiT ih _ _ _ _ fun i hi => ?_
   by_cases e : i = k.toNat
   ·have ek : (i : Int) = k := zbV;rw [ek];exact ⟨zbV, g3, g4⟩
   ·refine h i ?_;unfold rdOf at hi ⊢;rw [Int.toNat_natCast] at hi ⊢;rw [List.getD_eq_getElem?_getD, List.getElem?_set_ne (fun h => e h.symm), ← List.getD_eq_getElem?_getD] at hi;exact hi
  ·exact h
theorem none_off (i : Nat) : rdOf false noneW (i : Int) = false := by
 unfold rdOf noneW;rw [Int.toNat_natCast, List.getD_eq_getElem?_getD, List.getElem?_replicate]
 split <;> rfl
theorem qeL (ns : List S75) : GoodS ns noneW := fun i hi => by rw [none_off] at hi; cases hi
theorem qiV (ns : List S75) (root : Int) : GoodS ns (walkR ns root).2.1 := by
 show GoodS ns (lookW ns root).2.1
 unfold lookW
 split
 ·split
  ·exact qeL ns
  ·exact qiU ns 21 root noneW [] (qeL ns)
 ·exact qeL ns
theorem orTo_far (a b : List Bool) (j i : Nat) (h : 50 ≤ i) : rdOf false (orTo a b j) (i : Int) = false := by
 unfold rdOf;rw [Int.toNat_natCast, List.getD_eq_getElem?_getD, List.getElem?_eq_none (by rw [qch]; exact h)];rfl
theorem good_or {ns : List S75} {a b : List Bool} (ha : GoodS ns a) (hb : GoodS ns b) : GoodS ns (orW a b) := fun i hi => by
 rcases Nat.lt_or_ge i 50 with h | h
 ·unfold orW at hi;rw [qdv a b 50 i h, decide_eq_true h, Bool.true_and, Bool.or_eq_true] at hi;exact hi.elim (ha i) (hb i)
 ·unfold orW at hi;rw [orTo_far a b 50 i h] at hi
  cases hi
theorem qjQ (ns : List S75) (rs : List Int) : ∀ o, GoodS ns o → GoodS ns (rs.foldl (fun o r => orW o (walkR ns r).2.1) o) := by
 induction rs with
 | nil => intro o h; exact h
 | cons r rs ih => intro o h; exact ih _ (good_or h (qiV ns r))
theorem qdT (ns : List S75) (rs : List Int) : GoodS ns (qcf ns rs) := qjQ ns rs noneW (qeL ns)
theorem fold_len (ns : List S75) (rs : List Int) : ∀ o : List Bool, o.length = 50 → (rs.foldl (fun o r => orW o (walkR ns r).2.1) o).length = 50 := by
 induction rs with
 | nil => intro o h; exact h
 | cons r rs ih => intro o h; exact ih _ (qch _ _ _)
theorem qdI (ns : List S75) (rs : List Int) : (qcf ns rs).length = 50 := fold_len ns rs noneW (by unfold noneW; exact List.length_replicate ..)
def incL (x : List Int) (js : List Int) : List Int := js.foldl (fun x j => x.set j.toNat (rd x j + 1)) x
def zeroL : List Int := List.replicate 50 (0 : Int)
def qcU (rs : List Int) : List Int := rs.filter fun r => decide (0 ≤ r)
def qbL (ns : List S75) (s : List Bool) : Nat → Nat → List Int
 | _, 0 => []
 | i, d + 1 => (if rdOf false s (i : Int) = true then (qaH ns (i : Int)).f3 else []) ++ qbL ns s (i + 1) d
structure Bnd (x : List Int) (b : Int) : Prop where
 len : x.length = 50
 rng : ∀ i : Nat, i < 50 → 0 ≤ rd x (i : Int) ∧ rd x (i : Int) ≤ b
def In50 (js : List Int) : Prop := ∀ j, j ∈ js → 0 ≤ j ∧ j < 50
theorem rd_set {x : List Int} {j : Int} {v : Int} (h0 : 0 ≤ j) (h1 : j < (x.length : Int)) (i : Nat) : rd (x.set j.toNat v) (i : Int) = if (i : Int) = j then v else rd x (i : Int) := by
 unfold rd;rw [Int.toNat_natCast, List.getD_eq_getElem?_getD, List.getD_eq_getElem?_getD]
 by_cases e : (i : Int) = j
 ·rw [if_pos e, show j.toNat = i from zbV, List.getElem?_set_self zbV];rfl
 ·rw [if_neg e, List.getElem?_set_ne zbV]
theorem Bnd.inc {x : List Int} {b : Int} (h : Bnd x b) {j : Int} (h0 : 0 ≤ j) (h1 : j < 50) : Bnd (x.set j.toNat (rd x j + 1)) (b + 1) := by
 refine ⟨by rw [List.length_set]; exact h.len, fun i hi => ?_⟩;have hj := h.rng j.toNat zbV;rw [show ((j.toNat : Nat) : Int) = j from zbV] at hj;have hi2 := h.rng i hi;rw [rd_set h0 (by rw [h.len]; omega)]
 split <;> omega
theorem Bnd.incs {js : List Int} : ∀ {x : List Int} {b : Int}, Bnd x b → In50 js → Bnd (incL x js) (b + js.length) := by
 induction js with
 | nil => intro x b h _; simpa [incL] using h
 | cons j js ih =>
  intro x b h hj;have h1 := hj j List.mem_cons_self;have h2 := ih (h.inc h1.1 h1.2) fun y hy => hj y (List.mem_cons_of_mem _ hy)
  rw [List.length_cons, show b + ((js.length + 1 : Nat) : Int) = b + 1 + (js.length : Int) from zbV];exact h2
theorem qgK {js : List Int} : ∀ {x : List Int}, x.length = 50 → In50 js → ∀ i : Nat, i < 50 → rd (incL x js) (i : Int) = rd x (i : Int) + (js.count (i : Int) : Int) := by
 induction js with
 | nil => intro x _ _ i _; simp [incL]
 | cons j js ih =>
  intro x hx hj i hi;have h1 := hj j List.mem_cons_self;have h2 := ih (x := x.set j.toNat (rd x j + 1)) (by rw [List.length_set]; exact hx) (fun y hy => hj y (List.mem_cons_of_mem _ hy)) i hi
  show rd (incL (x.set j.toNat (rd x j + 1)) js) (i : Int) = _
  rw [h2, rd_set h1.1 (by rw [hx]; omega), List.count_cons]
  by_cases e : (i : Int) = j
  ·rw [if_pos e, ← e];simp;omega
  ·rw [if_neg e, if_neg (by simp; exact fun h => e h.symm)];simp
theorem qek (js : List Int) : ∀ x : List Int, (incL x js).length = x.length := by
 induction js with
 | nil => intro x; rfl
 | cons j js ih => intro x; show (incL (x.set j.toNat (rd x j + 1)) js).length = _; rw [ih, List.length_set]
theorem qjR {a b : List Int} (ha : In50 a) (hb : In50 b) : incL zeroL (a ++ b) = incL zeroL (b ++ a) := by
 have hz : zeroL.length = 50 := List.length_replicate ..;have hab : In50 (a ++ b) := fun j hj => (List.mem_append.1 hj).elim (ha j) (hb j)
 have hba : In50 (b ++ a) := fun j hj => (List.mem_append.1 hj).elim (hb j) (ha j)
 refine List.ext_getElem (by rw [qek, qek]) fun i h1 h2 => ?_
 rw [qek, hz] at h1;have e1 := qgK hz hab i h1;have e2 := qgK hz hba i h1;have c : (a ++ b).count (i : Int) = (b ++ a).count (i : Int) := by rw [List.count_append, List.count_append, Nat.add_comm]
 rw [c, ← e2] at e1;unfold rd at e1;rw [Int.toNat_natCast, List.getD_eq_getElem?_getD, List.getD_eq_getElem?_getD, List.getElem?_eq_getElem (by rw [qek, hz]; exact h1), List.getElem?_eq_getElem (by rw [qek, hz]; exact h1)] at e1;exact e1
theorem qhz (x : List Int) (j : Int) (js : List Int) : incL x (j :: js) = incL (x.set j.toNat (rd x j + 1)) js := rfl
theorem qiA (x a b : List Int) : incL x (a ++ b) = incL (incL x a) b := by unfold incL; rw [List.foldl_append]
theorem qd9 {ns : List S75} {s : List Bool} (h : GoodS ns s) {i : Nat} (hi : rdOf false s (i : Int) = true) : (qaH ns (i : Int)).f3.length ≤ 4 ∧ In50 (qaH ns (i : Int)).f3 := by
 obtain ⟨_, h1, h2⟩ := h i hi
 cases hl : (qaH ns (i : Int)).f0 with
 | true => rw [(qc0 h1 h2 hl).1]; exact ⟨zbW, (fun j hj => by cases hj)⟩
 | false =>
  obtain ⟨_, _, a, _, b⟩ := qcz h1 h2 hl;refine ⟨a, fun j hj => ?_⟩;obtain ⟨q, hq, rfl⟩ := List.mem_iff_getElem.1 hj;have := b q hq;unfold rd at this;rw [Int.toNat_natCast, List.getD_eq_getElem?_getD, List.getElem?_eq_getElem hq] at this;simp only [Option.getD_some] at this;omega
theorem qfP {ns : List S75} {s : List Bool} (h : GoodS ns s) : ∀ d i, In50 (qbL ns s i d) ∧ (qbL ns s i d).length ≤ 4 * d := by
 intro d
 induction d with
 | zero => intro i; exact ⟨(fun j hj => by cases hj), Nat.le_refl _⟩
 | succ d ih =>
  intro i;obtain ⟨a, b⟩ := ih (i + 1);unfold qbL
  by_cases hi : rdOf false s (i : Int) = true
  ·rw [if_pos hi];obtain ⟨c, e⟩ := qd9 h hi;exact ⟨fun j hj => (List.mem_append.1 hj).elim (e j) (a j), zbD⟩
  ·rw [if_neg hi, List.nil_append];exact ⟨a, zbV⟩
theorem qiB {rs : List Int} (h : ∀ r, r ∈ rs → r < 50) : In50 (qcU rs) ∧ (qcU rs).length ≤ rs.length := by
 refine ⟨fun j hj => ?_, List.length_filter_le _ _⟩;obtain ⟨h1, h2⟩ := List.mem_filter.1 hj;exact ⟨of_decide_eq_true h2, h j h1⟩
theorem qjS {ns : List S75} (root : Int) (h : qcv ns = true) : qb1.f ns root = some (walkR ns root) := if_pos h
mutual
def qao.l0 : Nat → List Int → List Bool → List Int → Int → List (S75) → Option (List Int)
 | 0, _, _, _, _, _ => none
 | k + 1, x1, x2, x7, x8, x447000 => if x8 < 50 then (qao.l1 k x1 x2 x7 x8 0 x447000) else (qao.l2 k x1 x7 0)
def qao.l1 : Nat → List Int → List Bool → List Int → Int → Int → List (S75) → Option (List Int)
 | 0, _, _, _, _, _, _ => none
 | k + 1, x1, x2, x7, x8, x9, x447000 => if 0 ≤ x8 then (if x8 < (x2.length : Int) then (if rdOf false x2 x8 = true then (if x8 < (x447000.length : Int) then (if x9 < (((qaH x447000 x8).f3).length : Int) then (if 0 ≤ x9 then (if 0 ≤ (rd ((qaH x447000 x8).f3) x9) then (if (rd ((qaH x447000 x8).f3) x9) < (x7.length : Int) then (qao.l1 k x1 x2 (x7.set ((rd ((qaH x447000 x8).f3) x9) : Int).toNat (wrap64 ((rd x7 (rd ((qaH x447000 x8).f3) x9)) + 1))) x8 (wrap64 (x9 + 1)) x447000) else (none)) else (none)) else (none)) else (qao.l0 k x1 x2 x7 (wrap64 (x8 + 1)) x447000)) else (none)) else (qao.l0 k x1 x2 x7 (wrap64 (x8 + 1)) x447000)) else (none)) else (none)
def qao.l2 : Nat → List Int → List Int → Int → Option (List Int)
 | 0, _, _, _ => none
 | k + 1, x1, x7, lB => if lB < (x1.length : Int) then (if 0 ≤ lB then (if (rd x1 lB) ≥ 0 then (if 0 ≤ (rd x1 lB) then (if (rd x1 lB) < (x7.length : Int) then (qao.l2 k x1 (x7.set ((rd x1 lB) : Int).toNat (wrap64 ((rd x7 (rd x1 lB)) + 1))) (wrap64 (lB + 1))) else (none)) else (none)) else (qao.l2 k x1 x7 (wrap64 (lB + 1)))) else (none)) else (some x7)
end
def qao.f (k : Nat) (t0 : List (S75)) (l1 : List Int) (l2 : List Bool) : Option (List Int) := if 50 ≤ 35184372088832 then (qao.l0 k l1 l2 (List.replicate 50 0) 0 t0) else (none)
theorem qao.qbW : ∀ k, (∀ y0 y1 y2 y3 y4, LeO (qao.l0 k y0 y1 y2 y3 y4) (qao.l0 (k + 1) y0 y1 y2 y3 y4)) ∧ (∀ y0 y1 y2 y3 y4 y5, LeO (qao.l1 k y0 y1 y2 y3 y4 y5) (qao.l1 (k + 1) y0 y1 y2 y3 y4 y5)) ∧ (∀ y0 y1 y2, LeO (qao.l2 k y0 y1 y2) (qao.l2 (k + 1) y0 y1 y2))
 | 0 => ⟨fun _ _ _ _ _ r h => by simp [qao.l0] at h, fun _ _ _ _ _ _ r h => by simp [qao.l1] at h, fun _ _ _ r h => by simp [qao.l2] at h⟩
 | k + 1 => by
  obtain ⟨d6, ih1, ih2⟩ := qao.qbW k;refine ⟨?_, ?_, ?_⟩
  ·intro y0 y1 y2 y3 y4;unfold qao.l0
   repeat' first
   | (with_reducible exact d6 _ _ _ _ _)
   | (with_reducible exact ih1 _ _ _ _ _ _)
   | (with_reducible exact ih2 _ _ _)
   | (with_reducible exact LeO.refl _)
   | (with_reducible exact LeO.none _)
   | (with_reducible refine LeO.ite ?_ ?_)
   | (with_reducible refine LeO.bind ?_ (fun _ => ?_))
   | exact d6 _ _ _ _ _
   | exact ih1 _ _ _ _ _ _
   | exact ih2 _ _ _
   | exact LeO.none _
   | refine LeO.ite ?_ ?_
   | refine LeO.bind ?_ (fun _ => ?_)
  ·intro y0 y1 y2 y3 y4 y5;unfold qao.l1
   repeat' first
   | (with_reducible exact d6 _ _ _ _ _)
   | (with_reducible exact ih1 _ _ _ _ _ _)
   | (with_reducible exact ih2 _ _ _)
   | (with_reducible exact LeO.refl _)
   | (with_reducible exact LeO.none _)
   | (with_reducible refine LeO.ite ?_ ?_)
   | (with_reducible refine LeO.bind ?_ (fun _ => ?_))
   | exact d6 _ _ _ _ _
   | exact ih1 _ _ _ _ _ _
   | exact ih2 _ _ _
   | exact LeO.none _
   | refine LeO.ite ?_ ?_
   | refine LeO.bind ?_ (fun _ => ?_)
  ·intro y0 y1 y2;unfold qao.l2
   repeat' first
   | (with_reducible exact d6 _ _ _ _ _)
   | (with_reducible exact ih1 _ _ _ _ _ _)
   | (with_reducible exact ih2 _ _ _)
   | (with_reducible exact LeO.refl _)
   | (with_reducible exact LeO.none _)
   | (with_reducible refine LeO.ite ?_ ?_)
   | (with_reducible refine LeO.bind ?_ (fun _ => ?_))
   | exact d6 _ _ _ _ _
   | exact ih1 _ _ _ _ _ _
   | exact ih2 _ _ _
   | exact LeO.none _
   | refine LeO.ite ?_ ?_
   | refine LeO.bind ?_ (fun _ => ?_)
theorem qao.mono : ∀ a0 a1 a2 k, LeO (qao.f k a0 a1 a2) (qao.f (k + 1) a0 a1 a2) := by
 intro a0 a1 a2 k;obtain ⟨d6, ih1, ih2⟩ := qao.qbW k;unfold qao.f
 repeat' first
   | (with_reducible exact d6 _ _ _ _ _)
   | (with_reducible exact ih1 _ _ _ _ _ _)
   | (with_reducible exact ih2 _ _ _)
   | (with_reducible exact LeO.refl _)
   | (with_reducible exact LeO.none _)
   | (with_reducible refine LeO.ite ?_ ?_)
   | (with_reducible refine LeO.bind ?_ (fun _ => ?_))
   | exact d6 _ _ _ _ _
   | exact ih1 _ _ _ _ _ _
   | exact ih2 _ _ _
   | exact LeO.none _
   | refine LeO.ite ?_ ?_
   | refine LeO.bind ?_ (fun _ => ?_)
set_option maxHeartbeats 8000000 in
set_option maxRecDepth 100000 in
theorem qao.calls (k : Nat) (P0 : Option Addr) (O0 : Nat) (t0 : List (S75)) (A1 : Option Addr) (c1 : Nat) (l1 : List Int) (A2 : Option Addr) (c2 : Nat) (l2 : List Bool) (r : List Int) (w : World) (a5 : Kd.C k75 w P0 t0.length t0) (J6 : t0.length ≤ O0) (hr1 : Kd.C (Kd.int .i64) w A1 l1.length l1) (hc1 : l1.length ≤ c1) (hr2 : Kd.C Kd.bool w A2 l2.length l2) (hc2 : l2.length ≤ c2) (h : qao.f k t0 l1 l2 = some r) :
  Calls Try.prog 28 #[.agg #[.slice P0 t0.length O0], .slice A1 l1.length c1, .slice A2 l2.length c2] w fun e w' => ∃ mA : Value, e = .returned (mA) ∧ Kd.R (Kd.int .i64) 3 w' w.heap.size (fun _ => True) mA r ∧ Below w.heap.size w w' := by
 have bI := Try.underlying25;have S6 := z_ a5;have r8 := z_ J6;clear a5 J6;have HR1 := z_ hr1;have eG := z_ hc1;clear hr1 hc1;have HR2 := z_ hr2;have kO := z_ hc2;clear hr2 hc2;have HB := z_ (Below.refl w.heap.size w);have H : (if 50 ≤ 35184372088832 then (qao.l0 k l1 l2 (List.replicate 50 0) 0 t0) else (none)) = some r := h;clear h
 by_cases c4 : 50 ≤ 35184372088832
 ·rw [if_pos c4] at H;have GB := eq_true c4;have dX : decide (50 ≤ 35184372088832) = true := decide_eq_true c4;clear c4;obtain ⟨XX, QJ⟩ : ∃ y_ : List Int, y_ = (List.replicate 50 0) := ⟨_, rfl⟩
  replace H : (qao.l0 k l1 l2 XX 0 t0) = some r := by first | (rw [QJ]; with_reducible exact H) | (have Y1 := (Option.bind_some _ _).symm.trans H; rw [QJ]; with_reducible exact Y1) | (have Y1 := (Option.bind_some _ _).symm.trans H; with_reducible exact Y1) | with_reducible exact H | (rw [QJ]; exact H) | exact H
  have AT := z_ QJ;clear QJ;have H' := z_ H;clear H
  go_enter Try.func28, Try.ntmps28
  go_wp2_with (first | ((with_reducible refine qaG (N := 3) rfl ?_); (try (refine qbe zbX ?_; dsimp only)); refine qaS zbX (N := 3) zbX (cs := #[.slice P0 t0.length O0]) (t := 25) zbv ?_; intro VC hg w5 hbox hb; have H0 := z_ (qad zaq hb); have I0 := z_ (hbox); have K0 := z_ ((zal : w.heap.size ≤ VC)); have U0 := z_ ((zal : w.heap.size ≤ VC)); clear HB; have HB := H0; have l6 := I0; have GW446 := K0; have AB := U0; clear H0 I0 K0 U0; clear hb hbox hg) | ((with_reducible refine qaG (N := 11) rfl ?_); (try (refine qbe zbX ?_; dsimp only)); refine Kd.qgW (Kd.int .i64) _ 3 rfl (N := 11) rfl 29 _ _ rfl 50 rfl rfl Try.underlying29 (.int .i64 0) 8 info3 rfl zbT zbV 0 (ok := fun _ => True) (okp := fun _ => True) rfl (fun _ hk => hk) trivial zbV zbV (Below.refl _ _) (Nat.le_refl _) ?_; intro XW w6 SS hb F5 Z1; clear F5 Z1; (first | rw [← AT.o] at SS | (simp only [Int.reduceToNat] at SS; rw [← AT.o] at SS)); have H0 := z_ (Kd.qa9 SS (qaC (zab AB.o))); have I0 := z_ (qap (g := VC) (o := .cells #[.slice P0 t0.length O0] 25 (0, 0)) (zac l6.o) hb); have K0 := z_ (qad (zab AB.o) hb); clear l6 HB; have WX := H0; have l6 := I0; have HB := K0; clear H0 I0 K0; clear hb SS))
  go_loopg [8] k (fun kq v8 w' => ∃ (V0 : List Int) (I3 : Int), v8 = .int .i64 I3 ∧ Aside0 (qao.l0 kq l1 l2 V0 I3 t0 = some r) ∧ Aside0 (kq ≤ k) ∧ Aside0 (Kd.R (Kd.int .i64) 3 w' w.heap.size (fun _ => True) XW V0) ∧ Aside0 (w'.heap[VC]? = some (.cells #[(.slice P0 t0.length O0)] 25 (0, 0))) ∧ Aside0 (Below w.heap.size w w'))
  case atStart => exact ⟨(XX), (0), zbs, H', ⟨Nat.le_refl _⟩, ⟨by (with_reducible repeat (first | apply Kd.qaV | apply Kd.qa0 | apply Kd.qa6)); exact WX.o⟩, ⟨by (with_reducible repeat (first | refine qaj ?_ _ | refine qai ?_ | refine qah ?_ _)); exact l6.o⟩, ⟨zab AB.o⟩⟩
  case round =>
   clear H';try clear c1
   try clear c2
   try clear p2
   try clear c4
   try clear GB
   try clear dX
   obtain ⟨V0, I3, rfl, HA, q7, QA, l6, HB⟩ := hrel
   cases gk with
   | zero => exact absurd HA.o (by simp [qao.l0])
   | succ k1 =>
    have H := HA.o;clear HA;simp only [qao.l0] at H
    by_cases c8 : I3 < 50
    ·rw [if_pos c8] at H;have aG : decide (I3 < 50) = true := decide_eq_true c8;clear c8;have H' := z_ H;clear H
     go_wp2
     go_loopg [9] k1 (fun kq v9 w' => ∃ (I6 : List Int) (M5 : Int), v9 = .int .i64 M5 ∧ Aside0 (qao.l1 kq l1 l2 I6 I3 M5 t0 = some r) ∧ Aside0 (kq ≤ k1) ∧ Aside0 (Kd.R (Kd.int .i64) 3 w' w.heap.size (fun _ => True) XW I6) ∧ Aside0 (w'.heap[VC]? = some (.cells #[(.slice P0 t0.length O0)] 25 (0, 0))) ∧ Aside0 (Below w.heap.size w w'))
     case atStart => exact ⟨(V0), (0), zbs, H', ⟨Nat.le_refl _⟩, ⟨zaB⟩, ⟨by (with_reducible repeat (first | refine qaj ?_ _ | refine qai ?_ | refine qah ?_ _)); exact l6.o⟩, ⟨zab AB.o⟩⟩
     case round =>
      clear H';try clear c1
      try clear c2
      try clear p2
      try clear c4
      try clear GB
      try clear dX
      try clear c8
      try clear aG
      try clear p2
      obtain ⟨I6, M5, rfl, HA, p7, QA, l6, HB⟩ := hrel
      cases gk with
      | zero => exact absurd HA.o (by simp [qao.l1])
      | succ k2 =>
       have H := HA.o;clear HA;simp only [qao.l1] at H
       by_cases c9 : 0 ≤ I3
       ·rw [if_pos c9] at H;have CO : decide (0 ≤ I3) = true := decide_eq_true c9;clear c9
        by_cases c10 : I3 < (l2.length : Int)
        ·rw [if_pos c10] at H;have XF : decide (I3 < (l2.length : Int)) = true := decide_eq_true c10;clear c10;obtain ⟨lZ, LO⟩ : ∃ b_ : Bool, b_ = (rdOf false l2 I3) := ⟨_, rfl⟩
         replace H : (if lZ = true then (if I3 < (t0.length : Int) then (if M5 < (((qaH t0 I3).f3).length : Int) then (if 0 ≤ M5 then (if 0 ≤ (rd ((qaH t0 I3).f3) M5) then (if (rd ((qaH t0 I3).f3) M5) < (I6.length : Int) then (qao.l1 k2 l1 l2 (I6.set ((rd ((qaH t0 I3).f3) M5) : Int).toNat (wrap64 ((rd I6 (rd ((qaH t0 I3).f3) M5)) + 1))) I3 (wrap64 (M5 + 1)) t0) else (none)) else (none)) else (none)) else (qao.l0 k2 l1 l2 I6 (wrap64 (I3 + 1)) t0)) else (none)) else (qao.l0 k2 l1 l2 I6 (wrap64 (I3 + 1)) t0)) = some r := by rw [← LO] at H; exact H
         have CH := z_ LO;clear LO
         by_cases c12 : lZ = true
         ·subst c12;have H1 : (if I3 < (t0.length : Int) then (if M5 < (((qaH t0 I3).f3).length : Int) then (if 0 ≤ M5 then (if 0 ≤ (rd ((qaH t0 I3).f3) M5) then (if (rd ((qaH t0 I3).f3) M5) < (I6.length : Int) then (qao.l1 k2 l1 l2 (I6.set ((rd ((qaH t0 I3).f3) M5) : Int).toNat (wrap64 ((rd I6 (rd ((qaH t0 I3).f3) M5)) + 1))) I3 (wrap64 (M5 + 1)) t0) else (none)) else (none)) else (none)) else (qao.l0 k2 l1 l2 I6 (wrap64 (I3 + 1)) t0)) else (none)) = some r := zbE;clear H;have H := H1;clear H1
          by_cases c13 : I3 < (t0.length : Int)
          ·rw [if_pos c13] at H;have jN : decide (I3 < (t0.length : Int)) = true := decide_eq_true c13;clear c13
           by_cases c14 : M5 < (((qaH t0 I3).f3).length : Int)
           ·rw [if_pos c14] at H;have BP : decide (M5 < (((qaH t0 I3).f3).length : Int)) = true := decide_eq_true c14;clear c14
            by_cases c15 : 0 ≤ M5
            ·rw [if_pos c15] at H;have bN : decide (0 ≤ M5) = true := decide_eq_true c15;clear c15
             by_cases c16 : 0 ≤ (rd ((qaH t0 I3).f3) M5)
             ·rw [if_pos c16] at H;have vU : decide (0 ≤ (rd ((qaH t0 I3).f3) M5)) = true := decide_eq_true c16;clear c16
              by_cases c17 : (rd ((qaH t0 I3).f3) M5) < (I6.length : Int)
              ·rw [if_pos c17] at H;have zP : decide ((rd ((qaH t0 I3).f3) M5) < (I6.length : Int)) = true := decide_eq_true c17;clear c17;obtain ⟨YU, WJ⟩ : ∃ y_ : List Int, y_ = (I6.set ((rd ((qaH t0 I3).f3) M5) : Int).toNat (wrap64 ((rd I6 (rd ((qaH t0 I3).f3) M5)) + 1))) := ⟨_, rfl⟩
               replace H : (qao.l1 k2 l1 l2 YU I3 (wrap64 (M5 + 1)) t0) = some r := by first | (rw [WJ]; with_reducible exact H) | (have Y1 := (Option.bind_some _ _).symm.trans H; rw [WJ]; with_reducible exact Y1) | (have Y1 := (Option.bind_some _ _).symm.trans H; with_reducible exact Y1) | with_reducible exact H | (rw [WJ]; exact H) | exact H
               have sa := z_ WJ;clear WJ;have H' := z_ H;clear H;have fG : 0 ≤ (I3 : Int) := of_decide_eq_true zaN;have cG : I3 < (l2.length : Int) := of_decide_eq_true zaN;obtain ⟨ZS, jQ, D6⟩ := Kd.qcX HR2.o I3 fG cG
               (try rw [← CH.o] at D6)
               cases jQ
               replace D6 := (HB.o.cell (World.block_lt_of_cell? w _ D6)).trans D6;replace fG := eq_true fG;replace cG := eq_true cG;have MM : wr.cell? ⟨VC, 0, none⟩ = some (.slice P0 t0.length O0) := (qac l6.o 0).trans rfl;have WL := qab l6.o 0;have ZJ : 0 ≤ (I3 : Int) := of_decide_eq_true zaN;have vK : I3 < (t0.length : Int) := of_decide_eq_true zaN;obtain ⟨ZO, eW, gW, qV, SW, bV, TU, PV, H8, y9, t9, r9, oE, mD, sD, YD, xD, aE⟩ := qfz S6.o I3 ZJ vK
               (try rw [← CH.o] at H8)
               cases PV
               replace H8 := (HB.o.cell (World.block_lt_of_cell? w _ H8)).trans H8;replace y9 := (HB.o.cell (World.block_lt_of_cell? w _ y9)).trans y9;replace t9 := (HB.o.cell (World.block_lt_of_cell? w _ t9)).trans t9;replace r9 := (HB.o.cell (World.block_lt_of_cell? w _ r9)).trans r9;have cS := z_ mD;have zQ := z_ oE;clear mD oE;have xR := z_ YD;have iS := z_ sD;clear YD sD;have sS := z_ aE;have oR := z_ xD;clear aE xD;replace ZJ := eq_true ZJ;replace vK := eq_true vK;have YQ : 0 ≤ (I3 : Int) := of_decide_eq_true zaN;have IQ : I3 < (t0.length : Int) := of_decide_eq_true zaN;obtain ⟨Ga, sh, wh, Zf, Af, Oe, ie, me, qD, JE, YE, AD, yM, fM, ZM, GM, xM, YL⟩ := qfz S6.o I3 YQ IQ
               (try rw [← CH.o] at qD)
               obtain rfl : ZO = Ga := (by injection me);replace qD := (HB.o.cell (World.block_lt_of_cell? w _ qD)).trans qD;replace JE := (HB.o.cell (World.block_lt_of_cell? w _ JE)).trans JE;replace YE := (HB.o.cell (World.block_lt_of_cell? w _ YE)).trans YE;replace AD := (HB.o.cell (World.block_lt_of_cell? w _ AD)).trans AD;have Sc := z_ fM;have jc := z_ yM;clear fM yM;have Nb := z_ GM;have fc := z_ ZM;clear GM ZM;have TR := z_ YL;have Xc := z_ xM;clear YL xM;replace YQ := eq_true YQ;replace IQ := eq_true IQ;have xA := Option.some.inj (y9.symm.trans JE);injection xA with xA en_ ec_
               subst xA;subst ec_;clear en_;have xA := Option.some.inj (t9.symm.trans YE);injection xA with xA en_ ec_
               subst xA;subst ec_;clear en_;have xA := Option.some.inj (r9.symm.trans AD);injection xA with xA en_ ec_
               subst xA;subst ec_;clear en_;have lS : 0 ≤ (M5 : Int) := of_decide_eq_true zaN;have zR : M5 < (((qaH t0 I3).f3).length : Int) := of_decide_eq_true zaN;obtain ⟨ad453, oe, tG⟩ := Kd.qbN TR.o M5 lS zR
               cases oe
               replace tG := (HB.o.cell (World.block_lt_of_cell? w _ tG)).trans tG;replace lS := eq_true lS;replace zR := eq_true zR;obtain ⟨SQ, NN, MP⟩ := Kd.qbi QA.o;subst MP;have mS : 0 ≤ ((rd ((qaH t0 I3).f3) M5) : Int) := of_decide_eq_true zaN;have RQ : (rd ((qaH t0 I3).f3) M5) < (I6.length : Int) := of_decide_eq_true zaN;obtain ⟨ad454, qh, sN⟩ := Kd.qbN (Kd.qaU QA.o).2.2 (rd ((qaH t0 I3).f3) M5) mS RQ
               cases qh
               replace mS := eq_true mS;replace RQ := eq_true RQ;have qR : 0 ≤ ((rd ((qaH t0 I3).f3) M5) : Int) := of_decide_eq_true zaN;have WN : ((rd ((qaH t0 I3).f3) M5) : Int) < ((I6.length : Int) : Int) := of_decide_eq_true zaN;obtain ⟨uI, hD, dI, KP, ZW, Ug, WP⟩ := Kd.qcJ QA.o zbV
               (first | cases dI | (injection dI with xA en_ ec_; (first | subst xA | (injection xA with xA; subst xA)); subst ec_; clear en_))
               have rW := z_ KP;have ff := z_ WP;clear KP ZW WP
               (first | simp only [add_plain] at sN | skip)
               obtain ⟨fP, JU⟩ := Kd.qcM 0 QA.o ((rd ((qaH t0 I3).f3) M5) : Int) qR WN;replace qR := eq_true qR;replace WN := eq_true WN;have FV := Kd.qgb QA.o ((rd ((qaH t0 I3).f3) M5) : Int) (wrap64 ((rd I6 (rd ((qaH t0 I3).f3) M5)) + 1))
               go_wp2_with (first | ((with_reducible refine qde (t := 3) (p := 46) rfl ?_); refine qcY (t := 3) (p := 46) (v := ?vo_w22) (w1 := (wr.setCell ⟨uI, ((rd ((qaH t0 I3).f3) M5) : Int).toNat, none⟩ (.int .i64 (wrap64 ((rd I6 (rd ((qaH t0 I3).f3) M5)) + 1))))) ?hg ?ho ?hn ?hr ?_; (case ho => rfl); (case hg => rfl); (case hn => rfl); (case hr => first | (go_simp; done) | (go_simp; rfl)); intro QO hw; have hg : wr.grownBy QO (some uI) := (by rw [hw]; exact FV.2); have UJ : Kd.R (Kd.int .i64) 3 QO w.heap.size (fun _ => True) (.slice (some ⟨uI, 0, none⟩) I6.length NN) YU := (by rw [hw, sa.o]; exact FV.1); clear FV; have H0 := z_ (UJ); have I0 := z_ (qbd (g := VC) (o := .cells #[.slice (some ZO) t0.length O0] 25 (0, 0)) (zac l6.o) hg (Kd.R_ne QA.o l6.o zbT)); have K0 := z_ ((by rw [hw]; exact qa4 (HB.o) rW.o : Below w.heap.size w QO)); clear QA l6 HB; have QA := H0; have l6 := I0; have HB := K0; clear H0 I0 K0; clear hg hw UJ))
               go_roundg k2
               case measure => have := q7.o; have := p7.o; omega
               case rel => exact ⟨(YU), (wrap64 (M5 + 1)), zbs, H', ⟨zbx⟩, ⟨zaB⟩, ⟨by (with_reducible repeat (first | refine qaj ?_ _ | refine qai ?_ | refine qah ?_ _)); exact l6.o⟩, ⟨zab AB.o⟩⟩
              ·rw [if_neg c17] at H;exact absurd H zbW
             ·rw [if_neg c16] at H;exact absurd H zbW
            ·rw [if_neg c15] at H;exact absurd H zbW
           ·rw [if_neg c14] at H;have BP : decide (M5 < (((qaH t0 I3).f3).length : Int)) = false := decide_eq_false c14;clear c14;have H' := z_ H;clear H;have fG : 0 ≤ (I3 : Int) := of_decide_eq_true zaN;have cG : I3 < (l2.length : Int) := of_decide_eq_true zaN;obtain ⟨ZS, jQ, D6⟩ := Kd.qcX HR2.o I3 fG cG
            (try rw [← CH.o] at D6)
            cases jQ
            replace D6 := (HB.o.cell (World.block_lt_of_cell? w _ D6)).trans D6;replace fG := eq_true fG;replace cG := eq_true cG;have mM : wr.cell? ⟨VC, 0, none⟩ = some (.slice P0 t0.length O0) := (qac l6.o 0).trans rfl;have iN := qab l6.o 0;have ZJ : 0 ≤ (I3 : Int) := of_decide_eq_true zaN;have vK : I3 < (t0.length : Int) := of_decide_eq_true zaN;obtain ⟨ZO, eW, gW, qV, SW, bV, TU, PV, H8, y9, t9, r9, oE, mD, sD, YD, xD, aE⟩ := qfz S6.o I3 ZJ vK
            (try rw [← CH.o] at H8)
            cases PV
            replace H8 := (HB.o.cell (World.block_lt_of_cell? w _ H8)).trans H8;replace y9 := (HB.o.cell (World.block_lt_of_cell? w _ y9)).trans y9;replace t9 := (HB.o.cell (World.block_lt_of_cell? w _ t9)).trans t9;replace r9 := (HB.o.cell (World.block_lt_of_cell? w _ r9)).trans r9;have cS := z_ mD;have zQ := z_ oE;clear mD oE;have xR := z_ YD;have iS := z_ sD;clear YD sD;have sS := z_ aE;have oR := z_ xD;clear aE xD;replace ZJ := eq_true ZJ;replace vK := eq_true vK
            go_wp2
            go_roundg k2
            case measure => have := q7.o; have := p7.o; omega
            case rel => exact ⟨(I6), (wrap64 (I3 + 1)), zbs, H', ⟨zbx⟩, ⟨zaB⟩, ⟨by (with_reducible repeat (first | refine qaj ?_ _ | refine qai ?_ | refine qah ?_ _)); exact l6.o⟩, ⟨zab AB.o⟩⟩
          ·rw [if_neg c13] at H;exact absurd H zbW
         ·replace c12 := Bool.eq_false_iff.mpr c12;subst c12;have H1 : (qao.l0 k2 l1 l2 I6 (wrap64 (I3 + 1)) t0) = some r := zaK;clear H;have H := H1;clear H1;have H' := z_ H;clear H;have fG : 0 ≤ (I3 : Int) := of_decide_eq_true zaN;have cG : I3 < (l2.length : Int) := of_decide_eq_true zaN;obtain ⟨ZS, jQ, D6⟩ := Kd.qcX HR2.o I3 fG cG
          (try rw [← CH.o] at D6)
          cases jQ
          replace D6 := (HB.o.cell (World.block_lt_of_cell? w _ D6)).trans D6;replace fG := eq_true fG;replace cG := eq_true cG
          go_wp2
          go_roundg k2
          case measure => have := q7.o; have := p7.o; omega
          case rel => exact ⟨(I6), (wrap64 (I3 + 1)), zbs, H', ⟨zbx⟩, ⟨zaB⟩, ⟨by (with_reducible repeat (first | refine qaj ?_ _ | refine qai ?_ | refine qah ?_ _)); exact l6.o⟩, ⟨zab AB.o⟩⟩
        ·rw [if_neg c10] at H;exact absurd H zbW
       ·rw [if_neg c9] at H;exact absurd H zbW
    ·rw [if_neg c8] at H;have aG : decide (I3 < 50) = false := decide_eq_false c8;clear c8;have H' := z_ H;clear H
     go_wp2
     go_loopg [10] k1 (fun kq v10 w' => ∃ (I6 : List Int) (u4 : Int), v10 = .int .i64 u4 ∧ Aside0 (qao.l2 kq l1 I6 u4 = some r) ∧ Aside0 (kq ≤ k1) ∧ Aside0 (Kd.R (Kd.int .i64) 3 w' w.heap.size (fun _ => True) XW I6) ∧ Aside0 (w'.heap[VC]? = some (.cells #[(.slice P0 t0.length O0)] 25 (0, 0))) ∧ Aside0 (Below w.heap.size w w'))
     case atStart => exact ⟨(V0), (0), zbs, H', ⟨Nat.le_refl _⟩, ⟨zaB⟩, ⟨by (with_reducible repeat (first | refine qaj ?_ _ | refine qai ?_ | refine qah ?_ _)); exact l6.o⟩, ⟨zab AB.o⟩⟩
     case round =>
      clear H';try clear c1
      try clear p1
      try clear q1
      try clear hx1
      try clear c2
      try clear p2
      try clear c4
      try clear GB
      try clear dX
      try clear p4
      try clear q4
      try clear hx4
      try clear p6
      try clear c8
      try clear aG
      try clear c9
      try clear CO
      try clear c10
      try clear XF
      try clear q11
      try clear c12
      try clear c13
      try clear jN
      try clear c14
      try clear BP
      try clear c15
      try clear bN
      try clear c16
      try clear vU
      try clear c17
      try clear zP
      try clear qR
      try clear WN
      try clear hx18
      try clear hf18
      try clear MM
      try clear mM
      try clear WL
      try clear iN
      try clear fP
      try clear D6
      try clear H8
      try clear y9
      try clear t9
      try clear r9
      try clear qD
      try clear JE
      try clear YE
      try clear AD
      try clear tG
      try clear sN
      try clear qR
      try clear p2
      try clear fG
      try clear ZJ
      try clear YQ
      try clear lS
      try clear mS
      try clear WN
      try clear cG
      try clear vK
      try clear IQ
      try clear zR
      try clear RQ
      obtain ⟨I6, u4, rfl, HA, p7, QA, l6, HB⟩ := hrel
      cases gk with
      | zero => exact absurd HA.o (by simp [qao.l2])
      | succ k2 =>
       have H := HA.o;clear HA;simp only [qao.l2] at H
       by_cases c24 : u4 < (l1.length : Int)
       ·rw [if_pos c24] at H;have mZ : decide (u4 < (l1.length : Int)) = true := decide_eq_true c24;clear c24
        by_cases yQ : 0 ≤ u4
        ·rw [if_pos yQ] at H;have dY : decide (0 ≤ u4) = true := decide_eq_true yQ;clear yQ
         by_cases vG : (rd l1 u4) ≥ 0
         ·rw [if_pos vG] at H;have X9 : decide (0 ≤ (rd l1 u4)) = true := decide_eq_true vG;clear vG
          by_cases vR : 0 ≤ (rd l1 u4)
          ·rw [if_pos vR] at H;have c27b0 : decide (0 ≤ (rd l1 u4)) = true := decide_eq_true vR;clear vR
           by_cases c28 : (rd l1 u4) < (I6.length : Int)
           ·rw [if_pos c28] at H;have qU : decide ((rd l1 u4) < (I6.length : Int)) = true := decide_eq_true c28;clear c28;obtain ⟨tW, VJ⟩ : ∃ y_ : List Int, y_ = (I6.set ((rd l1 u4) : Int).toNat (wrap64 ((rd I6 (rd l1 u4)) + 1))) := ⟨_, rfl⟩
            replace H : (qao.l2 k2 l1 tW (wrap64 (u4 + 1))) = some r := by first | (rw [VJ]; with_reducible exact H) | (have Y1 := (Option.bind_some _ _).symm.trans H; rw [VJ]; with_reducible exact Y1) | (have Y1 := (Option.bind_some _ _).symm.trans H; with_reducible exact Y1) | with_reducible exact H | (rw [VJ]; exact H) | exact H
            have vX := z_ VJ;clear VJ;have H' := z_ H;clear H;have jL : 0 ≤ (u4 : Int) := of_decide_eq_true zaN;have gL : u4 < (l1.length : Int) := of_decide_eq_true zaN;obtain ⟨VT, BW, CA⟩ := Kd.qbN HR1.o u4 jL gL
            cases BW
            replace CA := (HB.o.cell (World.block_lt_of_cell? w _ CA)).trans CA;replace jL := eq_true jL;replace gL := eq_true gL;have eX : 0 ≤ (u4 : Int) := of_decide_eq_true zaN;have MU : u4 < (l1.length : Int) := of_decide_eq_true zaN;obtain ⟨PY, Jh, fI⟩ := Kd.qbN HR1.o u4 eX MU;obtain rfl : VT = PY := (by injection Jh);replace fI := (HB.o.cell (World.block_lt_of_cell? w _ fI)).trans fI;replace eX := eq_true eX;replace MU := eq_true MU;obtain ⟨Ao30, Ef, Lg⟩ := Kd.qbi QA.o;subst Lg;have bX : 0 ≤ ((rd l1 u4) : Int) := of_decide_eq_true zaN;have GV : (rd l1 u4) < (I6.length : Int) := of_decide_eq_true zaN;obtain ⟨ad458, fg, nS⟩ := Kd.qbN (Kd.qaU QA.o).2.2 (rd l1 u4) bX GV
            cases fg
            replace bX := eq_true bX;replace GV := eq_true GV;have p29 : 0 ≤ ((rd l1 u4) : Int) := of_decide_eq_true zaN;have Yg : ((rd l1 u4) : Int) < ((I6.length : Int) : Int) := of_decide_eq_true zaN;obtain ⟨qW, co29, TY, NZ, zf, cl29, DY⟩ := Kd.qcJ QA.o zbV
            (first | cases TY | (injection TY with xA en_ ec_; (first | subst xA | (injection xA with xA; subst xA)); subst ec_; clear en_))
            have rf := z_ NZ;have GG29 := z_ DY;clear NZ zf DY
            (first | simp only [add_plain] at nS | skip)
            obtain ⟨Ye, bg⟩ := Kd.qcM 0 QA.o ((rd l1 u4) : Int) p29 Yg;replace p29 := eq_true p29;replace Yg := eq_true Yg;have rV := Kd.qgb QA.o ((rd l1 u4) : Int) (wrap64 ((rd I6 (rd l1 u4)) + 1))
            go_wp2_with (first | ((with_reducible refine qde (t := 3) (p := 66) rfl ?_); refine qcY (t := 3) (p := 66) (v := ?vo_w32) (w1 := (wr.setCell ⟨qW, ((rd l1 u4) : Int).toNat, none⟩ (.int .i64 (wrap64 ((rd I6 (rd l1 u4)) + 1))))) ?hg ?ho ?hn ?hr ?_; (case ho => rfl); (case hg => rfl); (case hn => rfl); (case hr => first | (go_simp; done) | (go_simp; rfl)); intro w32 hw; have hg : wr.grownBy w32 (some qW) := (by rw [hw]; exact rV.2); have UJ : Kd.R (Kd.int .i64) 3 w32 w.heap.size (fun _ => True) (.slice (some ⟨qW, 0, none⟩) I6.length Ef) tW := (by rw [hw, vX.o]; exact rV.1); clear rV; have H0 := z_ (UJ); have I0 := z_ (qbd (g := VC) (o := .cells #[.slice P0 t0.length O0] 25 (0, 0)) (zac l6.o) hg (Kd.R_ne QA.o l6.o zbT)); have K0 := z_ ((by rw [hw]; exact qa4 (HB.o) rf.o : Below w.heap.size w w32)); clear QA l6 HB; have QA := H0; have l6 := I0; have HB := K0; clear H0 I0 K0; clear hg hw UJ))
            go_roundg k2
            case measure => have := q7.o; have := p7.o; omega
            case rel => exact ⟨(tW), (wrap64 (u4 + 1)), zbs, H', ⟨zbx⟩, ⟨zaB⟩, ⟨by (with_reducible repeat (first | refine qaj ?_ _ | refine qai ?_ | refine qah ?_ _)); exact l6.o⟩, ⟨zab AB.o⟩⟩
           ·rw [if_neg c28] at H;exact absurd H zbW
          ·rw [if_neg vR] at H;exact absurd H zbW
         ·rw [if_neg vG] at H;have X9 : decide (0 ≤ (rd l1 u4)) = false := decide_eq_false vG;clear vG;have H' := z_ H;clear H;have jL : 0 ≤ (u4 : Int) := of_decide_eq_true zaN;have gL : u4 < (l1.length : Int) := of_decide_eq_true zaN;obtain ⟨VT, BW, CA⟩ := Kd.qbN HR1.o u4 jL gL
          cases BW
          replace CA := (HB.o.cell (World.block_lt_of_cell? w _ CA)).trans CA;replace jL := eq_true jL;replace gL := eq_true gL
          go_wp2
          go_roundg k2
          case measure => have := q7.o; have := p7.o; omega
          case rel => exact ⟨(I6), (wrap64 (u4 + 1)), zbs, H', ⟨zbx⟩, ⟨zaB⟩, ⟨by (with_reducible repeat (first | refine qaj ?_ _ | refine qai ?_ | refine qah ?_ _)); exact l6.o⟩, ⟨zab AB.o⟩⟩
        ·rw [if_neg yQ] at H;exact absurd H zbW
       ·rw [if_neg c24] at H;have mZ : decide (u4 < (l1.length : Int)) = false := decide_eq_false c24;clear c24;obtain rfl := Option.some.inj H
        go_wp2
        go_ret
        exact ⟨_, zaF, zaB, zab AB.o⟩
 ·rw [if_neg c4] at H;exact absurd H zbW
end Go.Proofs.Ytcdokcpiahbejaa.X
namespace Go.Proofs.Ytcdokcpiahbejaa.X
open Go.RowKit Go.Proofs.YtcdokcpiahbejaaW.PrintWords Go.Proofs.YtcdokcpiahbejaaW.PrintLast Go.Proofs.YtcdokcpiahbejaaW.PrintMore
attribute [local go_sem] qax qay qaz qat qau qaJ qaK qam qan qav qaw
set_option linter.unusedVariables false
set_option linter.unusedSimpArgs false
mutual
def qag.l0 : Nat → List Int → List Bool → Int → List (S75) → Option (List Bool × Bool)
 | 0, _, _, _, _ => none
 | k + 1, x1, x6, x7, x127000 => if x7 < (x1.length : Int) then (if 0 ≤ x7 then ((qb1.f x127000 (rd x1 x7)).bind fun eT => (if eT.2.2 = true then (qag.l1 k x1 x6 x7 eT.2.1 0 x127000) else (some (x6, false)))) else (none)) else (some (x6, true))
def qag.l1 : Nat → List Int → List Bool → Int → List Bool → Int → List (S75) → Option (List Bool × Bool)
 | 0, _, _, _, _, _, _ => none
 | k + 1, x1, x6, x7, x9, wQ, x127000 => if wQ < 50 then (if 0 ≤ wQ then (if wQ < (x6.length : Int) then (if rdOf false x6 wQ = true then (qag.l1 k x1 (x6.set (wQ : Int).toNat true) x7 x9 (wrap64 (wQ + 1)) x127000) else (if wQ < (x9.length : Int) then (qag.l1 k x1 (x6.set (wQ : Int).toNat (rdOf false x9 wQ)) x7 x9 (wrap64 (wQ + 1)) x127000) else (none))) else (none)) else (none)) else (qag.l0 k x1 x6 (wrap64 (x7 + 1)) x127000)
end
def qag.f (k : Nat) (t0 : List (S75)) (l1 : List Int) : Option (List Bool × Bool) := if 50 ≤ 281474976710656 then (qag.l0 k l1 (List.replicate 50 false) 0 t0) else (none)
theorem qag.qbW : ∀ k, (∀ y0 y1 y2 y3, LeO (qag.l0 k y0 y1 y2 y3) (qag.l0 (k + 1) y0 y1 y2 y3)) ∧ (∀ y0 y1 y2 y3 y4 y5, LeO (qag.l1 k y0 y1 y2 y3 y4 y5) (qag.l1 (k + 1) y0 y1 y2 y3 y4 y5))
 | 0 => ⟨fun _ _ _ _ r h => by simp [qag.l0] at h, fun _ _ _ _ _ _ r h => by simp [qag.l1] at h⟩
 | k + 1 => by
  obtain ⟨d6, ih1⟩ := qag.qbW k;refine ⟨?_, ?_⟩
  ·intro y0 y1 y2 y3;unfold qag.l0
   repeat' first
   | (with_reducible exact d6 _ _ _ _)
   | (with_reducible exact ih1 _ _ _ _ _ _)
   | (with_reducible exact LeO.refl _)
   | (with_reducible exact LeO.none _)
   | (with_reducible refine LeO.ite ?_ ?_)
   | (with_reducible refine LeO.bind ?_ (fun _ => ?_))
   | exact d6 _ _ _ _
   | exact ih1 _ _ _ _ _ _
   | exact LeO.none _
   | refine LeO.ite ?_ ?_
   | refine LeO.bind ?_ (fun _ => ?_)
  ·intro y0 y1 y2 y3 y4 y5;unfold qag.l1
   repeat' first
   | (with_reducible exact d6 _ _ _ _)
   | (with_reducible exact ih1 _ _ _ _ _ _)
   | (with_reducible exact LeO.refl _)
   | (with_reducible exact LeO.none _)
   | (with_reducible refine LeO.ite ?_ ?_)
   | (with_reducible refine LeO.bind ?_ (fun _ => ?_))
   | exact d6 _ _ _ _
   | exact ih1 _ _ _ _ _ _
   | exact LeO.none _
   | refine LeO.ite ?_ ?_
   | refine LeO.bind ?_ (fun _ => ?_)
theorem qag.mono : ∀ a0 a1 k, LeO (qag.f k a0 a1) (qag.f (k + 1) a0 a1) := by
 intro a0 a1 k;obtain ⟨d6, ih1⟩ := qag.qbW k;unfold qag.f
 repeat' first
   | (with_reducible exact d6 _ _ _ _)
   | (with_reducible exact ih1 _ _ _ _ _ _)
   | (with_reducible exact LeO.refl _)
   | (with_reducible exact LeO.none _)
   | (with_reducible refine LeO.ite ?_ ?_)
   | (with_reducible refine LeO.bind ?_ (fun _ => ?_))
   | exact d6 _ _ _ _
   | exact ih1 _ _ _ _ _ _
   | exact LeO.none _
   | refine LeO.ite ?_ ?_
   | refine LeO.bind ?_ (fun _ => ?_)
def qag.T5 : Bool × List (List Nat × List Nat) := (true, [([], []), ([], []), ([], []), ([1, 2], [1, 2]), ([3], [3]), ([0, 4], [0, 4]), ([5], [5]), ([6], [6]), ([6], [6]), ([6], [6]), ([7, 5, 0, 1, 2, 3, 4, 5, 6, 7], [7]), ([8, 10, 0, 1, 2, 3, 4, 5, 6, 7, 8, 10], [8]), ([9, 11, 0, 1, 2, 3, 4, 5, 6, 7, 8, 9, 10, 11], [9])])
def qag.B5 : List Nat := [0, 0, 0, 6, 14, 31, 63, 127, 127, 127, 255, 1535, 4095]
theorem qag.tab5 : rtab .any (opsOf Try.f27 5) = qag.T5 := zbS
theorem qag.bits5 : qbv qag.T5.2 qag.B5 = true := zbS
set_option maxHeartbeats 8000000 in
set_option maxRecDepth 100000 in
theorem qag.calls (k : Nat) (P0 : Option Addr) (O0 : Nat) (t0 : List (S75)) (A1 : Option Addr) (c1 : Nat) (l1 : List Int) (r1 : List Bool) (r2 : Bool) (w : World) (a5 : Kd.C k75 w P0 t0.length t0) (J6 : t0.length ≤ O0) (hr1 : Kd.C (Kd.int .i64) w A1 l1.length l1) (hc1 : l1.length ≤ c1) (h : qag.f k t0 l1 = some (r1, r2)) :
  Calls Try.prog 27 #[.agg #[.slice P0 t0.length O0], .slice A1 l1.length c1] w fun e w' => ∃ mA : Value, e = .returned (.tuple #[mA, .bool r2]) ∧ Kd.R Kd.bool 4 w' w.heap.size (fun _ => True) mA r1 ∧ Below w.heap.size w w' := by
 have bI := Try.underlying25;have S6 := z_ a5;have r8 := z_ J6;clear a5 J6;have HR1 := z_ hr1;have eG := z_ hc1;clear hr1 hc1;have HB := z_ (Below.refl w.heap.size w);have H : (if 50 ≤ 281474976710656 then (qag.l0 k l1 (List.replicate 50 false) 0 t0) else (none)) = some (r1, r2) := h;clear h
 by_cases c3 : 50 ≤ 281474976710656
 ·rw [if_pos c3] at H;have M9 := eq_true c3;have nB : decide (50 ≤ 281474976710656) = true := decide_eq_true c3;clear c3;obtain ⟨wX, pK⟩ : ∃ y_ : List Bool, y_ = (List.replicate 50 false) := ⟨_, rfl⟩
  replace H : (qag.l0 k l1 wX 0 t0) = some (r1, r2) := by first | (rw [pK]; with_reducible exact H) | (have Y1 := (Option.bind_some _ _).symm.trans H; rw [pK]; with_reducible exact Y1) | (have Y1 := (Option.bind_some _ _).symm.trans H; with_reducible exact Y1) | with_reducible exact H | (rw [pK]; exact H) | exact H
  have IT := z_ pK;clear pK;have H' := z_ H;clear H
  go_enter Try.func27, Try.ntmps27
  go_wp2_with (first | ((with_reducible refine qaG (N := 2) rfl ?_); refine qaS zbX (N := 2) zbX (cs := #[.slice P0 t0.length O0]) (t := 25) zbv ?_; intro qB hg w4 hbox hb; have H0 := z_ (qad zaq hb); have I0 := z_ (hbox); have K0 := z_ ((zal : w.heap.size ≤ qB)); have U0 := z_ ((zal : w.heap.size ≤ qB)); clear HB; have HB := H0; have E4 := I0; have GW126 := K0; have F9 := U0; clear H0 I0 K0 U0; clear hb hbox hg) | ((with_reducible refine qaG (N := 12) rfl ?_); refine Kd.qgW Kd.bool _ 4 rfl (N := 12) rfl 55 _ _ rfl 50 rfl rfl Try.underlying55 (.bool false) 1 info4 rfl zbT zbV false (ok := fun _ => True) (okp := fun _ => True) rfl (fun _ hk => hk) trivial zbV zbV (Below.refl _ _) (Nat.le_refl _) ?_; intro BU w5 iH hb F5 Z1; clear F5 Z1; (first | rw [← IT.o] at iH | (simp only [Int.reduceToNat] at iH; rw [← IT.o] at iH)); have H0 := z_ (Kd.qa9 iH (qaC (zab F9.o))); have I0 := z_ (qap (g := qB) (o := .cells #[.slice P0 t0.length O0] 25 (0, 0)) (zac E4.o) hb); have K0 := z_ (qad (zab F9.o) hb); clear E4 HB; have cZ := H0; have E4 := I0; have HB := K0; clear H0 I0 K0; clear hb iH))
  go_loopg [7] k (fun kq v7 w' => ∃ (F4 : List Bool) (V0 : Int), v7 = .int .i64 V0 ∧ Aside0 (qag.l0 kq l1 F4 V0 t0 = some (r1, r2)) ∧ Aside0 (kq ≤ k) ∧ Aside0 (Kd.R Kd.bool 4 w' w.heap.size (fun _ => True) BU F4) ∧ Aside0 (w'.heap[qB]? = some (.cells #[(.slice P0 t0.length O0)] 25 (0, 0))) ∧ Aside0 (Below w.heap.size w w'))
  case atStart => exact ⟨(wX), (0), zbs, H', ⟨Nat.le_refl _⟩, ⟨by (with_reducible repeat (first | apply Kd.qaV | apply Kd.qa0 | apply Kd.qa6)); exact cZ.o⟩, ⟨by (with_reducible repeat (first | refine qaj ?_ _ | refine qai ?_ | refine qah ?_ _)); exact E4.o⟩, ⟨zab F9.o⟩⟩
  case round =>
   clear H';try clear c1
   try clear c2
   try clear p2
   try clear c3
   try clear M9
   try clear nB
   obtain ⟨F4, V0, rfl, HA, q7, P5, E4, HB⟩ := hrel
   cases gk with
   | zero => exact absurd HA.o (by simp [qag.l0])
   | succ k1 =>
    have H := HA.o;clear HA;simp only [qag.l0] at H
    by_cases c7 : V0 < (l1.length : Int)
    ·rw [if_pos c7] at H;have GC : decide (V0 < (l1.length : Int)) = true := decide_eq_true c7;clear c7
     by_cases c8 : 0 ≤ V0
     ·rw [if_pos c8] at H;have aG : decide (0 ≤ V0) = true := decide_eq_true c8;clear c8;replace H := Option.bind_eq_some_iff.mp H;obtain ⟨⟨t131, S9, cf⟩, RT, H⟩ := H;try dsimp only at H
      have A9 := z_ RT;clear RT
      by_cases c10 : cf = true
      ·subst c10;have H1 : (qag.l1 k1 l1 F4 V0 S9 0 t0) = some (r1, r2) := zbE;clear H;have H := H1;clear H1;have H' := z_ H;clear H;try go_wp2
       have H0 := z_ (Kd.qa6 P5.o);have I0 := z_ (qai E4.o);have K0 := z_ (qaP HB.o);clear P5 E4 HB;have P5 := H0;have E4 := I0;have HB := K0;clear H0 I0 K0;have TI : 0 ≤ (V0 : Int) := of_decide_eq_true zaN;have bJ : V0 < (l1.length : Int) := of_decide_eq_true zaN;obtain ⟨EP, m4, o7⟩ := Kd.qbN HR1.o V0 TI bJ;have C9 := o7
       cases m4
       replace o7 := (HB.o.cell (World.block_lt_of_cell? w _ o7)).trans o7;replace TI := eq_true TI;replace bJ := eq_true bJ;refine qbY (n := 13) (S := fun w' => w'.cell? ⟨qB, 0, none⟩ = some (.slice P0 t0.length O0) ∧ w'.cell? (EP.add (V0).toNat) = some (.int .i64 (rd l1 V0))) (ds := []) #[false, false, false, false, false, false, false, false, false, false, false, false, false] zbS rfl rfl ⟨(qac E4.o 0).trans rfl, ((HB.o.cell (World.block_lt_of_cell? w _ C9)).trans C9)⟩ (fun hHeld => ?_); refine qbg qag.tab5 qag.bits5 (fun l4 R6 => ?_);generalize wr.drew = lL at P5 E4 HB o7 hHeld ⊢;refine qcu (i := 1) (N := some 21) (v := ?_) (a' := ?_) #[false, true, false, false, false, false, false, false, false, false, false, false, false] rfl rfl (qbP l4.o zbS) (fun _ _ _ h => h) (Or.inl ⟨zbX, ?_⟩) ?_ ?_;rotate_left
       ·intro w';go_simp
        with_reducible rfl
       rotate_left
       ·simp only [Act.put, List.setIfInBounds_toArray, List.set_cons_zero, List.set_cons_succ, qbw, qbB];rfl
       refine qcu (i := 2) (N := some 22) (v := ?_) (a' := ?_) #[false, true, true, false, false, false, false, false, false, false, false, false, false] rfl rfl (qbP l4.o zbS) (fun _ _ _ h => h) (Or.inl ⟨zbX, ?_⟩) ?_ ?_;rotate_left
       ·intro w';go_simp
        with_reducible rfl
       rotate_left
       ·simp only [Act.put, List.setIfInBounds_toArray, List.set_cons_zero, List.set_cons_succ, qbw, qbB];rfl
       refine qcu (i := 3) (N := some 23) (v := ?_) (a' := ?_) #[false, true, true, true, false, false, false, false, false, false, false, false, false] rfl rfl (qbP l4.o zbS) (fun _ _ _ h => h) (Or.inl ⟨zbX, ?_⟩) ?_ ?_;rotate_left
       ·intro w';go_simp
        with_reducible rfl
       rotate_left
       ·simp only [Act.put, List.setIfInBounds_toArray, List.set_cons_zero, List.set_cons_succ, qbw, qbB];rfl
       refine qfe (i := 0) (N := some 20) (v := ?_) (a' := ?_) #[true, true, true, true, false, false, false, false, false, false, false, false, false] rfl rfl (qcN l4.o R6.o zbS) (fun _ _ _ h => h) (Or.inl ⟨zbX, ?_⟩) hHeld ?_ ?_;rotate_left
       ·rintro w' ⟨s0, s1⟩;go_simp
        with_reducible rfl
       rotate_left
       ·simp only [Act.put, List.setIfInBounds_toArray, List.set_cons_zero, List.set_cons_succ, qbw, qbB];rfl
       refine qfe (i := 4) (N := some 24) (v := ?_) (a' := ?_) #[true, true, true, true, true, false, false, false, false, false, false, false, false] rfl rfl (qcN l4.o R6.o zbS) (fun _ _ _ h => h) (Or.inl ⟨zbX, ?_⟩) hHeld ?_ ?_;rotate_left
       ·rintro w' ⟨s0, s1⟩;go_simp
        with_reducible rfl
       rotate_left
       ·simp only [Act.put, List.setIfInBounds_toArray, List.set_cons_zero, List.set_cons_succ, qbw, qbB];rfl
       refine one_ (i := 5) (N := some 25) #[true, true, true, true, true, true, false, false, false, false, false, false, false] rfl rfl (qdV l4.o zbS) zbT (fun K hK => ?_);refine qdr Try.func36 zbS rfl #[.agg #[.slice P0 t0.length O0], .int .i64 (rd l1 V0)] zbX rfl rfl zao ?_
       with_reducible refine (qb1.calls _ _ t0 (rd l1 V0) t131 S9 true _ ?side1 ?side2 A9.o).mono ?_
       (case side1 => exact zad (Kd.qaO S6.o HB.o))
       (case side2 => exact r8.o)
       rintro e sL ⟨Ch, JR, rfl, ho0, ho1, hb⟩;refine ⟨_, rfl, ?_⟩;have H0 := z_ (Kd.qbZ (zae P5.o) (Kd.qb0 ho1) hb);have I0 := z_ (Kd.qa9 ho0 (qaC (zab F9.o)));have K0 := z_ (Kd.qa9 (Kd.qcV ho1 (Kd.R_lt (zae P5.o))) (qaC (zab F9.o)));have U0 := z_ (qap (g := qB) (o := .cells #[.slice P0 t0.length O0] 25 (0, 0)) (zac E4.o) hb);have N5 := z_ (qad (zab F9.o) hb);clear P5 E4 HB;have P5 := H0;have FZ := I0;have RS := K0;have E4 := U0;have HB := N5;clear H0 I0 K0 U0 N5
       (try clear hb)
       (try clear hb2)
       (try clear hk)
       (try clear hi)
       (try clear ho0)
       (try clear ho1)
       refine hK.o _ _ ⟨(qac E4.o 0).trans rfl, ((HB.o.cell (World.block_lt_of_cell? w _ C9)).trans C9)⟩ (fun hHeld => ?_);clear hK K;refine qgt (a' := ?_) ?_ ?_;rotate_left
       ·show Act.put _ (some 25) _ = _
        simp only [Act.put, List.setIfInBounds_toArray, List.set_cons_zero, List.set_cons_succ, qbw, qbB];rfl
       refine qcu (i := 6) (N := some 19) (v := ?_) (a' := ?_) #[true, true, true, true, true, true, true, false, false, false, false, false, false] rfl rfl (qbP l4.o zbS) (fun _ _ _ h => h) (Or.inl ⟨zbX, ?_⟩) ?_ ?_;rotate_left
       ·intro w';go_simp
        with_reducible rfl
       rotate_left
       ·simp only [Act.put, List.setIfInBounds_toArray, List.set_cons_zero, List.set_cons_succ, qbw, qbB];rfl
       refine qcu (i := 7) (N := some 26) (v := ?_) (a' := ?_) #[true, true, true, true, true, true, true, true, false, false, false, false, false] rfl rfl (qbP l4.o zbS) (fun _ _ _ h => h) (Or.inl ⟨zbX, ?_⟩) ?_ ?_;rotate_left
       ·intro w';go_simp
        with_reducible rfl
       rotate_left
       ·simp only [Act.put, List.setIfInBounds_toArray, List.set_cons_zero, List.set_cons_succ, qbw, qbB];rfl
       refine qcu (i := 8) (N := some 27) (v := ?_) (a' := ?_) #[true, true, true, true, true, true, true, true, true, false, false, false, false] rfl rfl (qbP l4.o zbS) (fun _ _ _ h => h) (Or.inl ⟨zbX, ?_⟩) ?_ ?_;rotate_left
       ·intro w';go_simp
        with_reducible rfl
       rotate_left
       ·simp only [Act.put, List.setIfInBounds_toArray, List.set_cons_zero, List.set_cons_succ, qbw, qbB];rfl
       refine qcu (i := 9) (N := some 28) (v := ?_) (a' := ?_) #[true, true, true, true, true, true, true, true, true, true, false, false, false] rfl rfl (qbP l4.o zbS) (fun _ _ _ h => h) (Or.inl ⟨zbX, ?_⟩) ?_ ?_;rotate_left
       ·intro w';go_simp
        with_reducible rfl
       rotate_left
       ·simp only [Act.put, List.setIfInBounds_toArray, List.set_cons_zero, List.set_cons_succ, qbw, qbB];rfl
       refine qcu (i := 10) (N := some 8) (v := ?_) (a' := ?_) #[true, true, true, true, true, true, true, true, true, true, true, false, false] rfl rfl (qbP l4.o zbS) (fun _ _ _ h => h) (Or.inl ⟨zbX, ?_⟩) ?_ ?_;rotate_left
       ·intro w';go_simp
        with_reducible rfl
       rotate_left
       ·simp only [Act.put, List.setIfInBounds_toArray, List.set_cons_zero, List.set_cons_succ, qbw, qbB];rfl
       refine qcu (i := 11) (N := some 9) (v := ?_) (a' := ?_) #[true, true, true, true, true, true, true, true, true, true, true, true, false] rfl rfl (qbP l4.o zbS) (fun _ _ _ h => h) (Or.inl ⟨zbX, ?_⟩) ?_ ?_;rotate_left
       ·intro w';go_simp
        with_reducible rfl
       rotate_left
       ·simp only [Act.put, List.setIfInBounds_toArray, List.set_cons_zero, List.set_cons_succ, qbw, qbB];rfl
       refine qcu (i := 12) (N := some 10) (v := ?_) (a' := ?_) #[true, true, true, true, true, true, true, true, true, true, true, true, true] rfl rfl (qbP l4.o zbS) (fun _ _ _ h => h) (Or.inl ⟨zbX, ?_⟩) ?_ ?_;rotate_left
       ·intro w';go_simp
        with_reducible rfl
       rotate_left
       ·simp only [Act.put, List.setIfInBounds_toArray, List.set_cons_zero, List.set_cons_succ, qbw, qbB];rfl
       refine qjc (qfv l4.o zbS) ?_;try go_wp2
       go_loopg [11] k1 (fun kq v11 w' => ∃ (O9 : List Bool) (Z2 : Int), v11 = .int .i64 Z2 ∧ Aside0 (qag.l1 kq l1 O9 V0 S9 Z2 t0 = some (r1, r2)) ∧ Aside0 (kq ≤ k1) ∧ Aside0 (Kd.R Kd.bool 4 w' w.heap.size (fun k_ => some k_ ≠ (JR : Value).ownBlock) BU O9) ∧ Aside0 (Kd.R Kd.bool 4 w' w.heap.size (fun k_ => some k_ ≠ (BU : Value).ownBlock) JR S9) ∧ Aside0 (w'.heap[qB]? = some (.cells #[(.slice P0 t0.length O0)] 25 (0, 0))) ∧ Aside0 (Below w.heap.size w w'))
       case atStart => exact ⟨(F4), (0), zbs, H', ⟨Nat.le_refl _⟩, ⟨by (with_reducible repeat (first | apply Kd.qaV | apply Kd.qa0 | apply Kd.qa6)); exact Kd.qbb P5.o (fun _ hk => hk.2)⟩, ⟨by (with_reducible repeat (first | apply Kd.qaV | apply Kd.qa0 | apply Kd.qa6)); exact Kd.qbb RS.o (fun _ hk => hk.2)⟩, ⟨by (with_reducible repeat (first | refine qaj ?_ _ | refine qai ?_ | refine qah ?_ _)); exact E4.o⟩, ⟨zab F9.o⟩⟩
       case round =>
        clear H';try clear c1
        try clear p1
        try clear q1
        try clear hx1
        try clear c2
        try clear p2
        try clear c3
        try clear M9
        try clear nB
        try clear c7
        try clear GC
        try clear c8
        try clear aG
        try clear c10
        try clear o7
        try clear TI
        try clear p2
        try clear bJ
        obtain ⟨O9, Z2, rfl, HA, p7, P5, qH, E4, HB⟩ := hrel
        cases gk with
        | zero => exact absurd HA.o (by simp [qag.l1])
        | succ k2 =>
         have H := HA.o;clear HA;simp only [qag.l1] at H
         by_cases c13 : Z2 < 50
         ·rw [if_pos c13] at H;have jN : decide (Z2 < 50) = true := decide_eq_true c13;clear c13
          by_cases c14 : 0 ≤ Z2
          ·rw [if_pos c14] at H;have BP : decide (0 ≤ Z2) = true := decide_eq_true c14;clear c14
           by_cases c15 : Z2 < (O9.length : Int)
           ·rw [if_pos c15] at H;have bN : decide (Z2 < (O9.length : Int)) = true := decide_eq_true c15;clear c15;obtain ⟨GZ, jP⟩ : ∃ b_ : Bool, b_ = (rdOf false O9 Z2) := ⟨_, rfl⟩
            replace H : (if GZ = true then (qag.l1 k2 l1 (O9.set (Z2 : Int).toNat true) V0 S9 (wrap64 (Z2 + 1)) t0) else (if Z2 < (S9.length : Int) then (qag.l1 k2 l1 (O9.set (Z2 : Int).toNat (rdOf false S9 Z2)) V0 S9 (wrap64 (Z2 + 1)) t0) else (none))) = some (r1, r2) := by rw [← jP] at H; exact H
            have PP := z_ jP;clear jP
            by_cases c17 : GZ = true
            ·subst c17;have H1 : (qag.l1 k2 l1 (O9.set (Z2 : Int).toNat true) V0 S9 (wrap64 (Z2 + 1)) t0) = some (r1, r2) := zbE;clear H;have H := H1;clear H1;obtain ⟨uW, SJ⟩ : ∃ y_ : List Bool, y_ = (O9.set (Z2 : Int).toNat true) := ⟨_, rfl⟩
             replace H : (qag.l1 k2 l1 uW V0 S9 (wrap64 (Z2 + 1)) t0) = some (r1, r2) := by first | (rw [SJ]; with_reducible exact H) | (have Y1 := (Option.bind_some _ _).symm.trans H; rw [SJ]; with_reducible exact Y1) | (have Y1 := (Option.bind_some _ _).symm.trans H; with_reducible exact Y1) | with_reducible exact H | (rw [SJ]; exact H) | exact H
             have IY := z_ SJ;clear SJ;have H' := z_ H;clear H;obtain ⟨Ao19, QU, wg⟩ := Kd.qbi P5.o;subst wg;have nL : 0 ≤ (Z2 : Int) := of_decide_eq_true zaN;have cL : Z2 < (O9.length : Int) := of_decide_eq_true zaN;obtain ⟨CY, e138, iF⟩ := Kd.qcX (Kd.qaU P5.o).2.2 Z2 nL cL
             (try rw [← PP.o] at iF)
             cases e138
             replace nL := eq_true nL;replace cL := eq_true cL;have qR : 0 ≤ (Z2 : Int) := of_decide_eq_true zaN;have WN : (Z2 : Int) < ((O9.length : Int) : Int) := of_decide_eq_true zaN;obtain ⟨uI, hD, dI, KP, ZW, Ug, WP⟩ := Kd.qcJ P5.o zbV
             (first | cases dI | (injection dI with xA en_ ec_; (first | subst xA | (injection xA with xA; subst xA)); subst ec_; clear en_))
             have rW := z_ KP;have ff := z_ WP;clear KP ZW WP
             (first | simp only [add_plain] at iF | skip)
             obtain ⟨fP, JU⟩ := Kd.qcM false P5.o (Z2 : Int) qR WN;replace qR := eq_true qR;replace WN := eq_true WN;have uV := Kd.qgb P5.o (Z2 : Int) true
             go_wp2_with (first | ((with_reducible refine qde (t := 4) (p := 48) rfl ?_); refine qcY (t := 4) (p := 48) (v := ?vo_w21) (w1 := (wr.setCell ⟨uI, (Z2 : Int).toNat, none⟩ (.bool true))) ?hg ?ho ?hn ?hr ?_; (case ho => rfl); (case hg => rfl); (case hn => rfl); (case hr => first | (go_simp; done) | (go_simp; rfl)); intro QH hw; have hg : wr.grownBy QH (some uI) := (by rw [hw]; exact uV.2); have UJ : Kd.R Kd.bool 4 QH w.heap.size (fun k_ => some k_ ≠ (JR : Value).ownBlock) (.slice (some ⟨uI, 0, none⟩) O9.length QU) uW := (by rw [hw, IY.o]; exact uV.1); clear uV; have H0 := z_ (UJ); have I0 := z_ (Kd.qi7 (v := (.slice (some ⟨uI, 0, none⟩) O9.length QU)) (v1 := (.slice (some ⟨uI, 0, none⟩) O9.length QU)) (ok := (fun _ => True)) (by (with_reducible repeat (first | apply Kd.qaV | apply Kd.qa0 | apply Kd.qa6)); exact Kd.qbb qH.o (fun _ hk => ⟨trivial, hk⟩)) hg (.inl rfl)); have K0 := z_ (qbd (g := qB) (o := .cells #[.slice P0 t0.length O0] 25 (0, 0)) (zac E4.o) hg (Kd.R_ne P5.o E4.o zbT)); have U0 := z_ ((by rw [hw]; exact qa4 (HB.o) rW.o : Below w.heap.size w QH)); clear P5 qH E4 HB; have P5 := H0; have qH := I0; have E4 := K0; have HB := U0; clear H0 I0 K0 U0; clear hg hw UJ))
             go_roundg k2
             case measure => have := q7.o; have := p7.o; omega
             case rel => exact ⟨(uW), (wrap64 (Z2 + 1)), zbs, H', ⟨zbx⟩, ⟨zaE⟩, ⟨by (with_reducible repeat (first | apply Kd.qaV | apply Kd.qa0 | apply Kd.qa6)); exact Kd.qbb qH.o (fun _ hk => hk.2)⟩, ⟨by (with_reducible repeat (first | refine qaj ?_ _ | refine qai ?_ | refine qah ?_ _)); exact E4.o⟩, ⟨zab F9.o⟩⟩
            ·replace c17 := Bool.eq_false_iff.mpr c17;subst c17;have H1 : (if Z2 < (S9.length : Int) then (qag.l1 k2 l1 (O9.set (Z2 : Int).toNat (rdOf false S9 Z2)) V0 S9 (wrap64 (Z2 + 1)) t0) else (none)) = some (r1, r2) := zaK;clear H;have H := H1;clear H1
             by_cases WK : Z2 < (S9.length : Int)
             ·rw [if_pos WK] at H;have KT : decide (Z2 < (S9.length : Int)) = true := decide_eq_true WK;clear WK;obtain ⟨mV, xJ⟩ : ∃ y_ : List Bool, y_ = (O9.set (Z2 : Int).toNat (rdOf false S9 Z2)) := ⟨_, rfl⟩
              replace H : (qag.l1 k2 l1 mV V0 S9 (wrap64 (Z2 + 1)) t0) = some (r1, r2) := by first | (rw [xJ]; with_reducible exact H) | (have Y1 := (Option.bind_some _ _).symm.trans H; rw [xJ]; with_reducible exact Y1) | (have Y1 := (Option.bind_some _ _).symm.trans H; with_reducible exact Y1) | with_reducible exact H | (rw [xJ]; exact H) | exact H
              have hY := z_ xJ;clear xJ;have H' := z_ H;clear H;obtain ⟨SG, zE, bO⟩ := Kd.qbi P5.o;subst bO;have nL : 0 ≤ (Z2 : Int) := of_decide_eq_true zaN;have cL : Z2 < (O9.length : Int) := of_decide_eq_true zaN;obtain ⟨CY, e138, iF⟩ := Kd.qcX (Kd.qaU P5.o).2.2 Z2 nL cL
              (try rw [← PP.o] at iF)
              cases e138
              replace nL := eq_true nL;replace cL := eq_true cL;obtain ⟨Ao25, Vg, xg⟩ := Kd.qbi qH.o;subst xg;have iX : 0 ≤ (Z2 : Int) := of_decide_eq_true zaN;have jW : Z2 < (S9.length : Int) := of_decide_eq_true zaN;obtain ⟨qY, SZ, SR⟩ := Kd.qcX (Kd.qaU qH.o).2.2 Z2 iX jW
              (try rw [← PP.o] at SR)
              cases SZ
              replace iX := eq_true iX;replace jW := eq_true jW;have Tf : 0 ≤ (Z2 : Int) := of_decide_eq_true zaN;have ke : (Z2 : Int) < ((O9.length : Int) : Int) := of_decide_eq_true zaN;obtain ⟨AP, fW, aQ, LX, Kh, cl23, xX⟩ := Kd.qcJ P5.o zbV
              (first | cases aQ | (injection aQ with xA en_ ec_; (first | subst xA | (injection xA with xA; subst xA)); subst ec_; clear en_))
              have Ke := z_ LX;have GG23 := z_ xX;clear LX Kh xX
              (first | simp only [add_plain] at iF | skip)
              obtain ⟨yf, Xg⟩ := Kd.qcM false P5.o (Z2 : Int) Tf ke;replace Tf := eq_true Tf;replace ke := eq_true ke;have dV := Kd.qgb P5.o (Z2 : Int) (rdOf false S9 Z2)
              go_wp2_with (first | ((with_reducible refine qde (t := 4) (p := 48) rfl ?_); refine qcY (t := 4) (p := 48) (v := ?vo_w27) (w1 := (wr.setCell ⟨AP, (Z2 : Int).toNat, none⟩ (.bool (rdOf false S9 Z2)))) ?hg ?ho ?hn ?hr ?_; (case ho => rfl); (case hg => rfl); (case hn => rfl); (case hr => first | (go_simp; done) | (go_simp; rfl)); intro zI hw; have hg : wr.grownBy zI (some AP) := (by rw [hw]; exact dV.2); have UJ : Kd.R Kd.bool 4 zI w.heap.size (fun k_ => some k_ ≠ (.slice (some qY) S9.length Vg : Value).ownBlock) (.slice (some ⟨AP, 0, none⟩) O9.length zE) mV := (by rw [hw, hY.o]; exact dV.1); clear dV; have H0 := z_ (UJ); have I0 := z_ (Kd.qi7 (v := (.slice (some ⟨AP, 0, none⟩) O9.length zE)) (v1 := (.slice (some ⟨AP, 0, none⟩) O9.length zE)) (ok := (fun _ => True)) (by (with_reducible repeat (first | apply Kd.qaV | apply Kd.qa0 | apply Kd.qa6)); exact Kd.qbb qH.o (fun _ hk => ⟨trivial, hk⟩)) hg (.inl rfl)); have K0 := z_ (qbd (g := qB) (o := .cells #[.slice P0 t0.length O0] 25 (0, 0)) (zac E4.o) hg (Kd.R_ne P5.o E4.o zbT)); have U0 := z_ ((by rw [hw]; exact qa4 (HB.o) Ke.o : Below w.heap.size w zI)); clear P5 qH E4 HB; have P5 := H0; have qH := I0; have E4 := K0; have HB := U0; clear H0 I0 K0 U0; clear hg hw UJ))
              go_roundg k2
              case measure => have := q7.o; have := p7.o; omega
              case rel => exact ⟨(mV), (wrap64 (Z2 + 1)), zbs, H', ⟨zbx⟩, ⟨zaE⟩, ⟨by (with_reducible repeat (first | apply Kd.qaV | apply Kd.qa0 | apply Kd.qa6)); exact Kd.qbb qH.o (fun _ hk => hk.2)⟩, ⟨by (with_reducible repeat (first | refine qaj ?_ _ | refine qai ?_ | refine qah ?_ _)); exact E4.o⟩, ⟨zab F9.o⟩⟩
             ·rw [if_neg WK] at H;exact absurd H zbW
           ·rw [if_neg c15] at H;exact absurd H zbW
          ·rw [if_neg c14] at H;exact absurd H zbW
         ·rw [if_neg c13] at H;have jN : decide (Z2 < 50) = false := decide_eq_false c13;clear c13;have H' := z_ H;clear H
          go_wp2
          go_roundg k2
          case measure => have := q7.o; have := p7.o; omega
          case rel => exact ⟨(O9), (wrap64 (V0 + 1)), zbs, H', ⟨zbx⟩, ⟨by (with_reducible repeat (first | apply Kd.qaV | apply Kd.qa0 | apply Kd.qa6)); exact Kd.qbb P5.o (fun _ hk => trivial)⟩, ⟨by (with_reducible repeat (first | refine qaj ?_ _ | refine qai ?_ | refine qah ?_ _)); exact E4.o⟩, ⟨zab F9.o⟩⟩
      ·replace c10 := Bool.eq_false_iff.mpr c10;subst c10;have H1 : (some (F4, false)) = some (r1, r2) := zaK;clear H;have H := H1;clear H1;simp only [Option.some.injEq, Prod.mk.injEq] at H;obtain ⟨rfl, rfl⟩ := H;try go_wp2
       have H0 := z_ (Kd.qa6 P5.o);have I0 := z_ (qai E4.o);have K0 := z_ (qaP HB.o);clear P5 E4 HB;have P5 := H0;have E4 := I0;have HB := K0;clear H0 I0 K0;have TI : 0 ≤ (V0 : Int) := of_decide_eq_true zaN;have bJ : V0 < (l1.length : Int) := of_decide_eq_true zaN;obtain ⟨EP, m4, o7⟩ := Kd.qbN HR1.o V0 TI bJ;have C9 := o7
       cases m4
       replace o7 := (HB.o.cell (World.block_lt_of_cell? w _ o7)).trans o7;replace TI := eq_true TI;replace bJ := eq_true bJ;refine qbY (n := 13) (S := fun w' => w'.cell? ⟨qB, 0, none⟩ = some (.slice P0 t0.length O0) ∧ w'.cell? (EP.add (V0).toNat) = some (.int .i64 (rd l1 V0))) (ds := []) #[false, false, false, false, false, false, false, false, false, false, false, false, false] zbS rfl rfl ⟨(qac E4.o 0).trans rfl, ((HB.o.cell (World.block_lt_of_cell? w _ C9)).trans C9)⟩ (fun hHeld => ?_); refine qbg qag.tab5 qag.bits5 (fun l4 R6 => ?_);generalize wr.drew = w28 at P5 E4 HB o7 hHeld ⊢;refine qcu (i := 1) (N := some 21) (v := ?_) (a' := ?_) #[false, true, false, false, false, false, false, false, false, false, false, false, false] rfl rfl (qbP l4.o zbS) (fun _ _ _ h => h) (Or.inl ⟨zbX, ?_⟩) ?_ ?_;rotate_left
       ·intro w';go_simp
        with_reducible rfl
       rotate_left
       ·simp only [Act.put, List.setIfInBounds_toArray, List.set_cons_zero, List.set_cons_succ, qbw, qbB];rfl
       refine qcu (i := 2) (N := some 22) (v := ?_) (a' := ?_) #[false, true, true, false, false, false, false, false, false, false, false, false, false] rfl rfl (qbP l4.o zbS) (fun _ _ _ h => h) (Or.inl ⟨zbX, ?_⟩) ?_ ?_;rotate_left
       ·intro w';go_simp
        with_reducible rfl
       rotate_left
       ·simp only [Act.put, List.setIfInBounds_toArray, List.set_cons_zero, List.set_cons_succ, qbw, qbB];rfl
       refine qcu (i := 3) (N := some 23) (v := ?_) (a' := ?_) #[false, true, true, true, false, false, false, false, false, false, false, false, false] rfl rfl (qbP l4.o zbS) (fun _ _ _ h => h) (Or.inl ⟨zbX, ?_⟩) ?_ ?_;rotate_left
       ·intro w';go_simp
        with_reducible rfl
       rotate_left
       ·simp only [Act.put, List.setIfInBounds_toArray, List.set_cons_zero, List.set_cons_succ, qbw, qbB];rfl
       refine qfe (i := 0) (N := some 20) (v := ?_) (a' := ?_) #[true, true, true, true, false, false, false, false, false, false, false, false, false] rfl rfl (qcN l4.o R6.o zbS) (fun _ _ _ h => h) (Or.inl ⟨zbX, ?_⟩) hHeld ?_ ?_;rotate_left
       ·rintro w' ⟨s0, s1⟩;go_simp
        with_reducible rfl
       rotate_left
       ·simp only [Act.put, List.setIfInBounds_toArray, List.set_cons_zero, List.set_cons_succ, qbw, qbB];rfl
       refine qfe (i := 4) (N := some 24) (v := ?_) (a' := ?_) #[true, true, true, true, true, false, false, false, false, false, false, false, false] rfl rfl (qcN l4.o R6.o zbS) (fun _ _ _ h => h) (Or.inl ⟨zbX, ?_⟩) hHeld ?_ ?_;rotate_left
       ·rintro w' ⟨s0, s1⟩;go_simp
        with_reducible rfl
       rotate_left
       ·simp only [Act.put, List.setIfInBounds_toArray, List.set_cons_zero, List.set_cons_succ, qbw, qbB];rfl
       refine one_ (i := 5) (N := some 25) #[true, true, true, true, true, true, false, false, false, false, false, false, false] rfl rfl (qdV l4.o zbS) zbT (fun K hK => ?_);refine qdr Try.func36 zbS rfl #[.agg #[.slice P0 t0.length O0], .int .i64 (rd l1 V0)] zbX rfl rfl zao ?_
       with_reducible refine (qb1.calls _ _ t0 (rd l1 V0) t131 S9 false _ ?side1 ?side2 A9.o).mono ?_
       (case side1 => exact zad (Kd.qaO S6.o HB.o))
       (case side2 => exact r8.o)
       rintro e qX ⟨Ch, JR, rfl, ho0, ho1, hb⟩;refine ⟨_, rfl, ?_⟩;have H0 := z_ (Kd.qbZ (zae P5.o) (Kd.qb0 ho1) hb);have I0 := z_ (Kd.qa9 ho0 (qaC (zab F9.o)));have K0 := z_ (Kd.qa9 (Kd.qcV ho1 (Kd.R_lt (zae P5.o))) (qaC (zab F9.o)));have U0 := z_ (qap (g := qB) (o := .cells #[.slice P0 t0.length O0] 25 (0, 0)) (zac E4.o) hb);have N5 := z_ (qad (zab F9.o) hb);clear P5 E4 HB;have P5 := H0;have FZ := I0;have RS := K0;have E4 := U0;have HB := N5;clear H0 I0 K0 U0 N5
       (try clear hb)
       (try clear hb2)
       (try clear hk)
       (try clear hi)
       (try clear ho0)
       (try clear ho1)
       refine hK.o _ _ ⟨(qac E4.o 0).trans rfl, ((HB.o.cell (World.block_lt_of_cell? w _ C9)).trans C9)⟩ (fun hHeld => ?_);clear hK K;refine qgt (a' := ?_) ?_ ?_;rotate_left
       ·show Act.put _ (some 25) _ = _
        simp only [Act.put, List.setIfInBounds_toArray, List.set_cons_zero, List.set_cons_succ, qbw, qbB];rfl
       refine qcu (i := 6) (N := some 19) (v := ?_) (a' := ?_) #[true, true, true, true, true, true, true, false, false, false, false, false, false] rfl rfl (qbP l4.o zbS) (fun _ _ _ h => h) (Or.inl ⟨zbX, ?_⟩) ?_ ?_;rotate_left
       ·intro w';go_simp
        with_reducible rfl
       rotate_left
       ·simp only [Act.put, List.setIfInBounds_toArray, List.set_cons_zero, List.set_cons_succ, qbw, qbB];rfl
       refine qcu (i := 7) (N := some 26) (v := ?_) (a' := ?_) #[true, true, true, true, true, true, true, true, false, false, false, false, false] rfl rfl (qbP l4.o zbS) (fun _ _ _ h => h) (Or.inl ⟨zbX, ?_⟩) ?_ ?_;rotate_left
       ·intro w';go_simp
        with_reducible rfl
       rotate_left
       ·simp only [Act.put, List.setIfInBounds_toArray, List.set_cons_zero, List.set_cons_succ, qbw, qbB];rfl
       refine qcu (i := 8) (N := some 27) (v := ?_) (a' := ?_) #[true, true, true, true, true, true, true, true, true, false, false, false, false] rfl rfl (qbP l4.o zbS) (fun _ _ _ h => h) (Or.inl ⟨zbX, ?_⟩) ?_ ?_;rotate_left
       ·intro w';go_simp
        with_reducible rfl
       rotate_left
       ·simp only [Act.put, List.setIfInBounds_toArray, List.set_cons_zero, List.set_cons_succ, qbw, qbB];rfl
       refine qcu (i := 9) (N := some 28) (v := ?_) (a' := ?_) #[true, true, true, true, true, true, true, true, true, true, false, false, false] rfl rfl (qbP l4.o zbS) (fun _ _ _ h => h) (Or.inl ⟨zbX, ?_⟩) ?_ ?_;rotate_left
       ·intro w';go_simp
        with_reducible rfl
       rotate_left
       ·simp only [Act.put, List.setIfInBounds_toArray, List.set_cons_zero, List.set_cons_succ, qbw, qbB];rfl
       refine qcu (i := 10) (N := some 8) (v := ?_) (a' := ?_) #[true, true, true, true, true, true, true, true, true, true, true, false, false] rfl rfl (qbP l4.o zbS) (fun _ _ _ h => h) (Or.inl ⟨zbX, ?_⟩) ?_ ?_;rotate_left
       ·intro w';go_simp
        with_reducible rfl
       rotate_left
       ·simp only [Act.put, List.setIfInBounds_toArray, List.set_cons_zero, List.set_cons_succ, qbw, qbB];rfl
       refine qcu (i := 11) (N := some 9) (v := ?_) (a' := ?_) #[true, true, true, true, true, true, true, true, true, true, true, true, false] rfl rfl (qbP l4.o zbS) (fun _ _ _ h => h) (Or.inl ⟨zbX, ?_⟩) ?_ ?_;rotate_left
       ·intro w';go_simp
        with_reducible rfl
       rotate_left
       ·simp only [Act.put, List.setIfInBounds_toArray, List.set_cons_zero, List.set_cons_succ, qbw, qbB];rfl
       refine qcu (i := 12) (N := some 10) (v := ?_) (a' := ?_) #[true, true, true, true, true, true, true, true, true, true, true, true, true] rfl rfl (qbP l4.o zbS) (fun _ _ _ h => h) (Or.inl ⟨zbX, ?_⟩) ?_ ?_;rotate_left
       ·intro w';go_simp
        with_reducible rfl
       rotate_left
       ·simp only [Act.put, List.setIfInBounds_toArray, List.set_cons_zero, List.set_cons_succ, qbw, qbB];rfl
       refine qjc (qfv l4.o zbS) ?_;try go_wp2
       go_ret2
       exact ⟨_, zaF, by (with_reducible repeat (first | apply Kd.qaV | apply Kd.qa0 | apply Kd.qa6)); exact Kd.qbb P5.o (fun _ hk => trivial), zab F9.o⟩
     ·rw [if_neg c8] at H;exact absurd H zbW
    ·rw [if_neg c7] at H;have GC : decide (V0 < (l1.length : Int)) = false := decide_eq_false c7;clear c7;simp only [Option.some.injEq, Prod.mk.injEq] at H;obtain ⟨rfl, rfl⟩ := H
     go_wp2
     go_ret2
     exact ⟨_, zaF, zaE, zab F9.o⟩
 ·rw [if_neg c3] at H;exact absurd H zbW
end Go.Proofs.Ytcdokcpiahbejaa.X
namespace Go.Proofs.Ytcdokcpiahbejaa.X
open Go.RowKit Go.Proofs.YtcdokcpiahbejaaW.PrintWords Go.Proofs.YtcdokcpiahbejaaW.PrintLast Go.Proofs.YtcdokcpiahbejaaW.PrintMore
attribute [local go_sem] qax qay qaz qat qau qaJ qaK qam qan qav qaw
set_option linter.unusedVariables false
set_option linter.unusedSimpArgs false
theorem wup (i : Nat) (h : i < 1000000) : wrap64 ((i : Int) + 1) = ((i + 1 : Nat) : Int) := zbO
theorem winc {x : Int} (h0 : 0 ≤ x) (h1 : x ≤ 1000000) : wrap64 (x + 1) = x + 1 := zbO
theorem qfQ {l : List Int} {i : Nat} (h : i < l.length) : rd l (i : Int) = l[i] := by
 unfold rd;rw [Int.toNat_natCast];simp [List.getD_eq_getElem?_getD, h]
def qeM (ns : List S75) : List Int → List Bool → List Bool × Bool
 | [], o => (o, true)
 | r :: t, o => if (walkR ns r).2.2 = true then qeM ns t (orW o (walkR ns r).2.1) else (o, false)
theorem qhA {ns : List S75} {rs : List Int} : ∀ o, (∀ r, r ∈ rs → (walkR ns r).2.2 = true) → qeM ns rs o = (rs.foldl (fun o r => orW o (walkR ns r).2.1) o, true) := by
 induction rs with
 | nil => intro o _; rfl
 | cons r rs ih =>
  intro o h;unfold qeM;rw [if_pos (h r List.mem_cons_self), ih _ (fun y hy => h y (List.mem_cons_of_mem _ hy))];rfl
theorem qjT {ns : List S75} {rs : List Int} : ∀ o, ¬ (∀ r, r ∈ rs → (walkR ns r).2.2 = true) → (qeM ns rs o).2 = false := by
 induction rs with
 | nil => intro o h; exact absurd (fun r hr => by cases hr) h
 | cons r rs ih =>
  intro o h;unfold qeM
  by_cases hr : (walkR ns r).2.2 = true
  ·rw [if_pos hr];exact ih _ fun hh => h fun y hy => (List.mem_cons.1 hy).elim (fun e => e ▸ hr) (hh y)
  ·rw [if_neg hr]
theorem qgL (ns : List S75) (rs : List Int) (o S : List Bool) (hS : S.length = 50) (i : Nat) (R : List Bool × Bool) (hR : Ev (fun k => qag.l0 k rs (orTo o S 50) (wrap64 ((i : Int) + 1)) ns) R) : ∀ d j, j + d = 50 → Ev (fun k => qag.l1 k rs (orTo o S j) (i : Int) S (j : Int) ns) R := by
 intro d
 induction d with
 | zero =>
  intro j hj;have hj2 : j = 50 := zbV;refine Ev.succ ?_;simp only [qag.l1];rw [hj2];exact Ev.neg zbV hR
 | succ d ih =>
  intro j hj;have hlt : j < 50 := zbV;have hn := ih (j + 1) zbV;have hg := qdv o S j j hlt;rw [decide_eq_false (Nat.lt_irrefl j), Bool.false_and, Bool.or_false] at hg;have hst := qhl o S j hlt;refine Ev.succ ?_;simp only [qag.l1, wup j zbV, Int.toNat_natCast];refine Ev.pos zbV (Ev.pos zbV (Ev.pos (by rw [qch]; omega) ?_));rw [← hg] at hst
  cases hb : rdOf false (orTo o S j) (j : Int) with
  | true =>
   rw [hb, Bool.true_or] at hst;rw [hst];exact Ev.pos rfl hn
  | false =>
   rw [hb, Bool.false_or] at hst;rw [hst];exact Ev.neg zbW (Ev.pos zbV hn)
theorem qgl {ns : List S75} (hs : qcv ns = true) (rs : List Int) (hl : rs.length ≤ 1000) : ∀ (d i : Nat) (o : List Bool), i + d = rs.length → o.length = 50 → Ev (fun k => qag.l0 k rs o (i : Int) ns) (qeM ns (rs.drop i) o) := by
 intro d
 induction d with
 | zero =>
  intro i o hi ho;rw [show i = rs.length from zbV, List.drop_length];refine Ev.succ ?_;simp only [qag.l0];exact Ev.neg zbV (Ev.is rfl)
 | succ d ih =>
  intro i o hi ho;have hlt : i < rs.length := zbV;rw [List.drop_eq_getElem_cons hlt];refine Ev.succ ?_;simp only [qag.l0, qfQ hlt];refine Ev.pos zbV (Ev.pos zbV (Ev.bindk (qjS _ hs) ?_));unfold qeM
  cases hk : (walkR ns rs[i]).2.2 with
  | false => exact Ev.neg zbW (Ev.is zbW)
  | true =>
   have hn := ih (i + 1) (orW o (walkR ns rs[i]).2.1) zbV (qch _ _ _);rw [← wup i zbV] at hn;have h := qgL ns rs o _ (qfF ns rs[i]) i _ hn 50 0 zbV;rw [qhk o _ ho] at h;exact Ev.same (Ev.pos rfl h) zbW
theorem qiW {rs : List Int} (hl : rs.length ≤ 1000) (hr : ∀ r, r ∈ rs → r < 50) : ∀ (d i : Nat) (x : List Int), i + d = rs.length → Bnd x (1000 - (d : Int)) → Ev (fun k => qao.l2 k rs x (i : Int)) (incL x (qcU (rs.drop i))) := by
 intro d
 induction d with
 | zero =>
  intro i x hi hx;rw [show i = rs.length from zbV, List.drop_length];refine Ev.succ ?_;simp only [qao.l2];exact Ev.neg zbV (Ev.is rfl)
 | succ d ih =>
  intro i x hi hx;have hlt : i < rs.length := zbV;have h5 := hr rs[i] (List.getElem_mem _);have hxl := hx.len;rw [List.drop_eq_getElem_cons hlt];refine Ev.succ ?_;simp only [qao.l2, qfQ hlt, wup i zbV];refine Ev.pos zbV (Ev.pos zbV ?_)
  by_cases h0 : 0 ≤ rs[i]
  ·have hb := hx.rng rs[i].toNat zbV;rw [show ((rs[i].toNat : Nat) : Int) = rs[i] from zbV] at hb;have hn := ih (i + 1) (x.set rs[i].toNat (rd x rs[i] + 1)) zbV (by have := hx.inc h0 h5; rw [show (1000 - ((d + 1 : Nat) : Int)) + 1 = 1000 - (d : Int) from zbV] at this; exact this);refine Ev.pos h0 (Ev.pos h0 (Ev.pos zbV ?_));rw [winc hb.1 zbV];refine Ev.same hn ?_;unfold qcU;rw [List.filter_cons, if_pos (decide_eq_true h0)];rfl
  ·have hn := ih (i + 1) x zbV ⟨hxl, fun q hq => zbJ⟩;refine Ev.neg zbV (Ev.same hn ?_);unfold qcU;rw [List.filter_cons, if_neg zbR]
theorem qjU {ns : List S75} {s : List Bool} (hg : GoodS ns s) (hsl : s.length = 50) (rs : List Int) (i : Nat) (hi : i < 50) (hon : rdOf false s (i : Int) = true) (b : Int) (hb : b ≤ 1000) (R : List Int) : ∀ (d q : Nat) (x : List Int), q + d = (qaH ns (i : Int)).f3.length → Bnd x (b - (d : Int)) → Ev (fun k => qao.l0 k rs s (incL x ((qaH ns (i : Int)).f3.drop q)) (wrap64 ((i : Int) + 1)) ns) R → Ev (fun k => qao.l1 k rs s x (i : Int) (q : Int) ns) R := by
 obtain ⟨h4, hin⟩ := qd9 hg hon;have hil := (hg i hon).1;intro d
 induction d with
 | zero =>
  intro q x hq hx hR;rw [show q = (qaH ns (i : Int)).f3.length from zbV, List.drop_length] at hR;refine Ev.succ ?_;simp only [qao.l1];exact Ev.pos zbV (Ev.pos zbV (Ev.pos hon (Ev.pos zbV (Ev.neg zbV hR))))
 | succ d ih =>
  intro q x hq hx hR;have hlt : q < (qaH ns (i : Int)).f3.length := zbV;rw [List.drop_eq_getElem_cons hlt, qhz] at hR;have hj := hin _ (List.getElem_mem hlt);have hxl := hx.len;have hbb := hx.rng (qaH ns (i : Int)).f3[q].toNat zbV;rw [show (((qaH ns (i : Int)).f3[q].toNat : Nat) : Int) = (qaH ns (i : Int)).f3[q] from zbV] at hbb;have hn := ih (q + 1) _ zbV zat hR;refine Ev.succ ?_;simp only [qao.l1, qfQ hlt, wup q zbV, winc hbb.1 zbV];exact Ev.pos zbV (Ev.pos zbV (Ev.pos hon (Ev.pos zbV (Ev.pos zbV (Ev.pos zbV (Ev.pos hj.1 (Ev.pos zbV hn)))))))
theorem qf8 {ns : List S75} {s : List Bool} (hg : GoodS ns s) (hsl : s.length = 50) {rs : List Int} (hl : rs.length ≤ 20) (hr : ∀ r, r ∈ rs → r < 50) : ∀ (d i : Nat) (x : List Int), i + d = 50 → Bnd x (4 * (i : Int)) → Ev (fun k => qao.l0 k rs s x (i : Int) ns) (incL x (qbL ns s i d ++ qcU rs)) := by
 intro d
 induction d with
 | zero =>
  intro i x hi hx;refine Ev.succ ?_;simp only [qao.l0];refine Ev.neg zbV ?_;have h := qiW (rs := rs) zbV hr rs.length 0 x zbV ⟨hx.len, fun q hq => zbJ⟩
  simpa [qbL] using h
 | succ d ih =>
  intro i x hi hx;have hlt : i < 50 := zbV;refine Ev.succ ?_;simp only [qao.l0];refine Ev.pos zbV ?_
  cases hon : rdOf false s (i : Int) with
  | true =>
   obtain ⟨h4, hin⟩ := qd9 hg hon;have hb := hx.incs hin;have hn := ih (i + 1) (incL x (qaH ns (i : Int)).f3) zbV ⟨hb.len, fun q hq => by have := hb.rng q hq; omega⟩;rw [← wup i zbV] at hn;have h := qjU hg hsl rs i hlt hon 1000 zbV _ (qaH ns (i : Int)).f3.length 0 x zbV ⟨hx.len, fun q hq => zbJ⟩ (by rw [List.drop_zero]; exact hn);refine Ev.same h ?_;rw [qbL, if_pos hon, List.append_assoc, qiA x]
  | false =>
   have hn := ih (i + 1) x zbV ⟨hx.len, fun q hq => zbJ⟩;rw [← wup i zbV] at hn;refine Ev.same (Ev.succ ?_) (show incL x (qbL ns s (i + 1) d ++ qcU rs) = _ by rw [qbL, if_neg (by rw [hon]; simp), List.nil_append]);simp only [qao.l1];exact Ev.pos zbV (Ev.pos zbV (Ev.neg (by rw [hon]; simp) hn))
theorem built_ok {h : List S75} {root : Int} {keep : List Bool} {dop : List S77 → List S77} {key : ByteArray} {one : List S77} {d : Nat} {ps : List S77} {pg : List Nat} (hl : h.length = 50) (hk : keep.length = 50) (ht : qcW h d root ps pg) (hu : ∀ i, i ∈ pg → qbj keep i) (hf : Fine ps) (hop : LocalOp dop key) (hone : Fine one ∧ one.length ≤ 3) (hd : d ≤ 20) (hnf : (qbX h root keep dop key one).2.2.2 = false) :
  ∃ e ps' pg', e ≤ 22 ∧ PD (TrD (qbX h root keep dop key one).2.1 e) (qbX h root keep dop key one).1 ps' pg' := by
 have hfd := hop.fine ps hf;unfold qbX at hnf ⊢
 rcases ht with ⟨hr1, rfl, rfl⟩ | ⟨k, hr1, ht, hn⟩
 ·rw [if_pos hr1] at hnf ⊢;have hbg := qdb leafF (qcl 3 one) (onlyN h keep, keep, false);have htb := qeK (qb6 one (onlyN h keep, keep, false));have hf1 := htb.qeZ hnf;unfold qb6 at hf1 hnf htb ⊢;obtain ⟨Fb, t, nd, us, _⟩ := qd5 leafF 0 (qcl 3 one) (onlyN h keep, keep, false) one [] (by simp only; rw [qcT]; exact hk.symm) (qdR hone.1 zbV _ 0) List.nodup_nil (fun i hi => by cases hi) hf1;have hl1 : (layAll leafF (qcl 3 one) (onlyN h keep, keep, false)).1.length ≤ 1 := by rw [qcr]; exact (qcs 3 _).2 hone.2
  obtain ⟨e, pg', e1, e2, e3, t2, n2⟩ := qgI zbB (by rw [hbg.lenu]; exact hk) t nd us zbV hone.1 hnf;exact ⟨e, _, pg', by have := e2 hl1; omega, t2⟩
 ·rw [if_neg zbV] at hnf ⊢;rw [hr1, Int.toNat_natCast] at hnf ⊢;have ht' : TrD (onlyN h keep, keep, false).1 d k ps pg := qdD _ _ _ _ (fun i hi => qdG hl (hu i hi) hk) ht;rw [qd8 (b := (onlyN h keep, keep, false)) d k ps pg ht' 21 zbV] at hnf ⊢;have hbg := qdF dop key d k (onlyN h keep, keep, false);have htb := qeK (qbx dop key d k (onlyN h keep, keep, false));have hf1 := htb.qeZ hnf;obtain ⟨⟨l2, l1⟩, Fb, t, nd, us, _⟩ := qgj hop d k (onlyN h keep, keep, false) ps pg (qcT _ _) hk ht' hn hu hf hf1;obtain ⟨e, pg', e1, e2, e3, t2, n2⟩ := qgI zbB (by rw [hbg.lenu]; exact hk) t nd us l2 hfd hnf;exact ⟨e, _, pg', zbV, t2⟩
end Go.Proofs.Ytcdokcpiahbejaa.X
