import Derived.Test.YtcdokcpiahbejaaGreatKFnExactTreeDrop8
set_option maxRecDepth 100000
set_option maxHeartbeats 16000000
set_option linter.unusedVariables false
set_option linter.unusedSimpArgs false
namespace Go.Proofs.YtcdokcpiahbejaaGreat.X
open Go.RowKit Go.Proofs.PW Go.Proofs.PL Go.Proofs.PM
attribute [local go_sem] qaj qak qal qaf qag qao qap qad qae qah qai
def cLay.T6 : Bool × List (List Nat × List Nat) := (true, [([], []), ([0], [0]), ([1], [1]), ([2], [2]), ([3], [3]), ([], []), ([], []), ([4, 5, 0, 1, 2, 3, 4, 5, 6], [4, 5]), ([7, 6, 0, 1, 2, 3, 4, 5, 6], [6, 7])])
def cLay.B6 : List Nat := [0, 1, 3, 7, 15, 0, 0, 127, 255]
theorem cLay.tab6 : rtab .any (opsOf Tryz.f105 6) = cLay.T6 := zdG
theorem cLay.bits6 : qbW cLay.T6.2 cLay.B6 = true := zdG
theorem ne_tNC : ∀ q, q ∈ 80 :: k80.E → q ≠ 122 := fun q hq => by
 rcases eN q hq with rfl | rfl | rfl | rfl <;> decide
theorem clay (Q : Nat → Prop) (w0 w : World) (g gn cn gu cu N : Nat) (b : List S80 × List Bool × Bool) (hB : Below w0.heap.size w0 w) (hb : CsAt Q w0 w g gn cn gu cu b) (hS : Kd.S k80 80 w w0.heap.size (fun k => k < N ∧ Q k) (.slice (some ⟨gn, 0, none⟩) b.1.length cn) b.1) (hN : w0.heap.size ≤ N) (hG : g < N ∧ gu < N) (hl : b.1.length = 50 ∧ b.2.1.length = 50) (x : S80) (v1 v2 v3 : Value) (r1 : Kd.R k61 61 w N Q v1 x.f1) (r2 : Kd.R Kd.string 9 w N Q v2 x.f2) (r3 : Kd.R (Kd.int .i64) 3 w N Q v3 x.f3) :
  Calls Tryz.prog 105 #[.pointer (some ⟨g, 0, none⟩), .agg #[.bool x.f0, v1, v2, v3]] w fun e w' => e = .returned (.int .i64 ((layB x b).1 : Int)) ∧ CsAt Q w0 w' g gn cn gu cu (layB x b).2 ∧ Below w0.heap.size w0 w' ∧ Kept w w' (S3 g gn gu) := by
 have hu := Tryz.underlying122;have hu2 := Tryz.underlying80;have hu3 := Tryz.underlying29;obtain ⟨ns, us, full⟩ := b;simp only at hl hS;have HOC := z_ (And.intro (Kd.qfo r1).2 (And.intro (Kd.qfo r2).2 (Kd.qfo r3).2));obtain ⟨o, ho⟩ : ∃ o, o = Obj.cells #[.bool x.f0, v1, v2, v3] 80 (0, 0) := ⟨_, rfl⟩
 obtain ⟨gb, hgb⟩ : ∃ gb, gb = w.heap.size := ⟨_, rfl⟩
 have HB0 := z_ (qaA hB o);have nU := z_ (hb.below (qaA (Below.refl _ _) o));have tm := z_ (Kd.qaO hS (qaA (Below.refl _ _) o));have Z1 := z_ (And.intro (Kd.qbm r1 o) (And.intro (Kd.qbm r2 o) (Kd.qbm r3 o)));have HX0 := z_ (show (w.alloc o).heap[gb]? = some (.cells #[.bool x.f0, v1, v2, v3] 80 (0, 0)) from zcG);have tU := z_ (show Kept w (w.alloc o) (S3 g gn gu) from (Kept.refl w _).alloc o);have HLT := z_ hb.lts;have HAP := z_ hb.apart;have HLL := z_ hl;have HNG := z_ (And.intro hN hG);have HGN := z_ (show w0.heap.size ≤ gn ∧ w0.heap.size ≤ gu ∧ w0.heap.size ≤ g from ⟨Kd.qgf hb.nodes gn (qbT _ _ _), Kd.qdt hb.free gu (qbT _ _ _), hb.ge⟩);have HGB := z_ (show gn < gb ∧ gu < gb ∧ g < gb from by rw [hgb]; have := hb.lts; omega);obtain ⟨W1, hW1⟩ : ∃ W1, W1 = w.alloc o := ⟨_, rfl⟩
 rw [← hW1] at HB0 nU HX0 tU tm Z1;have HIX := z_ (index_is us zdM);clear hB hb hS hN hG hl r1 r2 r3;rw [ho] at hW1;clear ho;have d1 := qac nU.o.blk 1;simp only [List.getElem?_toArray, List.getElem?_cons_zero, List.getElem?_cons_succ] at d1
 go_enter Tryz.func105, Tryz.ntmps105
 go_upto_region 1 with fail
 rw [← hW1, ← hgb];clear hW1 hgb o;obtain ⟨kx, hkx⟩ := HIX.o;have HKX := z_ (hkx kx (Nat.le_refl _));have HLM := z_ (show (us.map (!·)).length = us.length from List.length_map _);obtain ⟨fs, hfs⟩ : ∃ fs, fs = us.map (!·) := ⟨_, rfl⟩
 have HFS := z_ hfs;have HFR := z_ nU.o.free;simp only at HFR;rw [← hfs] at HKX HLM HFR;clear hkx HIX hfs
 by_cases hff : firstFree us < us.length
 ·rw [if_pos hff] at HKX;obtain ⟨i, hi⟩ : ∃ i, i = firstFree us := ⟨_, rfl⟩
  rw [← hi] at HKX hff;have HLAY := z_ (show layB x (ns, us, full) = (i, ns.set i x, us.set i true, full) from by unfold layB; simp only; rw [← hi, if_pos hff]);have HI := z_ hff;clear hi hff;have hlt : i < 50 := by have := HI.o; have := HLL.o.2; omega
  have cG := z_ (show Kd.C Kd.bool W1 (some ⟨gu, 0, none⟩) fs.length fs ∧ fs.length ≤ cu from ⟨(Kd.qbb HFR.o).2.2, by rw [HLM.o]; exact (Kd.qbb HFR.o).2.1⟩);have hcall := qaE.calls kx (some ⟨gu, 0, none⟩) cu fs true (i : Int) W1 cG.o.1 cG.o.2 HKX.o;rw [HLM.o] at hcall;have HCL := z_ hcall;clear hcall
  go_wp2_with fail
  refine HCL.o.mono ?_;rintro e wr ⟨rfl, hd3⟩;have HO := z_ hd3.below;have HSr := z_ (nU.o.below HO.o);have HBr := z_ (qaa HB0.o HO.o);have HKr := z_ (tU.o.below HO.o);have HXr := z_ (qab HX0.o HO.o);have HNr := z_ (Kd.qaO tm.o HO.o);have HRr := z_ (And.intro (Kd.qa7 Z1.o.1 HO.o) (And.intro (Kd.qa7 Z1.o.2.1 HO.o) (Kd.qa7 Z1.o.2.2 HO.o)));have HFr := z_ (Kd.qa7 HFR.o HO.o);have uj : decide ((i : Int) < 0) = false := decide_eq_false zdM;have p1 : 0 ≤ (i : Int) := zdM;have HUL := z_ (show us.length = 50 from HLL.o.2);have HNL := z_ (show ns.length = 50 from HLL.o.1);have q1 : (i : Int) < (us.length : Int) := zda;obtain ⟨hx0, hx1⟩ := Kd.qc9 false HFr.o (i : Int) zdM zdM;rw [Int.toNat_natCast] at hx0 hx1;have d1 := qac HSr.o.blk 1;simp only [List.getElem?_toArray, List.getElem?_cons_zero, List.getElem?_cons_succ] at d1;obtain ⟨W2, hW2⟩ : ∃ W2, W2 = wr.setCell ⟨gu, i, none⟩ (.bool false) := ⟨_, rfl⟩
  have hap := HAP.o;have hgb := HGB.o;have hng := HNG.o;have eh := z_ (show W2.heap[g]? = some (.cells #[.slice (some ⟨gn, 0, none⟩) ns.length cn, .slice (some ⟨gu, 0, none⟩) us.length cu, .bool full] 122 (0, 0)) from hW2 ▸ qbD HSr.o.blk hap.2.1 _);have JX := z_ (show Kd.S k80 80 W2 w0.heap.size (fun k => (k < N ∧ Q k) ∧ k ≠ gu) (.slice (some ⟨gn, 0, none⟩) ns.length cn) ns from by
   obtain ⟨z, hz⟩ := HSr.o.tu;exact hW2 ▸ Kd.qgQ (p := ⟨gu, i, none⟩) (Kd.qd7 HNr.o hz ne_tN) (fun k hk => hk.2) _)
  have Fk := z_ (show Kd.R Kd.bool 4 W2 w0.heap.size (fun _ => True) (.slice (some ⟨gu, 0, none⟩) us.length cu) ((us.set i true).map (!·)) from by
   have := Kd.qgJ HFr.o (i : Int) false;rw [Int.toNat_natCast, HFS.o] at this;rw [qjZ];exact hW2 ▸ this)
  have hrn : ∀ k, N ≤ k → k ≠ (⟨gu, i, none⟩ : Addr).block := fun k hk (e : k = gu) => zdM
  have HR2 := z_ (show Kd.R k61 61 W2 N Q v1 x.f1 ∧ Kd.R Kd.string 9 W2 N Q v2 x.f2 ∧ Kd.R (Kd.int .i64) 3 W2 N Q v3 x.f3 from hW2 ▸
   ⟨Kd.qaU (Kd.qbp (p := ⟨gu, i, none⟩) (Kd.qb5 HRr.o.1) (fun k hk => hrn k hk.2.1) _) (fun _ hk => hk.1), Kd.qaU (Kd.qbp (p := ⟨gu, i, none⟩) (Kd.qb5 HRr.o.2.1) (fun k hk => hrn k hk.2.1) _) (fun _ hk => hk.1), Kd.qaU (Kd.qbp (p := ⟨gu, i, none⟩) (Kd.qb5 HRr.o.2.2) (fun k hk => hrn k hk.2.1) _) (fun _ hk => hk.1)⟩)
  have HB2 := z_ (show Below w0.heap.size w0 W2 from hW2 ▸ HBr.o.setCell (p := ⟨gu, i, none⟩) HGN.o.2.1 _);have tQ := z_ (show Kept w W2 (S3 g gn gu) from hW2 ▸ qdI HKr.o (p := ⟨gu, i, none⟩) (.inr (.inr rfl)) _);have AE := z_ (show W2.heap[gb]? = some (.cells #[.bool x.f0, v1, v2, v3] 80 (0, 0)) from hW2 ▸ qbD HXr.o (show gb ≠ gu from zdM) _);clear hap hgb hng hrn HSr HBr HKr HXr HNr HRr HFr cG HCL HFR HFS hd3 nU HB0 tU HX0 tm Z1
  go_upto_region 6 with fail
  rw [← hW2];clear hW2 hx0 hx1 d1;have lZ := z_ (qaq eh.o);have OG := z_ (show Kd.S k80 80 W2.drew w0.heap.size (fun k => k < N ∧ Q k) (.slice (some ⟨gn, 0, none⟩) ns.length cn) ns from Kd.qbZ (Kd.qd1 JX.o) (fun k hk => hk.1));have rU := z_ (Kd.qbu Fk.o);have HR3 := z_ (And.intro (Kd.qbu HR2.o.1) (And.intro (Kd.qbu HR2.o.2.1) (Kd.qbu HR2.o.2.2)));have HB3 := z_ (qba HB2.o);have EB := z_ (show Kept w W2.drew (S3 g gn gu) from tQ.o.drew);have cC := z_ (qaq AE.o);clear eh JX Fk HB2 tQ AE HR2;refine qdv (n := 9) (S := fun w' => True) (ds := []) zArrF9 zdG rfl rfl trivial (fun hHeld => ?_);refine qbU cLay.tab6 cLay.bits6 (fun E2 r8 => ?_);generalize W2.drew = wd at lZ OG rU HR3 HB3 EB cC ⊢;have BK := z_ lZ.o;have SN := z_ OG.o;have UU := z_ rU.o;have RR := z_ HR3.o;have XB := z_ cC.o;have HB := z_ HB3.o;have HK := z_ EB.o;clear lZ OG rU HR3 cC HB3 EB;refine qer [0, 1, 2, 3, 4, 5, 6, 7, 8] (fun TE b a w' => a = qbH TE b [(0, 22, .pointer (some ⟨g, 0, none⟩)), (1, 23, .pointer (some ⟨g, 0, none⟩)), (2, 24, .pointer (some ⟨g, 0, none⟩)), (3, 25, .pointer (some ⟨g, 0, none⟩)), (4, 26, .slice (some ⟨gn, 0, none⟩) ns.length cn), (5, 27, .int .i64 (i : Int)), (6, 28, .agg #[.bool x.f0, v1, v2, v3]), (7, 29, .pointer (some ⟨gn, i * 4, none⟩))] ∧ (w'.heap[g]? = some (.cells #[.slice (some ⟨gn, 0, none⟩) ns.length cn, .slice (some ⟨gu, 0, none⟩) us.length cu, .bool full] 122 (0, 0))) ∧ (b 8 = false → Kd.S k80 80 w' w0.heap.size (fun k => k < N ∧ Q k) (.slice (some ⟨gn, 0, none⟩) ns.length cn) ns) ∧ (Kd.R Kd.bool 4 w' w0.heap.size (fun _ => True) (.slice (some ⟨gu, 0, none⟩) us.length cu) ((us.set i true).map (!·))) ∧ (b 8 = false → Kd.R k61 61 w' N Q v1 x.f1 ∧ Kd.R Kd.string 9 w' N Q v2 x.f2 ∧ Kd.R (Kd.int .i64) 3 w' N Q v3 x.f3) ∧ (b 8 = false → w'.heap[gb]? = some (.cells #[.bool x.f0, v1, v2, v3] 80 (0, 0))) ∧ (Below w0.heap.size w0 w') ∧ (Kept w w' (S3 g gn gu)) ∧ (b 8 = true → Kd.S k80 80 w' w0.heap.size Q (.slice (some ⟨gn, 0, none⟩) ns.length cn) (ns.set i x))) E2.o r8.o zdG zdG ?_ ?_ ?_
  ·exact ⟨zbB, BK.o, fun _ => SN.o, UU.o, fun _ => RR.o, fun _ => XB.o, HB.o, HK.o, fun h_ => absurd h_ zdK⟩
  ·skip;clear BK HB HK RR SN UU XB;refine zsteps_ rfl ?_ ?_
   ·rintro b a w' ⟨ha, QT⟩ hb_ hon hoff K hK;have e0 : a.tmps[0]? = some (.pointer (some ⟨g, 0, none⟩)) := zcj;replace ha := z_ ha;refine qaT (w1 := w') (v := .pointer (some ⟨g, 0, none⟩)) zdO rfl zci ?_;refine hK.o _ _ ⟨zbJ, QT⟩
   refine zsteps_ rfl ?_ ?_
   ·rintro b a w' ⟨ha, QT⟩ hb_ hon hoff K hK;have e22 : a.tmps[22]? = some (.pointer (some ⟨g, 0, none⟩)) := zon_ ha 0 rfl rfl hon;replace ha := z_ ha;refine qaT (w1 := w') (v := .pointer (some ⟨g, 0, none⟩)) zdO rfl zci ?_;refine hK.o _ _ ⟨zbK, QT⟩
   refine zsteps_ rfl ?_ ?_
   ·rintro b a w' ⟨ha, QT⟩ hb_ hon hoff K hK;have e23 : a.tmps[23]? = some (.pointer (some ⟨g, 0, none⟩)) := zon_ ha 1 rfl rfl hon;replace ha := z_ ha;refine qaT (w1 := w') (v := .pointer (some ⟨g, 0, none⟩)) zdO rfl zci ?_;refine hK.o _ _ ⟨zbL, QT⟩
   refine zsteps_ rfl ?_ ?_
   ·rintro b a w' ⟨ha, QT⟩ hb_ hon hoff K hK;have e24 : a.tmps[24]? = some (.pointer (some ⟨g, 0, none⟩)) := zon_ ha 2 rfl rfl hon;replace ha := z_ ha;refine qaT (w1 := w') (v := .pointer (some ⟨g, 0, none⟩)) zdO rfl zci ?_;refine hK.o _ _ ⟨zbM, QT⟩
   refine zsteps_ rfl ?_ ?_
   ·rintro b a w' ⟨ha, QT⟩ hb_ hon hoff K hK;have e25 : a.tmps[25]? = some (.pointer (some ⟨g, 0, none⟩)) := zon_ ha 3 rfl rfl hon;replace ha := z_ ha;have BK := z_ QT.1;have yF := qac BK.o 0;simp only [List.getElem?_toArray, List.getElem?_cons_zero, List.getElem?_cons_succ] at yF;refine qaT (w1 := w') (v := .slice (some ⟨gn, 0, none⟩) ns.length cn) zdO rfl zci ?_;refine hK.o _ _ ⟨zbN, QT⟩
   refine zsteps_ rfl ?_ ?_
   ·rintro b a w' ⟨ha, QT⟩ hb_ hon hoff K hK;have e5 : a.tmps[5]? = some (.int .i64 (i : Int)) := zcj;replace ha := z_ ha;refine qaT (w1 := w') (v := .int .i64 (i : Int)) zdO rfl zci ?_;refine hK.o _ _ ⟨zbO, QT⟩
   refine zsteps_ rfl ?_ ?_
   ·rintro b a w' ⟨ha, QT⟩ hb_ hon hoff K hK;have e3 : a.tmps[3]? = some (.pointer (some ⟨gb, 0, none⟩)) := zcj;replace ha := z_ ha;have XB := z_ (QT.2.2.2.2.1 (hoff 8 zdG));obtain ⟨Tg, Kg, ph, Wg⟩ := qbB XB.o;have TM := HOC.o.1;have KL := HOC.o.2.1;have jL := HOC.o.2.2;refine qaT (w1 := w') (v := .agg #[.bool x.f0, v1, v2, v3]) zdO rfl zci ?_;refine hK.o _ _ ⟨zbP, QT⟩
   refine zsteps_ rfl ?_ ?_
   ·rintro b a w' ⟨ha, QT⟩ hb_ hon hoff K hK;have e26 : a.tmps[26]? = some (.slice (some ⟨gn, 0, none⟩) ns.length cn) := zon_ ha 4 rfl rfl hon;have e27 : a.tmps[27]? = some (.int .i64 (i : Int)) := zon_ ha 5 rfl rfl hon;replace ha := z_ ha;have Og : (0 : Int) ≤ (i : Int) := zdM;have yd : (i : Int) < (ns.length : Int) := by have := HNL.o; omega
    refine qaT (w1 := w') (v := .pointer (some ⟨gn, i * 4, none⟩)) zdO rfl zci ?_;refine hK.o _ _ ⟨zbQ, QT⟩
   refine zsteps_ rfl ?_ ?_
   ·rintro b a w' ⟨ha, pX, da, bX, Dc, If, kW, UW, y9⟩ hb_ hon hoff K hK;have e29 : a.tmps[29]? = some (.pointer (some ⟨gn, i * 4, none⟩)) := zon_ ha 7 rfl rfl hon;have e28 : a.tmps[28]? = some (.agg #[.bool x.f0, v1, v2, v3]) := zon_ ha 6 rfl rfl hon;replace ha := z_ ha;have BK := z_ pX;have SN := z_ (da hb_);have UU := z_ bX;have RR := z_ (Dc hb_);have HB := z_ kW;have HK := z_ UW;obtain ⟨_, lB, XE, _, V5, u6, _, _⟩ := Kd.qeR SN.o z80 (i : Int) zdM (by have := HNL.o; omega);obtain ⟨Mg, Hf, Zd, nf, kG⟩ : ∃ y0 y1 y2 y3, lB = [y0, y1, y2, y3] := by have qS : lB.length = 4 := XE; match lB, qS with | [a0, a1, a2, a3], _ => exact ⟨a0, a1, a2, a3, rfl⟩
    subst kG;have bP := V5 0 _ rfl;have g6 := V5 1 _ rfl;have i6 := V5 2 _ rfl;have P9 := V5 3 _ rfl;have O1 := u6 0;have C4 := u6 1;have G7 := u6 2;have R7 := u6 3;simp only [Int.toNat_natCast, show k80.sz = 4 from rfl, Nat.add_zero] at bP g6 i6 P9 O1 C4 G7 R7;have TM := HOC.o.1;have KL := HOC.o.2.1;have jL := HOC.o.2.2;have WW : ∀ (a_ : Addr) (m_ : Mode) (W_ : World), (store a_ v1 m_).run Tryz.prog W_ = stored Tryz.prog W_ a_ v1 m_ := fun a_ m_ W_ => run_store _ W_ a_ v1 m_ TM
    have xW : ∀ (a_ : Addr) (m_ : Mode) (W_ : World), (store a_ v2 m_).run Tryz.prog W_ = stored Tryz.prog W_ a_ v2 m_ := fun a_ m_ W_ => run_store _ W_ a_ v2 m_ KL
    have TV : ∀ (a_ : Addr) (m_ : Mode) (W_ : World), (store a_ v3 m_).run Tryz.prog W_ = stored Tryz.prog W_ a_ v3 m_ := fun a_ m_ W_ => run_store _ W_ a_ v3 m_ jL
    refine qgN (w1 := (set4 w' gn (i * 4) (.bool x.f0) v1 v2 v3)) zdO rfl zdt ?_;refine hK.o _ _ ⟨zbR, qel BK.o HAP.o.1 _ _ _ _, fun qB => absurd ((qbG b 8).symm.trans qB) zdK, Kd.qaU (qfI (Kd.qbg UU.o (Kd.qcL SN.o gn (qbT _ _ _)).choose_spec ne_tB) (fun k hk => hk.2) _ _ _ _) (fun _ _ => trivial), fun qB => absurd ((qbG b 8).symm.trans qB) zdK, fun qB => absurd ((qbG b 8).symm.trans qB) zdK, qgl HB.o HGN.o.1 _ _ _ _, kept4 HK.o _ _ _ _, fun _ => S_putQ SN.o (by have := HNL.o; omega) x RR.o.1 RR.o.2.1 RR.o.2.2 HNG.o.1 ⟨TM, KL, jL⟩⟩
   exact qcC
  rintro b a wE hall ⟨ha, pX, da, bX, Dc, If, kW, UW, y9⟩;clear BK HB HK RR SN UU XB;have Z4 := hall 0 zdG;have i3 := hall 1 zdG;have J4 := hall 2 zdG;have o4 := hall 3 zdG;have D4 := hall 4 zdG;have Q5 := hall 5 zdG;have H4 := hall 6 zdG;have q7 := hall 7 zdG;have y7 := hall 8 zdG;subst ha;simp only [qbH, Z4, i3, J4, o4, D4, Q5, H4, q7, y7, if_true, Act.put, List.setIfInBounds_toArray, List.set_cons_zero, List.set_cons_succ];have BK := z_ pX;clear pX da;have UU := z_ bX;clear bX Dc If;have HB := z_ kW;clear kW;have HK := z_ UW;clear UW;have SSF := z_ (y9 y7);clear y9 hall Z4 i3 J4 o4 D4 Q5 H4 q7 y7
  go_wp2_with fail
  go_ret
  rw [HLAY.o];exact ⟨rfl, ⟨HGN.o.2.2, by simp only [List.length_set]; exact BK.o, by simp only [List.length_set]; exact SSF.o, by simp only [List.length_set]; exact UU.o⟩, HB.o, HK.o⟩
 ·rw [if_neg hff] at HKX;have HLAY := z_ (show layB x (ns, us, full) = (0, ns, us, true) from by unfold layB; simp only; rw [if_neg hff]);clear hff;have cG := z_ (show Kd.C Kd.bool W1 (some ⟨gu, 0, none⟩) fs.length fs ∧ fs.length ≤ cu from ⟨(Kd.qbb HFR.o).2.2, by rw [HLM.o]; exact (Kd.qbb HFR.o).2.1⟩);have hcall := qaE.calls kx (some ⟨gu, 0, none⟩) cu fs true (-1) W1 cG.o.1 cG.o.2 HKX.o;rw [HLM.o] at hcall;have HCL := z_ hcall;clear hcall
  go_wp2_with fail
  refine HCL.o.mono ?_;rintro e wr ⟨rfl, hd3⟩;have HO := z_ hd3.below;have HSr := z_ (nU.o.below HO.o);have HBr := z_ (qaa HB0.o HO.o);have HKr := z_ (tU.o.below HO.o);have d2 := qac HSr.o.blk 2;have e2 := qau HSr.o.blk 2;simp only [List.getElem?_toArray, List.getElem?_cons_zero, List.getElem?_cons_succ] at d2;clear hd3 cG HCL
  go_wp2_with fail
  go_ret
  rw [HLAY.o];refine ⟨rfl, ⟨HGN.o.2.2, qfk HSr.o.blk 2 _, ?_, ?_⟩, HBr.o.setCell (p := ⟨g, 2, none⟩) HGN.o.2.2 _, qdI HKr.o (p := ⟨g, 2, none⟩) (.inl rfl) _⟩
  ·exact Kd.qbZ (Kd.qgQ (p := ⟨g, 2, none⟩) (Kd.qd7 HSr.o.nodes HSr.o.blk ne_tNC) (fun k hk => hk.2) _) (fun _ hk => hk.1)
  ·exact Kd.qaU (Kd.qbp (p := ⟨g, 2, none⟩) (Kd.qbg HSr.o.free HSr.o.blk ne_tB3) (fun k hk => hk.2) _) (fun _ _ => trivial)
theorem qiB {α : Type} {d : Kd α} {e base : Nat} {ok Q : Nat → Prop} {v : Value} {xs : List α} {w0 w : World} {g gn cn gu cu : Nat} {b : List S80 × List Bool × Bool} (hb : CsAt Q w0 w g gn cn gu cu b) (h : d.R e w base ok v xs) (h1 : ∀ q, q ∈ e :: d.E → q ≠ 122 ∧ q ≠ 80 ∧ q ≠ 4) : ∃ A c, v = .slice A xs.length c ∧ xs.length ≤ c ∧ Kd.F d w (fun k => ¬ S3 g gn gu k ∧ k < w.heap.size) A xs.length xs := by
 obtain ⟨y, hy⟩ := hb.tn;obtain ⟨z, hz⟩ := hb.tu;obtain ⟨A, c, rfl, hl, _⟩ := Kd.qa4 h;refine ⟨A, c, rfl, hl, Kd.qci (Kd.qfq (Kd.R_F (Kd.qbg (Kd.qbg (Kd.qbg h hb.blk (fun q hq => (h1 q hq).1)) hy (fun q hq => (h1 q hq).2.1)) hz (fun q hq => (h1 q hq).2.2)))) (fun k hk => ⟨?_, hk.2⟩)⟩;rintro (e | e | e)
 ·exact hk.1.1.1.2 e
 ·exact hk.1.1.2 e
 ·exact hk.1.2 e
theorem neC_P : ∀ q, q ∈ 61 :: k61.E → q ≠ 122 ∧ q ≠ 80 ∧ q ≠ 4 := fun q hq => by
 have := neP q hq;simp only [k61, Kd.iso, Kd.pair, Kd.scalar, Kd.string, List.mem_cons, List.mem_append, List.not_mem_nil, or_false, false_or] at hq;subst hq
 decide
theorem neC_S : ∀ q, q ∈ 9 :: Kd.string.E → q ≠ 122 ∧ q ≠ 80 ∧ q ≠ 4 := fun q hq => by
 have : q = 9 := zcu;rw [this]; decide
theorem neC_I : ∀ q, q ∈ 3 :: (Kd.int .i64).E → q ≠ 122 ∧ q ≠ 80 ∧ q ≠ 4 := fun q hq => by
 have : q = 3 := zcy;rw [this]; decide
theorem CsAt.node {Q : Nat → Prop} {w0 w : World} {g gn cn gu cu : Nat} {b : List S80 × List Bool × Bool} (h : CsAt Q w0 w g gn cn gu cu b) {k : Nat} {x : S80} (hx : b.1[k]? = some x) :
  ∃ A1 c1 A2 c2 A3 c3, (w.cell? ⟨gn, k * 4, none⟩ = some (.bool x.f0) ∧ w.cell? ⟨gn, k * 4 + 1, none⟩ = some (.slice A1 x.f1.length c1) ∧ w.cell? ⟨gn, k * 4 + 2, none⟩ = some (.slice A2 x.f2.length c2) ∧ w.cell? ⟨gn, k * 4 + 3, none⟩ = some (.slice A3 x.f3.length c3)) ∧
   (x.f1.length ≤ c1 ∧ Kd.F k61 w (fun k => ¬ S3 g gn gu k ∧ k < w.heap.size) A1 x.f1.length x.f1) ∧ (x.f2.length ≤ c2 ∧ Kd.F Kd.string w (fun k => ¬ S3 g gn gu k ∧ k < w.heap.size) A2 x.f2.length x.f2) ∧ (x.f3.length ≤ c3 ∧ Kd.F (Kd.int .i64) w (fun k => ¬ S3 g gn gu k ∧ k < w.heap.size) A3 x.f3.length x.f3) := by
 have hk : k < b.1.length := by
  rcases Nat.lt_or_ge k b.1.length with h2 | h2
  ·exact h2
  ·rw [List.getElem?_eq_none h2] at hx; cases hx
 obtain ⟨oki, c, _, hM, hcc, _, _, _⟩ := Kd.qeR h.nodes z80 (k : Int) zdM zdM;have he : b.1.getD (k : Int).toNat z80 = x := by rw [Int.toNat_natCast, List.getD_eq_getElem?_getD, hx]; rfl
 rw [he] at hM;obtain ⟨v1, v2, v3, rfl, r1, r2, r3⟩ := qeU hM;obtain ⟨A1, c1, rfl, l1, f1⟩ := qiB h r1 neC_P;obtain ⟨A2, c2, rfl, l2, f2⟩ := qiB h r2 neC_S;obtain ⟨A3, c3, rfl, l3, f3⟩ := qiB h r3 neC_I;exact ⟨A1, c1, A2, c2, A3, c3, ⟨hcc 0 _ rfl, hcc 1 _ rfl, hcc 2 _ rfl, hcc 3 _ rfl⟩, ⟨l1, f1⟩, ⟨l2, f2⟩, ⟨l3, f3⟩⟩
def qeK (x : S80) : ByteArray := if x.f0 = true then (x.f1.getD 0 z61).f0 else x.f2.getD 0 ⟨#[]⟩
theorem cleast (Q : Nat → Prop) (w0 w : World) (g gn cn gu cu : Nat) (b : List S80 × List Bool × Bool) (hb : CsAt Q w0 w g gn cn gu cu b) (k : Nat) (x : S80) (hx : b.1[k]? = some x) (hl : x.f0 = true → 0 < x.f1.length) :
  Calls Tryz.prog 114 #[.pointer (some ⟨g, 0, none⟩), .int .i64 (k : Int)] w fun e w' => e = .returned (.string (qeK x)) ∧ Below w.heap.size w w' := by
 have hu := Tryz.underlying122;have hu2 := Tryz.underlying80;have hu3 := Tryz.underlying29;have sf := Tryz.underlying61;have hk : k < b.1.length := by
  rcases Nat.lt_or_ge k b.1.length with h2 | h2
  ·exact h2
  ·rw [List.getElem?_eq_none h2] at hx; cases hx
 obtain ⟨A1, c1, A2, c2, A3, c3, ⟨d0, d1, d2, d3⟩, r1, r2, r3⟩ := hb.node hx;have dg := qac hb.blk 0;simp only [List.getElem?_toArray, List.getElem?_cons_zero] at dg;have p1 : (0 : Int) ≤ (k : Int) := zdM;have q1 : (k : Int) < (b.1.length : Int) := zdM;obtain ⟨gb, hgb⟩ : ∃ gb, gb = w.heap.size := ⟨_, rfl⟩
 obtain ⟨W2, hW2⟩ : ∃ W2, W2 = w.alloc (Obj.cells #[.bool x.f0, .slice A1 x.f1.length c1, .slice A2 x.f2.length c2, .slice A3 x.f3.length c3] 80 (0, 0)) := ⟨_, rfl⟩
 have hX2 : W2.heap[gb]? = some (.cells #[.bool x.f0, .slice A1 x.f1.length c1, .slice A2 x.f2.length c2, .slice A3 x.f3.length c3] 80 (0, 0)) := zcE;have hY2 : Below w.heap.size w W2 := zbV;have BH := z_ hY2;have HR1 := z_ (Kd.qcT (Kd.qbF r1.2 hY2));have HR2 := z_ (Kd.qcT (Kd.qbF r2.2 hY2));have HLN := z_ hl;clear hb hx r1 r2 r3 hY2 hk hl
 go_enter Tryz.func114, Tryz.ntmps114
 go_upto_region 2 with fail
 rw [← hW2, ← hgb];clear hW2 d0 d1 d2 d3 dg p1 q1 hgb;obtain ⟨b0, b1, b2, b3⟩ := qbB hX2
 cases hf : x.f0 with
 | true =>
  rw [hf] at b0;have HE := z_ (show qeK x = (qan x.f1 0).f0 from by unfold qeK; rw [if_pos hf]; rfl);have hlp := HLN.o hf;obtain ⟨ad, rfl, hx1, _⟩ := qb1 HR1.o 0 zdK zdM;have hz : (0 < x.f1.length) = True := eq_true hlp;have hz2 : (x.f1 = []) = False := by simp only [eq_iff_iff, iff_false]; intro e_; rw [e_] at hlp; exact absurd hlp zdK
  replace hx1 : W2.cell? ad = some (.string (qan x.f1 0).f0) := by simpa [Addr.add] using hx1
  clear hf hlp
  go_wp2_with fail
  go_ret
  exact ⟨by rw [HE.o]; rfl, BH.o⟩
 | false =>
  rw [hf] at b0
  by_cases h2 : 0 < x.f2.length
  ·have HE := z_ (show qeK x = rdOf ByteArray.empty x.f2 0 from by unfold qeK; rw [if_neg (by rw [hf]; decide)]; rfl);obtain ⟨ad, rfl, hx1⟩ := Kd.qbX HR2.o 0 zdK zdM;have uj : decide (0 < (x.f2.length : Int)) = true := decide_eq_true zdM;have hz : (0 < x.f2.length) = True := eq_true h2;have hz2 : (x.f2 = []) = False := by simp only [eq_iff_iff, iff_false]; intro e_; rw [e_] at h2; exact absurd h2 zdK
   replace hx1 : W2.cell? ad = some (.string (rdOf ByteArray.empty x.f2 0)) := by simpa [Addr.add] using hx1
   clear hf h2
   go_wp2_with fail
   go_ret
   exact ⟨by rw [HE.o]; rfl, BH.o⟩
  ·have HE := z_ (show qeK x = ⟨#[]⟩ from by unfold qeK; have h0 : x.f2 = [] := List.eq_nil_of_length_eq_zero zdM; rw [if_neg (by rw [hf]; decide), h0]; rfl);have uj : decide (0 < (x.f2.length : Int)) = false := decide_eq_false zdM;have hz : (0 < x.f2.length) = False := eq_false h2;have hz2 : x.f2 = [] := List.eq_nil_of_length_eq_zero zdM;clear hf h2
   go_wp2_with fail
   go_ret
   exact ⟨by rw [HE.o]; rfl, BH.o⟩
def qbN.f (l0 : List (S61)) (a1 : Int) : Option ((List (List (S61)))) := if (l0.length : Int) = 0 then (some ([] : List (List (S61)))) else (if (l0.length : Int) ≤ a1 then (some (([l0] : List (List (S61))))) else (if 0 ≤ (wrap64 (Int.tdiv (wrap64 ((l0.length : Int) + 1)) 2)) then (if (wrap64 (Int.tdiv (wrap64 ((l0.length : Int) + 1)) 2)) ≤ (l0.length : Int) then (some (([(l0.take ((wrap64 (Int.tdiv (wrap64 ((l0.length : Int) + 1)) 2)) : Int).toNat), (l0.drop ((wrap64 (Int.tdiv (wrap64 ((l0.length : Int) + 1)) 2)) : Int).toNat)] : List (List (S61))))) else (none)) else (none)))
def qbN.T6 : Bool × List (List Nat × List Nat) := (true, [([], []), ([], []), ([0, 1], [0, 1]), ([], []), ([], []), ([3, 4], [3, 4]), ([2, 5], [2, 5]), ([6, 0, 1, 2, 3, 4, 5, 6], [6])])
def qbN.B6 : List Nat := [0, 0, 3, 0, 0, 24, 63, 127]
theorem qbN.tab6 : rtab .any (opsOf Tryz.f104 6) = qbN.T6 := zdG
theorem qbN.bits6 : qbW qbN.T6.2 qbN.B6 = true := zdG
theorem qbN.calls (E4 : Nat → Prop) (A0 : Option Addr) (c0 : Nat) (l0 : List (S61)) (a1 : Int) (r : List (List (S61))) (w : World) (hs0 : Kd.V k61 61 w w.heap.size (fun k_ => E4 k_) (.slice A0 l0.length c0) l0) (h : qbN.f l0 a1 = some r) :
  Calls Tryz.prog 104 #[.slice A0 l0.length c0, .int .i64 a1] w fun e w' => ∃ B7 : Value, e = .returned (B7) ∧ Kd.N (Kd.slice 61 k61) 45 w' w.heap.size (fun k_ => (E4 k_ ∨ w.heap.size ≤ k_)) B7 r ∧ Below w.heap.size w w' := by
 have T7 := z_ (show Kd.V k61 61 w w.heap.size (fun k_ => (E4 k_ ∨ w.heap.size ≤ k_)) (.slice A0 l0.length c0) l0 from Kd.qei hs0 (fun k_ hk => .inl hk));have HB := z_ (Below.refl w.heap.size w);have H : (if (l0.length : Int) = 0 then (some ([] : List (List (S61)))) else (if (l0.length : Int) ≤ a1 then (some (([l0] : List (List (S61))))) else (if 0 ≤ (wrap64 (Int.tdiv (wrap64 ((l0.length : Int) + 1)) 2)) then (if (wrap64 (Int.tdiv (wrap64 ((l0.length : Int) + 1)) 2)) ≤ (l0.length : Int) then (some (([(l0.take ((wrap64 (Int.tdiv (wrap64 ((l0.length : Int) + 1)) 2)) : Int).toNat), (l0.drop ((wrap64 (Int.tdiv (wrap64 ((l0.length : Int) + 1)) 2)) : Int).toNat)] : List (List (S61))))) else (none)) else (none)))) = some r := h;clear h
 by_cases c3 : (l0.length : Int) = 0
 ·rw [if_pos c3] at H;have Y1 : ((l0.length : Int) == 0) = true := beq_iff_eq.mpr c3;have r6 : ((l0.length : Int) != 0) = false := bne_eq_false_iff_eq.mpr c3;clear c3;obtain rfl := Option.some.inj H
  go_enter Tryz.func104, Tryz.ntmps104
  go_wp2
  go_ret
  exact ⟨_, zaM, zap, zar⟩
 ·rw [if_neg c3] at H;have Y1 : ((l0.length : Int) == 0) = false := beq_eq_false_iff_ne.mpr c3;have r6 : ((l0.length : Int) != 0) = true := bne_iff_ne.mpr c3;have QB : ¬ (l0 = []) := fun h_ => c3 zdD
  by_cases c4 : (l0.length : Int) ≤ a1
  ·rw [if_pos c4] at H;have G4 : decide ((l0.length : Int) ≤ a1) = true := decide_eq_true c4;clear c4;obtain ⟨Zl, TJ⟩ : ∃ y_ : List (List (S61)), y_ = (([l0] : List (List (S61)))) := ⟨_, rfl⟩
   replace H : (some Zl) = some r := by first | (rw [TJ]; with_reducible exact H) | (have J1 := (Option.bind_some _ _).symm.trans H; rw [TJ]; with_reducible exact J1) | (have J1 := (Option.bind_some _ _).symm.trans H; with_reducible exact J1) | with_reducible exact H | (rw [TJ]; exact H) | exact H
   have NX := z_ TJ;clear TJ;obtain rfl := Option.some.inj H
   go_enter Tryz.func104, Tryz.ntmps104
   go_wp2_with (first | ((with_reducible refine qaw (N := 16) rfl ?_); refine Kd.N_lit (Kd.slice 61 k61) _ 45 ?hg (N' := 16) ?hd (xs := ([l0] : List (List (S61)))) (inner := [.slice A0 l0.length c0]) (ok := (fun k_ => (E4 k_ ∨ w.heap.size ≤ k_))) (okp := (fun k_ => (E4 k_ ∨ w.heap.size ≤ k_))) ?hr ?hp (fun _ hk => hk) ((show ∀ k_, w.heap.size ≤ k_ → (fun k_ => (E4 k_ ∨ w.heap.size ≤ k_)) k_ from fun k_ hk => (.inr (Nat.le_trans (qaz zar) hk))) _ (Nat.le_refl _)) (Below.refl _ _) (Nat.le_refl _) zdN ?_; (case hd => rfl); (case hg => rfl); (case hr => first | (go_simp; done) | (go_simp; rfl)); (case hp => exact (Reps.one (show Kd.FK (Kd.slice 61 k61) _ _ l0 [.slice A0 l0.length c0] from (Kd.qcN (Kd.qdT (Kd.qei (ok' := (fun k_ => (E4 k_ ∨ w.heap.size ≤ k_))) (T7.o) (fun k_ hk => hk))).2.1 (Kd.V_F (Kd.qei (ok' := (fun k_ => (E4 k_ ∨ w.heap.size ≤ k_))) (T7.o) (fun k_ hk => hk))))) (Reps.none _ _))); intro v494 w5 KB hb j3 K0; clear j3 K0; (first | rw [← NX.o] at KB | (simp only [Int.reduceToNat] at KB; rw [← NX.o] at KB)); replace T7 := z_ (Kd.qej (zai T7.o) (Kd.qgg KB) hb); have Jg := z_ (Kd.qij KB (qaz zar)); replace HB := z_ (qaa zar hb); clear hb KB))
   go_ret
   exact ⟨_, zaM, by (with_reducible repeat (first | apply Kd.qik | apply Kd.qil | apply Kd.qkf)); exact Jg.o, zar⟩
  ·rw [if_neg c4] at H;have G4 : decide ((l0.length : Int) ≤ a1) = false := decide_eq_false c4;clear c4;obtain ⟨F7, AQ⟩ : ∃ j_ : Int, (wrap64 (Int.tdiv (wrap64 ((l0.length : Int) + 1)) 2)) = j_ := ⟨_, rfl⟩
   replace H : (if 0 ≤ (F7) then (if (F7) ≤ (l0.length : Int) then (some (([(l0.take ((F7) : Int).toNat), (l0.drop ((F7) : Int).toNat)] : List (List (S61))))) else (none)) else (none)) = some r := zaU;have ei : (IntKind.i64.wrap (Int.tdiv (wrap64 ((l0.length : Int) + 1)) 2)) = F7 := (qef _).trans AQ
   by_cases c8 : 0 ≤ (F7)
   ·rw [if_pos c8] at H;have FD := eq_true c8;have FQ : decide (0 ≤ (F7)) = true := decide_eq_true c8;clear c8
    by_cases c9 : (F7) ≤ (l0.length : Int)
    ·rw [if_pos c9] at H;have OJ := eq_true c9;have TY : decide ((F7) ≤ (l0.length : Int)) = true := decide_eq_true c9;clear c9;obtain ⟨MG, JK⟩ : ∃ y_ : List (S61), y_ = (l0.take ((F7) : Int).toNat) := ⟨_, rfl⟩
     replace H : (some (([MG, (l0.drop ((F7) : Int).toNat)] : List (List (S61))))) = some r := by first | (rw [JK]; with_reducible exact H) | (have J1 := (Option.bind_some _ _).symm.trans H; rw [JK]; with_reducible exact J1) | (have J1 := (Option.bind_some _ _).symm.trans H; with_reducible exact J1) | with_reducible exact H | (rw [JK]; exact H) | exact H
     have IX := z_ JK;clear JK;have kK := eq_true (zod_ : 0 ≤ (F7));have qC := eq_true (zod_ : (F7) ≤ (l0.length : Int));obtain ⟨mE, rK⟩ : ∃ y_ : List (S61), y_ = (l0.drop ((F7) : Int).toNat) := ⟨_, rfl⟩
     replace H : (some (([MG, mE] : List (List (S61))))) = some r := by first | (rw [rK]; with_reducible exact H) | (have J1 := (Option.bind_some _ _).symm.trans H; rw [rK]; with_reducible exact J1) | (have J1 := (Option.bind_some _ _).symm.trans H; with_reducible exact J1) | with_reducible exact H | (rw [rK]; exact H) | exact H
     have XX := z_ rK;clear rK;obtain ⟨Qm, MK⟩ : ∃ y_ : List (List (S61)), y_ = (([MG, mE] : List (List (S61)))) := ⟨_, rfl⟩
     replace H : (some Qm) = some r := by first | (rw [MK]; with_reducible exact H) | (have J1 := (Option.bind_some _ _).symm.trans H; rw [MK]; with_reducible exact J1) | (have J1 := (Option.bind_some _ _).symm.trans H; with_reducible exact J1) | with_reducible exact H | (rw [MK]; exact H) | exact H
     have oY := z_ MK;clear MK;obtain rfl := Option.some.inj H
     go_enter Tryz.func104, Tryz.ntmps104
     try go_wp2
     have O1 := z_ (Kd.qlo T7.o);have C4 := z_ (qa1 HB.o);clear T7 HB;have T7 := O1;have HB := C4;clear O1 C4;have QZ : ((F7) : Int) ≤ ((l0.length : Int) : Int) := zod_;obtain ⟨Sl, FJ, _, VR, _⟩ := info_parts qgh;have OC : l0.length ≤ c0 := (Kd.qdT T7.o).2.1;have wT : Kd.F k61 _ _ A0 l0.length l0 := (Kd.V_at (base := w.heap.size) T7.o).2.2;have qM := qk1 (P := Tryz.prog) 45 61 .i64 Tryz.underlying45 FJ A0 l0.length c0 (F7) (zod_) QZ OC;have wL := Kd.qi6 (m := ((F7) : Int).toNat) wT zdM;have VM : MG.length = ((F7) : Int).toNat := (by rw [IX.o, List.length_take]; omega);rw [← IX.o] at wL;rw [← VM] at qM;have yH := z_ (show Kd.V k61 61 _ w.heap.size _ (.slice A0 MG.length c0) MG from Kd.V_mk zdM wL);have HC500 := z_ (show MG.length ≤ c0 from zdM);clear wL wT OC FJ VR;have un := z_ VM;clear VM;replace QZ := eq_true QZ;have Va : ((F7) : Int) ≤ ((l0.length : Int) : Int) := zod_;obtain ⟨Zo, pK, _, QJ, _⟩ := info_parts qgh;have dB : l0.length ≤ c0 := (Kd.qdT T7.o).2.1;have gS : Kd.F k61 _ _ A0 l0.length l0 := (Kd.V_at (base := w.heap.size) T7.o).2.2;have Bc : (0 : Int) ≤ ((F7) : Int) := zod_;have dM := qia (P := Tryz.prog) 45 61 .i64 Tryz.underlying45 pK 2 QJ A0 l0.length c0 (F7) Bc Va;have CG := Kd.qlp (m := ((F7) : Int).toNat) (c := c0) gS zdM dB;obtain ⟨DR, GI⟩ : ∃ A1, A1 = (if c0 = ((F7) : Int).toNat then A0 else (A0 : Option Addr).map (·.add (((F7) : Int).toNat * 2))) := ⟨_, rfl⟩
     obtain ⟨c14, IQ⟩ : ∃ c1, c1 = c0 - ((F7) : Int).toNat := ⟨_, rfl⟩
     have nK : mE.length = l0.length - ((F7) : Int).toNat := (by rw [XX.o, List.length_drop] <;> omega);rw [show (l0).drop ((F7) : Int).toNat = mE from XX.o.symm] at CG;replace CG : Kd.F k61 _ _ DR mE.length mE := (by rw [GI]; exact CG);rw [← nK, ← GI, ← IQ] at dM;have wH := z_ (show Kd.V k61 61 _ w.heap.size _ (.slice DR mE.length c14) mE from Kd.V_mk zbo CG);have HC505 := z_ (show mE.length ≤ c14 from zbo);clear CG gS dB pK QJ IQ;have Ll := z_ nK;have lX := z_ GI;clear nK GI;replace Va := eq_true Va;refine qdv (n := 8) (S := fun w' => True) (ds := []) zArrF8 zdG rfl rfl trivial (fun hHeld => ?_); refine qbU qbN.tab6 qbN.bits6 (fun E2 r8 => ?_);generalize w.drew = JB at T7 HB yH wH hHeld ⊢;refine qce (i := 0) (N := some 21) (v := _) (a' := _) #[true, false, false, false, false, false, false, false] rfl rfl (qbI E2.o zdG) (fun _ _ _ h => h) (Or.inl ⟨zdO, zct⟩) zaF ?_;refine qce (i := 1) (N := some 22) (v := _) (a' := _) #[true, true, false, false, false, false, false, false] rfl rfl (qbI E2.o zdG) (fun _ _ _ h => h) (Or.inl ⟨zdO, zct⟩) zaF ?_;refine qce (i := 2) (N := some 23) (v := _) (a' := _) #[true, true, true, false, false, false, false, false] rfl rfl (qbI E2.o zdG) (fun _ _ _ h => h) (Or.inl ⟨zdO, zct⟩) zaF ?_;refine qce (i := 3) (N := some 24) (v := _) (a' := _) #[true, true, true, true, false, false, false, false] rfl rfl (qbI E2.o zdG) (fun _ _ _ h => h) (Or.inl ⟨zdO, zct⟩) zaF ?_;refine qce (i := 4) (N := some 25) (v := _) (a' := _) #[true, true, true, true, true, false, false, false] rfl rfl (qbI E2.o zdG) (fun _ _ _ h => h) (Or.inl ⟨zdO, zct⟩) zaF ?_;refine qce (i := 5) (N := some 26) (v := _) (a' := _) #[true, true, true, true, true, true, false, false] rfl rfl (qbI E2.o zdG) (fun _ _ _ h => h) (Or.inl ⟨zdO, zct⟩) zaF ?_;refine one_ (i := 6) (N := some 27) #[true, true, true, true, true, true, true, false] rfl rfl (qdO E2.o zdG) zdK (fun K hK => ?_);refine Kd.qf3 (Kd.slice 61 k61) _ 45 ?hg (N' := 27) ?hd (xs := ([MG, mE] : List (List (S61)))) (inner := [.slice A0 MG.length c0, .slice DR mE.length c14]) (ok := (fun k_ => (E4 k_ ∨ w.heap.size ≤ k_))) (okp := (fun k_ => (E4 k_ ∨ w.heap.size ≤ k_))) ?hr ?hp (fun _ hk => hk) ((show ∀ k_, JB.heap.size ≤ k_ → (fun k_ => (E4 k_ ∨ w.heap.size ≤ k_)) k_ from fun k_ hk => (.inr (Nat.le_trans (qaz zar) hk))) _ (Nat.le_refl _)) (Below.refl _ _) (Nat.le_refl _) zdN ?_; (case hd => rfl); (case hg => rfl); (case hr => first | (go_simp; done) | (go_simp; rfl)); (case hp => exact (Reps.one (show Kd.FK (Kd.slice 61 k61) _ _ MG [.slice A0 MG.length c0] from (Kd.qcN (Kd.qdT (Kd.qei (ok' := (fun k_ => (E4 k_ ∨ w.heap.size ≤ k_))) (yH.o) (fun k_ hk => hk))).2.1 (Kd.V_F (Kd.qei (ok' := (fun k_ => (E4 k_ ∨ w.heap.size ≤ k_))) (yH.o) (fun k_ hk => hk))))) (Reps.one (show Kd.FK (Kd.slice 61 k61) _ _ mE [.slice DR mE.length c14] from (Kd.qcN (Kd.qdT (Kd.qei (ok' := (fun k_ => (E4 k_ ∨ w.heap.size ≤ k_))) (wH.o) (fun k_ hk => hk))).2.1 (Kd.V_F (Kd.qei (ok' := (fun k_ => (E4 k_ ∨ w.heap.size ≤ k_))) (wH.o) (fun k_ hk => hk))))) (Reps.none _ _))))
     intro v507 bC XA hb j3 K0;clear j3 K0
     (first | rw [← oY.o] at XA | (simp only [Int.reduceToNat] at XA; rw [← oY.o] at XA))
     have O1 := z_ (Kd.qej (zai T7.o) (Kd.qgg XA) hb);have C4 := z_ (Kd.qej (zai yH.o) (Kd.qgg XA) hb);have G7 := z_ (Kd.qej (zai wH.o) (Kd.qgg XA) hb);have R7 := z_ (Kd.qij XA (qaz zar));have EA := z_ (qaa zar hb);clear T7 yH wH HB;have T7 := O1;have yH := C4;have wH := G7;have Vd := R7;have HB := EA;clear O1 C4 G7 R7 EA hb XA;refine hK.o _ _ trivial (fun hHeld => ?_);clear hK K;refine qfD (a' := ?_) ?_ ?_;rotate_left
     ·show Act.put _ (some 27) _ = _
      simp only [Act.put, List.setIfInBounds_toArray, List.set_cons_zero, List.set_cons_succ, qef, qeP];rfl
     refine qce (i := 7) (N := some 4) (v := _) (a' := _) zArrT8 rfl rfl (qbI E2.o zdG) (fun _ _ _ h => h) (Or.inl ⟨zdO, zct⟩) zaF ?_;refine qiV (qeQ E2.o zdG) ?_;try go_wp2
     go_ret
     exact ⟨_, zan, by (with_reducible repeat (first | apply Kd.qik | apply Kd.qil | apply Kd.qkf)); exact Vd.o, zar⟩
    ·rw [if_neg c9] at H;exact absurd H zdN
   ·rw [if_neg c8] at H;exact absurd H zdN
theorem qdQ {w w1 w2 : World} {g gn gu : Nat} (h : Kept w w1 (S3 g gn gu)) (hk : Kept w1 w2 (S3 g gn gu)) : Kept w w2 (S3 g gn gu) := ⟨Nat.le_trans h.1 hk.1, fun i hi hn => (hk.2 i (Nat.lt_of_lt_of_le hi h.1) hn).trans (h.2 i hi hn)⟩
structure LcAt {α : Type} (kd : Kd α) (te : Nat) (X : Option Nat) (w0 w wr : World) (g gn cn gu cu : Nat) (P : Nat → Prop) (lo hi : Nat) (vp : Value) (ps : List α) (b : List S80 × List Bool × Bool) (vo : Value) (out : List Int) : Prop where
 below : Below w0.heap.size w0 wr
 kept : Kept w wr (S3 g gn gu)
 parts : Kd.N kd te wr lo (fun k => P k ∨ lo ≤ k ∧ k < hi) vp ps
 cs : CsAt (Off X vo) w0 wr g gn cn gu cu b
 told : Kd.R (Kd.int .i64) 3 wr w.heap.size (fun k => k < lo ∨ hi ≤ k) vo out
 low : w.heap.size ≤ lo
 high : hi ≤ wr.heap.size ∧ lo ≤ hi
 blocks : g < w.heap.size ∧ gn < w.heap.size ∧ gu < w.heap.size
 far : ∀ k, P k → k < w.heap.size ∧ ¬ S3 g gn gu k
 le : w0.heap.size ≤ w.heap.size
 xlt : ∀ k, X = some k → k < w.heap.size
section
variable {α : Type} {kd : Kd α} {te : Nat} {X : Option Nat} {w0 w wr w1 : World} {g gn cn gu cu lo hi : Nat} {P : Nat → Prop} {vp vo v1 : Value} {ps : List α} {b c : List S80 × List Bool × Bool} {out XJ : List Int}
theorem LcAt.qbQ (h : LcAt kd te X w0 w wr g gn cn gu cu P lo hi vp ps b vo out) (hb : Below wr.heap.size wr w1) : LcAt kd te X w0 w w1 g gn cn gu cu P lo hi vp ps b vo out :=
 ⟨qaa h.below hb, h.kept.below hb, Kd.qf0 h.parts hb, h.cs.below hb, Kd.qa7 h.told hb, h.low, ⟨Nat.le_trans h.high.1 hb.size, h.high.2⟩, h.blocks, h.far, h.le, h.xlt⟩
theorem LcAt.own (h : LcAt kd te X w0 w wr g gn cn gu cu P lo hi vp ps b vo out) : ∀ k, vo.ownBlock = some k → w.heap.size ≤ k ∧ (k < lo ∨ hi ≤ k) := fun k hk => ⟨Kd.qdt h.told k hk, h.told.1 k hk⟩
theorem LcAt.s3 (h : LcAt kd te X w0 w wr g gn cn gu cu P lo hi vp ps b vo out) : ∀ k, S3 g gn gu k → k < w.heap.size := fun k hk => by
 rcases hk with rfl | rfl | rfl
 ·exact h.blocks.1
 ·exact h.blocks.2.1
 ·exact h.blocks.2.2
theorem LcAt.laid (h : LcAt kd te X w0 w wr g gn cn gu cu P lo hi vp ps b vo out) (hc : CsAt (Off X vo) w0 w1 g gn cn gu cu c) (hw : Below w0.heap.size w0 w1) (hk : Kept wr w1 (S3 g gn gu)) : LcAt kd te X w0 w w1 g gn cn gu cu P lo hi vp ps c vo out :=
 ⟨hw, qdQ h.kept hk, Kd.N_kept h.parts hk (fun k ho e => by
   have := h.s3 k e
   rcases ho with ho | ho
   ·exact (h.far k ho).2 e
   ·have := h.low; omega), hc,
  Kd.qaU (Kd.qeS (Kd.qb5 h.told) hk (fun k ho e => by have := h.s3 k e; have := ho.2.1; omega)) (fun k hk => hk.1), h.low, ⟨Nat.le_trans h.high.1 hk.1, h.high.2⟩, h.blocks, h.far, h.le, h.xlt⟩
theorem LcAt.grown (h : LcAt kd te X w0 w wr g gn cn gu cu P lo hi vp ps b vo out) (hg : wr.grownBy w1 vo.ownBlock) (hat : v1.ownBlock = vo.ownBlock ∨ ∃ b, v1.ownBlock = some b ∧ wr.heap.size ≤ b) (ho : Kd.R (Kd.int .i64) 3 w1 w.heap.size (fun k => k < lo ∨ hi ≤ k) v1 XJ) : LcAt kd te X w0 w w1 g gn cn gu cu P lo hi vp ps b v1 XJ := by
 have hown := h.own;have hs := h.kept.1;have hle := h.le;refine ⟨Below.grown h.below hg zdM (fun k hk => by have := hown k hk; omega), ⟨Nat.le_trans hs hg.size, fun i hi hn => (hg.block i zdM (fun e => by have := hown i e.symm; omega)).trans (h.kept.2 i hi hn)⟩, ?_, ⟨h.cs.ge, ?_, ?_, ?_⟩, ho, h.low, ⟨Nat.le_trans h.high.1 hg.size, h.high.2⟩, h.blocks, h.far, h.le, h.xlt⟩
 ·refine Kd.N_grown h.parts hg (fun k hk e => ?_);have h1 := hown k e.symm;have h2 := h.low
  rcases hk with hk | hk
  ·have := (h.far k hk).1; omega
  ·omega
 ·refine qbe h.cs.blk hg (fun e => ?_);have := hown g e.symm;have := h.blocks.1;omega
 ·refine Kd.qbZ (Kd.qjG (Kd.qcr h.cs.nodes) hg (fun k hk => hk.1.1)) (fun k hk => ⟨fun e => ?_, hk.1.2⟩)
  rcases hat with hat | ⟨q, hq, hq2⟩
  ·exact hk.1.1 (hat ▸ e)
  ·rw [hq] at e;have := hk.2.2.1;have e2 : k = q := Option.some.inj e;omega
 ·refine Kd.qaU (Kd.qh7 (Kd.qdH rfl h.cs.free) hg (fun k hk e => ?_)) (fun _ _ => trivial);have e1 : k = gu := by
   rw [qbT] at hk;exact Option.some.inj hk
  have := hown k e.symm;have := h.blocks.2.2;omega
end
theorem qh2 {α : Type} (n : Nat) (l : List α) : (qbJ n l).length ≤ 2 := by
 unfold qbJ
 split
 ·simp
 ·split <;> simp
theorem halfP_is (L : List S61) (n : Nat) (h : L.length ≤ 1000000) : qbN.f L (n : Int) = some (qbJ n L) := by
 unfold qbN.f qbJ;have e : wrap64 (Int.tdiv (wrap64 ((L.length : Int) + 1)) 2) = (((L.length + 1) / 2 : Nat) : Int) := by
  have e1 : wrap64 ((L.length : Int) + 1) = (L.length : Int) + 1 := zdn;have e2 : Int.tdiv ((L.length : Int) + 1) 2 = ((L.length : Int) + 1) / 2 := Int.tdiv_eq_ediv_of_nonneg zdM;rw [e1, e2];unfold wrap64;omega
 by_cases h0 : L.length = 0
 ·rw [if_pos zdM, if_neg zdM, if_pos h0]
 rw [if_neg zdM]
 by_cases h1 : L.length ≤ n
 ·rw [if_pos zdM, if_neg zdM, if_neg h0]
 ·rw [if_neg zdM, if_pos zdM, e, if_pos zdM, if_pos zdM, Int.toNat_natCast]
theorem qhf {α : Type} {f : List α → ByteArray × S80} {cs : List (List α)} {j : Nat} (h : j < cs.length) (b : List S80 × List Bool × Bool) : layAll f (cs.drop j) b = (((f cs[j]).1, (layB (f cs[j]).2 b).1) :: (layAll f (cs.drop (j + 1)) (layB (f cs[j]).2 b).2).1, (layAll f (cs.drop (j + 1)) (layB (f cs[j]).2 b).2).2) := by
 rw [List.drop_eq_getElem_cons h];rfl
def qbs (l : List (ByteArray × Nat)) : List Int := l.map fun p => (p.2 : Int)
def qat.l0 : Nat → Int → ByteArray → Option (ByteArray)
 | 0, _, _ => none
 | k + 1, x0, x3 => if x0 > 0 then ((some (([(wrap64 (48 + (Int.tmod x0 10))) % 256] : List Int) : List Int)).bind fun dI => (if (strOfNums dI).size + x3.size ≤ 9223372036854775807 then (qat.l0 k (wrap64 (Int.tdiv x0 10)) ((strOfNums dI) ++ x3)) else (none))) else (if 1 + x3.size ≤ 9223372036854775807 then (some ((⟨#[109]⟩ : ByteArray) ++ x3)) else (none))
def qat.f (k : Nat) (a0 : Int) : Option (ByteArray) := if a0 ≤ 0 then (some (⟨#[109, 48]⟩ : ByteArray)) else (qat.l0 k a0 (⟨#[]⟩ : ByteArray))
theorem qat.qbl : ∀ k, (∀ y0 y1, LeO (qat.l0 k y0 y1) (qat.l0 (k + 1) y0 y1))
 | 0 => fun _ _ r h => by simp [qat.l0] at h
 | k + 1 => by
  have Q9 := qat.qbl k
  ·intro y0 y1;unfold qat.l0;exact zleo_
theorem qat.mono : ∀ a0 k, LeO (qat.f k a0) (qat.f (k + 1) a0) := by
 intro a0 k;have Q9 := qat.qbl k;unfold qat.f;exact zleo_
theorem qat.calls (k : Nat) (a0 : Int) (r : ByteArray) (w : World) (h : qat.f k a0 = some r) :
  Calls Tryz.prog 92 #[.int .i64 a0] w fun e w' => e = .returned (.string r) ∧ Below w.heap.size w w' := by
 have HB := z_ (Below.refl w.heap.size w);have H : (if a0 ≤ 0 then (some (⟨#[109, 48]⟩ : ByteArray)) else (qat.l0 k a0 (⟨#[]⟩ : ByteArray))) = some r := h;clear h
 by_cases c2 : a0 ≤ 0
 ·rw [if_pos c2] at H;have RA : decide (a0 ≤ 0) = true := decide_eq_true c2;clear c2;obtain rfl := Option.some.inj H
  go_enter Tryz.func92, Tryz.ntmps92
  go_wp2
  go_ret
  exact ⟨zaM, zar⟩
 ·rw [if_neg c2] at H;have RA : decide (a0 ≤ 0) = false := decide_eq_false c2;clear c2;have H' := z_ H;clear H
  go_enter Tryz.func92, Tryz.ntmps92
  go_wp2
  go_loopg [0, 3] k (fun kq v0 v3 w' => ∃ (O2 : Int) (J0 : ByteArray), v0 = .int .i64 O2 ∧ v3 = .string J0 ∧ Aside0 (qat.l0 kq O2 J0 = some r) ∧ Aside0 (kq ≤ k) ∧ Aside0 (Below w.heap.size w w'))
  case atStart => exact ⟨(a0), ((⟨#[]⟩ : ByteArray)), zcc, zcc, H', ⟨Nat.le_refl _⟩, ⟨zar⟩⟩
  case round =>
   clear H';try clear c2
   try clear RA
   obtain ⟨O2, J0, rfl, rfl, HA, I5, HB⟩ := hrel
   cases gk with
   | zero => exact absurd HA.o (by simp [qat.l0])
   | succ k1 =>
    have H := HA.o;clear HA;simp only [qat.l0] at H
    by_cases c3 : O2 > 0
    ·rw [if_pos c3] at H;have Y1 : decide (0 < O2) = true := decide_eq_true c3;clear c3;obtain ⟨dI, uJ⟩ : ∃ y_ : List Int, y_ = (([(wrap64 (48 + (Int.tmod O2 10))) % 256] : List Int)) := ⟨_, rfl⟩
     replace H : (if (strOfNums dI).size + J0.size ≤ 9223372036854775807 then (qat.l0 k1 (wrap64 (Int.tdiv O2 10)) ((strOfNums dI) ++ J0)) else (none)) = some r := by first | (rw [uJ]; with_reducible exact H) | (have J1 := (Option.bind_some _ _).symm.trans H; rw [uJ]; with_reducible exact J1) | (have J1 := (Option.bind_some _ _).symm.trans H; with_reducible exact J1) | with_reducible exact H | (rw [uJ]; exact H) | exact H
     have uX := z_ uJ;clear uJ
     by_cases c4 : (strOfNums dI).size + J0.size ≤ 9223372036854775807
     ·rw [if_pos c4] at H;have G4 := eq_true c4;have tg : decide ((strOfNums dI).size + J0.size ≤ 9223372036854775807) = true := decide_eq_true c4;try have c4b2 : (9223372036854775807 < (strOfNums dI).size + J0.size) = False := eq_false (Nat.not_lt.2 c4)
      have H' := z_ H;clear H
      go_wp2_with (first | ((with_reducible refine qaw (N := 12) rfl ?_); refine Kd.qdr (Kd.int .u8) _ 5 zdO (N := 12) zdO (xs := ([(wrap64 (48 + (Int.tmod O2 10))) % 256] : List Int)) (inner := [.int .u8 ((wrap64 (48 + (Int.tmod O2 10))) % 256)]) (ok := fun _ => True) (okp := fun _ => True) zcm ?hp (fun _ hk => hk) trivial (Below.refl _ _) (Nat.le_refl _) zdN ?_; (case hp => exact (Reps.one (show Kd.M (Kd.int .u8) _ _ _ ((wrap64 (48 + (Int.tmod O2 10))) % 256) [.int .u8 ((wrap64 (48 + (Int.tmod O2 10))) % 256)] from rfl) (Reps.none _ _))); intro v586 w5 KB hb j3 K0; clear j3 K0; (first | rw [← uX.o] at KB | (simp only [Int.reduceToNat] at KB; rw [← uX.o] at KB)); have wg := z_ (Kd.qa3 KB (qaz zar)); replace HB := z_ (qaa zar hb); clear hb KB; have hcv7 := qkt (P := Tryz.prog) Tryz.underlying145 Tryz.underlying5 Tryz.underlying9 (Kd.qh9 wg.o)))
      go_roundg k1
      case measure => have := I5.o; omega
      case rel => exact ⟨(wrap64 (Int.tdiv O2 10)), ((strOfNums dI) ++ J0), zcc, zcc, H', ⟨zcY⟩, ⟨zar⟩⟩
     ·rw [if_neg c4] at H;exact absurd H zdN
    ·rw [if_neg c3] at H;have Y1 : decide (0 < O2) = false := decide_eq_false c3;clear c3
     by_cases c8 : 1 + J0.size ≤ 9223372036854775807
     ·rw [if_pos c8] at H;have FD := eq_true c8;have FQ : decide (1 + J0.size ≤ 9223372036854775807) = true := decide_eq_true c8;try have c8b2 : (9223372036854775807 < 1 + J0.size) = False := eq_false (Nat.not_lt.2 c8)
      obtain rfl := Option.some.inj H
      go_wp2
      go_ret
      exact ⟨zaM, zar⟩
     ·rw [if_neg c8] at H;exact absurd H zdN
theorem qjq (n : Nat) : ∀ (a : Int) (acc : ByteArray), a.toNat ≤ n → 0 ≤ a → a ≤ 4611686018427387904 → acc.size + n ≤ 4611686018427387905 → ∃ s, Ev (fun k => qat.l0 k a acc) s := by
 induction n with
 | zero =>
  intro a acc h h0 h1 h2;refine ⟨(⟨#[109]⟩ : ByteArray) ++ acc, Ev.succ ?_⟩;simp only [qat.l0];exact Ev.neg zdM (Ev.pos zdM (Ev.is rfl))
 | succ n ih =>
  intro a acc h h0 h1 h2
  by_cases hz : a > 0
  ·have e : wrap64 (Int.tdiv a 10) = a / 10 := by
    rw [Int.tdiv_eq_ediv_of_nonneg h0];exact qc0 zdM zdM
   have hsz : ∀ b : Int, (strOfNums [b]).size = 1 := fun b => by simp [strOfNums, ByteArray.size]
   obtain ⟨s, hs⟩ := ih (a / 10) (strOfNums [(wrap64 (48 + Int.tmod a 10)) % 256] ++ acc) zdM zdM zdM (by rw [ByteArray.size_append, hsz]; omega);refine ⟨s, Ev.succ ?_⟩;simp only [qat.l0, Option.bind_some];refine Ev.pos hz (Ev.pos (by rw [hsz]; omega) ?_);rw [e];exact hs
  ·refine ⟨(⟨#[109]⟩ : ByteArray) ++ acc, Ev.succ ?_⟩;simp only [qat.l0];exact Ev.neg hz (Ev.pos zdM (Ev.is rfl))
theorem qhg (a : Int) (h : a ≤ 4611686018427387904) : ∃ s, Ev (fun k => qat.f k a) s := by
 unfold qat.f
 by_cases hz : a ≤ 0
 ·exact ⟨_, Ev.pos hz (Ev.is rfl)⟩
 ·obtain ⟨s, hs⟩ := qjq a.toNat a (⟨#[]⟩ : ByteArray) (Nat.le_refl _) zdM h (by simp [ByteArray.size]; omega);exact ⟨s, Ev.neg hz hs⟩
noncomputable def mt (a : Int) : ByteArray := if h : a ≤ 4611686018427387904 then (qhg a h).choose else ByteArray.empty
theorem qkH {a : Int} (h : a ≤ 4611686018427387904) : Ev (fun k => qat.f k a) (mt a) := by
 unfold mt;rw [dif_pos h];exact (qhg a h).choose_spec
def qbw.f (l0 : List Int) (a1 : Int) : Option ((List (List Int))) := if (l0.length : Int) = 0 then (some ([] : List (List Int))) else (if (l0.length : Int) ≤ a1 then (some (([l0] : List (List Int)))) else (if 0 ≤ (wrap64 (Int.tdiv (wrap64 ((l0.length : Int) + 1)) 2)) then (if (wrap64 (Int.tdiv (wrap64 ((l0.length : Int) + 1)) 2)) ≤ (l0.length : Int) then (some (([(l0.take ((wrap64 (Int.tdiv (wrap64 ((l0.length : Int) + 1)) 2)) : Int).toNat), (l0.drop ((wrap64 (Int.tdiv (wrap64 ((l0.length : Int) + 1)) 2)) : Int).toNat)] : List (List Int)))) else (none)) else (none)))
def qbw.T6 : Bool × List (List Nat × List Nat) := (true, [([], []), ([], []), ([0, 1], [0, 1]), ([], []), ([], []), ([3, 4], [3, 4]), ([2, 5], [2, 5]), ([6, 0, 1, 2, 3, 4, 5, 6], [6])])
def qbw.B6 : List Nat := [0, 0, 3, 0, 0, 24, 63, 127]
theorem qbw.tab6 : rtab .any (opsOf Tryz.f113 6) = qbw.T6 := zdG
theorem qbw.bits6 : qbW qbw.T6.2 qbw.B6 = true := zdG
theorem qbw.calls (E4 : Nat → Prop) (A0 : Option Addr) (c0 : Nat) (l0 : List Int) (a1 : Int) (r : List (List Int)) (w : World) (hs0 : Kd.V (Kd.int .i64) 3 w w.heap.size (fun k_ => E4 k_) (.slice A0 l0.length c0) l0) (h : qbw.f l0 a1 = some r) :
  Calls Tryz.prog 113 #[.slice A0 l0.length c0, .int .i64 a1] w fun e w' => ∃ B7 : Value, e = .returned (B7) ∧ Kd.N (Kd.slice 3 (Kd.int .i64)) 25 w' w.heap.size (fun k_ => (E4 k_ ∨ w.heap.size ≤ k_)) B7 r ∧ Below w.heap.size w w' := by
 have T7 := z_ (show Kd.V (Kd.int .i64) 3 w w.heap.size (fun k_ => (E4 k_ ∨ w.heap.size ≤ k_)) (.slice A0 l0.length c0) l0 from Kd.qei hs0 (fun k_ hk => .inl hk));have HB := z_ (Below.refl w.heap.size w);have H : (if (l0.length : Int) = 0 then (some ([] : List (List Int))) else (if (l0.length : Int) ≤ a1 then (some (([l0] : List (List Int)))) else (if 0 ≤ (wrap64 (Int.tdiv (wrap64 ((l0.length : Int) + 1)) 2)) then (if (wrap64 (Int.tdiv (wrap64 ((l0.length : Int) + 1)) 2)) ≤ (l0.length : Int) then (some (([(l0.take ((wrap64 (Int.tdiv (wrap64 ((l0.length : Int) + 1)) 2)) : Int).toNat), (l0.drop ((wrap64 (Int.tdiv (wrap64 ((l0.length : Int) + 1)) 2)) : Int).toNat)] : List (List Int)))) else (none)) else (none)))) = some r := h;clear h
 by_cases c3 : (l0.length : Int) = 0
 ·rw [if_pos c3] at H;have Y1 : ((l0.length : Int) == 0) = true := beq_iff_eq.mpr c3;have r6 : ((l0.length : Int) != 0) = false := bne_eq_false_iff_eq.mpr c3;clear c3;obtain rfl := Option.some.inj H
  go_enter Tryz.func113, Tryz.ntmps113
  go_wp2
  go_ret
  exact ⟨_, zaM, zap, zar⟩
 ·rw [if_neg c3] at H;have Y1 : ((l0.length : Int) == 0) = false := beq_eq_false_iff_ne.mpr c3;have r6 : ((l0.length : Int) != 0) = true := bne_iff_ne.mpr c3;have QB : ¬ (l0 = []) := fun h_ => c3 zdD
  by_cases c4 : (l0.length : Int) ≤ a1
  ·rw [if_pos c4] at H;have G4 : decide ((l0.length : Int) ≤ a1) = true := decide_eq_true c4;clear c4;obtain ⟨rm, sK⟩ : ∃ y_ : List (List Int), y_ = (([l0] : List (List Int))) := ⟨_, rfl⟩
   replace H : (some rm) = some r := by first | (rw [sK]; with_reducible exact H) | (have J1 := (Option.bind_some _ _).symm.trans H; rw [sK]; with_reducible exact J1) | (have J1 := (Option.bind_some _ _).symm.trans H; with_reducible exact J1) | with_reducible exact H | (rw [sK]; exact H) | exact H
   have OY := z_ sK;clear sK;obtain rfl := Option.some.inj H
   go_enter Tryz.func113, Tryz.ntmps113
   go_wp2_with (first | ((with_reducible refine qaw (N := 16) rfl ?_); refine Kd.N_lit (Kd.slice 3 (Kd.int .i64)) _ 25 ?hg (N' := 16) ?hd (xs := ([l0] : List (List Int))) (inner := [.slice A0 l0.length c0]) (ok := (fun k_ => (E4 k_ ∨ w.heap.size ≤ k_))) (okp := (fun k_ => (E4 k_ ∨ w.heap.size ≤ k_))) ?hr ?hp (fun _ hk => hk) ((show ∀ k_, w.heap.size ≤ k_ → (fun k_ => (E4 k_ ∨ w.heap.size ≤ k_)) k_ from fun k_ hk => (.inr (Nat.le_trans (qaz zar) hk))) _ (Nat.le_refl _)) (Below.refl _ _) (Nat.le_refl _) zdN ?_; (case hd => rfl); (case hg => rfl); (case hr => first | (go_simp; done) | (go_simp; rfl)); (case hp => exact (Reps.one (show Kd.FK (Kd.slice 3 (Kd.int .i64)) _ _ l0 [.slice A0 l0.length c0] from (Kd.qcN (Kd.qdT (Kd.qei (ok' := (fun k_ => (E4 k_ ∨ w.heap.size ≤ k_))) (T7.o) (fun k_ hk => hk))).2.1 (Kd.V_F (Kd.qei (ok' := (fun k_ => (E4 k_ ∨ w.heap.size ≤ k_))) (T7.o) (fun k_ hk => hk))))) (Reps.none _ _))); intro v523 w5 KB hb j3 K0; clear j3 K0; (first | rw [← OY.o] at KB | (simp only [Int.reduceToNat] at KB; rw [← OY.o] at KB)); replace T7 := z_ (Kd.qej (zai T7.o) (Kd.qgg KB) hb); have uh := z_ (Kd.qij KB (qaz zar)); replace HB := z_ (qaa zar hb); clear hb KB))
   go_ret
   exact ⟨_, zaM, by (with_reducible repeat (first | apply Kd.qik | apply Kd.qil | apply Kd.qkf)); exact uh.o, zar⟩
  ·rw [if_neg c4] at H;have G4 : decide ((l0.length : Int) ≤ a1) = false := decide_eq_false c4;clear c4;obtain ⟨F7, AQ⟩ : ∃ j_ : Int, (wrap64 (Int.tdiv (wrap64 ((l0.length : Int) + 1)) 2)) = j_ := ⟨_, rfl⟩
   replace H : (if 0 ≤ (F7) then (if (F7) ≤ (l0.length : Int) then (some (([(l0.take ((F7) : Int).toNat), (l0.drop ((F7) : Int).toNat)] : List (List Int)))) else (none)) else (none)) = some r := zaU;have ei : (IntKind.i64.wrap (Int.tdiv (wrap64 ((l0.length : Int) + 1)) 2)) = F7 := (qef _).trans AQ
   by_cases c8 : 0 ≤ (F7)
   ·rw [if_pos c8] at H;have FD := eq_true c8;have FQ : decide (0 ≤ (F7)) = true := decide_eq_true c8;clear c8
    by_cases c9 : (F7) ≤ (l0.length : Int)
    ·rw [if_pos c9] at H;have OJ := eq_true c9;have TY : decide ((F7) ≤ (l0.length : Int)) = true := decide_eq_true c9;clear c9;obtain ⟨VF, SJ⟩ : ∃ y_ : List Int, y_ = (l0.take ((F7) : Int).toNat) := ⟨_, rfl⟩
     replace H : (some (([VF, (l0.drop ((F7) : Int).toNat)] : List (List Int)))) = some r := by first | (rw [SJ]; with_reducible exact H) | (have J1 := (Option.bind_some _ _).symm.trans H; rw [SJ]; with_reducible exact J1) | (have J1 := (Option.bind_some _ _).symm.trans H; with_reducible exact J1) | with_reducible exact H | (rw [SJ]; exact H) | exact H
     have WX := z_ SJ;clear SJ;have kK := eq_true (zod_ : 0 ≤ (F7));have qC := eq_true (zod_ : (F7) ≤ (l0.length : Int));obtain ⟨iE, LK⟩ : ∃ y_ : List Int, y_ = (l0.drop ((F7) : Int).toNat) := ⟨_, rfl⟩
     replace H : (some (([VF, iE] : List (List Int)))) = some r := by first | (rw [LK]; with_reducible exact H) | (have J1 := (Option.bind_some _ _).symm.trans H; rw [LK]; with_reducible exact J1) | (have J1 := (Option.bind_some _ _).symm.trans H; with_reducible exact J1) | with_reducible exact H | (rw [LK]; exact H) | exact H
     have AY := z_ LK;clear LK;obtain ⟨Wn, vK⟩ : ∃ y_ : List (List Int), y_ = (([VF, iE] : List (List Int))) := ⟨_, rfl⟩
     replace H : (some Wn) = some r := by first | (rw [vK]; with_reducible exact H) | (have J1 := (Option.bind_some _ _).symm.trans H; rw [vK]; with_reducible exact J1) | (have J1 := (Option.bind_some _ _).symm.trans H; with_reducible exact J1) | with_reducible exact H | (rw [vK]; exact H) | exact H
     have uY := z_ vK;clear vK;obtain rfl := Option.some.inj H
     go_enter Tryz.func113, Tryz.ntmps113
     try go_wp2
     have O1 := z_ (Kd.qlo T7.o);have C4 := z_ (qa1 HB.o);clear T7 HB;have T7 := O1;have HB := C4;clear O1 C4;have QZ : ((F7) : Int) ≤ ((l0.length : Int) : Int) := zod_;obtain ⟨Sl, FJ, _, VR, _⟩ := info_parts info3;have OC : l0.length ≤ c0 := (Kd.qdT T7.o).2.1;have wT : Kd.F (Kd.int .i64) _ _ A0 l0.length l0 := (Kd.V_at (base := w.heap.size) T7.o).2.2;have qM := qk1 (P := Tryz.prog) 25 3 .i64 Tryz.underlying25 FJ A0 l0.length c0 (F7) (zod_) QZ OC;have wL := Kd.qi6 (m := ((F7) : Int).toNat) wT zdM;have VM : VF.length = ((F7) : Int).toNat := (by rw [WX.o, List.length_take]; omega);rw [← WX.o] at wL;rw [← VM] at qM;have pH := z_ (show Kd.V (Kd.int .i64) 3 _ w.heap.size _ (.slice A0 VF.length c0) VF from Kd.V_mk zdM wL);have HC529 := z_ (show VF.length ≤ c0 from zdM);clear wL wT OC FJ VR;have un := z_ VM;clear VM;replace QZ := eq_true QZ;have Va : ((F7) : Int) ≤ ((l0.length : Int) : Int) := zod_;obtain ⟨Zo, pK, _, QJ, _⟩ := info_parts info3;have dB : l0.length ≤ c0 := (Kd.qdT T7.o).2.1;have gS : Kd.F (Kd.int .i64) _ _ A0 l0.length l0 := (Kd.V_at (base := w.heap.size) T7.o).2.2;have Bc : (0 : Int) ≤ ((F7) : Int) := zod_;have dM := qia (P := Tryz.prog) 25 3 .i64 Tryz.underlying25 pK 1 QJ A0 l0.length c0 (F7) Bc Va;have CG := Kd.qlp (m := ((F7) : Int).toNat) (c := c0) gS zdM dB;obtain ⟨DR, GI⟩ : ∃ A1, A1 = (if c0 = ((F7) : Int).toNat then A0 else (A0 : Option Addr).map (·.add (((F7) : Int).toNat * 1))) := ⟨_, rfl⟩
     obtain ⟨c14, IQ⟩ : ∃ c1, c1 = c0 - ((F7) : Int).toNat := ⟨_, rfl⟩
     have nK : iE.length = l0.length - ((F7) : Int).toNat := (by rw [AY.o, List.length_drop] <;> omega);rw [show (l0).drop ((F7) : Int).toNat = iE from AY.o.symm] at CG;replace CG : Kd.F (Kd.int .i64) _ _ DR iE.length iE := (by rw [GI]; exact CG);rw [← nK, ← GI, ← IQ] at dM;have EH := z_ (show Kd.V (Kd.int .i64) 3 _ w.heap.size _ (.slice DR iE.length c14) iE from Kd.V_mk zbo CG);have HC534 := z_ (show iE.length ≤ c14 from zbo);clear CG gS dB pK QJ IQ;have Ll := z_ nK;have lX := z_ GI;clear nK GI;replace Va := eq_true Va;refine qdv (n := 8) (S := fun w' => True) (ds := []) zArrF8 zdG rfl rfl trivial (fun hHeld => ?_); refine qbU qbw.tab6 qbw.bits6 (fun E2 r8 => ?_);generalize w.drew = JB at T7 HB pH EH hHeld ⊢;refine qce (i := 0) (N := some 21) (v := _) (a' := _) #[true, false, false, false, false, false, false, false] rfl rfl (qbI E2.o zdG) (fun _ _ _ h => h) (Or.inl ⟨zdO, zct⟩) zaF ?_;refine qce (i := 1) (N := some 22) (v := _) (a' := _) #[true, true, false, false, false, false, false, false] rfl rfl (qbI E2.o zdG) (fun _ _ _ h => h) (Or.inl ⟨zdO, zct⟩) zaF ?_;refine qce (i := 2) (N := some 23) (v := _) (a' := _) #[true, true, true, false, false, false, false, false] rfl rfl (qbI E2.o zdG) (fun _ _ _ h => h) (Or.inl ⟨zdO, zct⟩) zaF ?_;refine qce (i := 3) (N := some 24) (v := _) (a' := _) #[true, true, true, true, false, false, false, false] rfl rfl (qbI E2.o zdG) (fun _ _ _ h => h) (Or.inl ⟨zdO, zct⟩) zaF ?_;refine qce (i := 4) (N := some 25) (v := _) (a' := _) #[true, true, true, true, true, false, false, false] rfl rfl (qbI E2.o zdG) (fun _ _ _ h => h) (Or.inl ⟨zdO, zct⟩) zaF ?_;refine qce (i := 5) (N := some 26) (v := _) (a' := _) #[true, true, true, true, true, true, false, false] rfl rfl (qbI E2.o zdG) (fun _ _ _ h => h) (Or.inl ⟨zdO, zct⟩) zaF ?_;refine one_ (i := 6) (N := some 27) #[true, true, true, true, true, true, true, false] rfl rfl (qdO E2.o zdG) zdK (fun K hK => ?_);refine Kd.qf3 (Kd.slice 3 (Kd.int .i64)) _ 25 ?hg (N' := 27) ?hd (xs := ([VF, iE] : List (List Int))) (inner := [.slice A0 VF.length c0, .slice DR iE.length c14]) (ok := (fun k_ => (E4 k_ ∨ w.heap.size ≤ k_))) (okp := (fun k_ => (E4 k_ ∨ w.heap.size ≤ k_))) ?hr ?hp (fun _ hk => hk) ((show ∀ k_, JB.heap.size ≤ k_ → (fun k_ => (E4 k_ ∨ w.heap.size ≤ k_)) k_ from fun k_ hk => (.inr (Nat.le_trans (qaz zar) hk))) _ (Nat.le_refl _)) (Below.refl _ _) (Nat.le_refl _) zdN ?_; (case hd => rfl); (case hg => rfl); (case hr => first | (go_simp; done) | (go_simp; rfl)); (case hp => exact (Reps.one (show Kd.FK (Kd.slice 3 (Kd.int .i64)) _ _ VF [.slice A0 VF.length c0] from (Kd.qcN (Kd.qdT (Kd.qei (ok' := (fun k_ => (E4 k_ ∨ w.heap.size ≤ k_))) (pH.o) (fun k_ hk => hk))).2.1 (Kd.V_F (Kd.qei (ok' := (fun k_ => (E4 k_ ∨ w.heap.size ≤ k_))) (pH.o) (fun k_ hk => hk))))) (Reps.one (show Kd.FK (Kd.slice 3 (Kd.int .i64)) _ _ iE [.slice DR iE.length c14] from (Kd.qcN (Kd.qdT (Kd.qei (ok' := (fun k_ => (E4 k_ ∨ w.heap.size ≤ k_))) (EH.o) (fun k_ hk => hk))).2.1 (Kd.V_F (Kd.qei (ok' := (fun k_ => (E4 k_ ∨ w.heap.size ≤ k_))) (EH.o) (fun k_ hk => hk))))) (Reps.none _ _))))
     intro v536 bC XA hb j3 K0;clear j3 K0
     (first | rw [← uY.o] at XA | (simp only [Int.reduceToNat] at XA; rw [← uY.o] at XA))
     have O1 := z_ (Kd.qej (zai T7.o) (Kd.qgg XA) hb);have C4 := z_ (Kd.qej (zai pH.o) (Kd.qgg XA) hb);have G7 := z_ (Kd.qej (zai EH.o) (Kd.qgg XA) hb);have R7 := z_ (Kd.qij XA (qaz zar));have EA := z_ (qaa zar hb);clear T7 pH EH HB;have T7 := O1;have pH := C4;have EH := G7;have Gg := R7;have HB := EA;clear O1 C4 G7 R7 EA hb XA;refine hK.o _ _ trivial (fun hHeld => ?_);clear hK K;refine qfD (a' := ?_) ?_ ?_;rotate_left
     ·show Act.put _ (some 27) _ = _
      simp only [Act.put, List.setIfInBounds_toArray, List.set_cons_zero, List.set_cons_succ, qef, qeP];rfl
     refine qce (i := 7) (N := some 4) (v := _) (a' := _) zArrT8 rfl rfl (qbI E2.o zdG) (fun _ _ _ h => h) (Or.inl ⟨zdO, zct⟩) zaF ?_;refine qiV (qeQ E2.o zdG) ?_;try go_wp2
     go_ret
     exact ⟨_, zan, by (with_reducible repeat (first | apply Kd.qik | apply Kd.qil | apply Kd.qkf)); exact Gg.o, zar⟩
    ·rw [if_neg c9] at H;exact absurd H zdN
   ·rw [if_neg c8] at H;exact absurd H zdN
def qgu.T9 : Bool × List (List Nat × List Nat) := (true, [([], []), ([0], [0]), ([], []), ([], []), ([2, 3], [2, 3]), ([4], [4]), ([1, 5, 4], [1, 5]), ([0, 1, 2, 3, 4, 5, 6], []), ([7, 6, 6, 0, 1, 2, 3, 4, 5, 6], [6, 7])])
def qgu.B9 : List Nat := [0, 1, 0, 0, 12, 28, 63, 127, 255]
theorem qgu.tab9 : rtab .any (opsOf Tryz.f102 9) = qgu.T9 := zdG
theorem qgu.bits9 : qbW qgu.T9.2 qgu.B9 = true := zdG
theorem neSN : ∀ q, q ∈ 9 :: Kd.string.E → q ≠ 80 := fun q hq => (neC_S q hq).2.1
theorem neIN : ∀ q, q ∈ 3 :: (Kd.int .i64).E → q ≠ 80 := fun q hq => (neC_I q hq).2.1
theorem neIS : ∀ q, q ∈ 3 :: (Kd.int .i64).E → q ≠ 9 := fun q hq => by
  have : q = 3 := zcy;rw [this]; decide
structure InAt (w0 w : World) (N gb : Nat) (vb : Value) (A4 : Option Addr) (n4 c4 : Nat) (ks : List Int) (vl : Value) (ls : List ByteArray) : Prop where
  below : Below N w0 w
  ge : N ≤ gb
  size : N ≤ w.heap.size
  blk : w.heap[gb]? = some (.cells #[.bool false, .slice none 0 0, vb, .slice A4 n4 c4] 80 (0, 0))
  least : Kd.R Kd.string 9 w N (fun _ => True) vl ls
  kids : Kd.R (Kd.int .i64) 3 w N (fun _ => True) (.slice A4 n4 c4) ks
section
variable {w0 w w1 : World} {N gb : Nat} {vb vl v1 : Value} {A4 : Option Addr} {n4 c4 : Nat} {ks : List Int} {ls ls1 : List ByteArray}
theorem InAt.qbQ (h : InAt w0 w N gb vb A4 n4 c4 ks vl ls) (hb : Below w.heap.size w w1) : InAt w0 w1 N gb vb A4 n4 c4 ks vl ls := ⟨qhN h.below h.size hb, h.ge, Nat.le_trans h.size hb.size, qab h.blk hb, Kd.qa7 h.least hb, Kd.qa7 h.kids hb⟩
theorem InAt.grown (h : InAt w0 w N gb vb A4 n4 c4 ks vl ls) (hg : w.grownBy w1 vl.ownBlock) (ho : Kd.R Kd.string 9 w1 N (fun _ => True) v1 ls1) : InAt w0 w1 N gb vb A4 n4 c4 ks v1 ls1 :=
  ⟨Below.grown h.below hg h.size (fun k hk => Kd.qdt h.least k hk), h.ge, Nat.le_trans h.size hg.size, qbe h.blk hg (Kd.R_ne h.least h.blk zdK), ho, Kd.qep h.kids (Kd.qcZ h.least) neIS hg⟩
theorem InAt.store (h : InAt w0 w N gb vb A4 n4 c4 ks vl ls) : InAt w0 (w.setCell ⟨gb, 2, none⟩ vl) N gb vl A4 n4 c4 ks vl ls :=
  ⟨h.below.setCell (p := ⟨gb, 2, none⟩) h.ge _, h.ge, by simpa using h.size, qaX h.blk 2 _ rfl, Kd.qgF h.least h.blk neSN 2 _, Kd.qgF h.kids h.blk neIN 2 _⟩
end
def KidOK (b : List S80 × List Bool × Bool) (p : ByteArray × Nat) : Prop := qa5 b.2.1 p.2 ∧ ∃ x, b.1[p.2]? = some x ∧ qeK x = p.1 ∧ (x.f0 = true → 0 < x.f1.length)
theorem KidOK.bg {b c : List S80 × List Bool × Bool} {p : ByteArray × Nat} (h : KidOK b p) (hb : BG b c) : KidOK c p := by
  obtain ⟨hu, x, hx, h2⟩ := h;have := hb.stay p.2 hu;exact ⟨this.1, x, this.2.trans hx, h2⟩
theorem qkI {α β : Type} (f : α → β) (n : Nat) (l : List α) : qbJ n (l.map f) = (qbJ n l).map (List.map f) := by
  unfold qbJ;rw [List.length_map]
  split
  · simp [List.map_take, List.map_drop]
  · split <;> simp
theorem qkJ {α : Type} {n : Nat} {l c : List α} (h : c ∈ qbJ n l) : ∀ x, x ∈ c → x ∈ l := by
  intro x hx;unfold qbJ at h
  split at h
  · simp only [List.mem_cons, List.not_mem_nil, or_false] at h
    rcases h with rfl | rfl
    · exact List.mem_of_mem_take hx
    · exact List.mem_of_mem_drop hx
  · split at h
    · cases h
    · simp only [List.mem_cons, List.not_mem_nil, or_false] at h;subst h;exact hx
theorem halfI_is (L : List Int) (n : Nat) (h : L.length ≤ 1000000) : qbw.f L (n : Int) = some (qbJ n L) := by
  unfold qbw.f qbJ;have e : wrap64 (Int.tdiv (wrap64 ((L.length : Int) + 1)) 2) = (((L.length + 1) / 2 : Nat) : Int) := by
    have e1 : wrap64 ((L.length : Int) + 1) = (L.length : Int) + 1 := zdn;have e2 : Int.tdiv ((L.length : Int) + 1) 2 = ((L.length : Int) + 1) / 2 := Int.tdiv_eq_ediv_of_nonneg zdM;rw [e1, e2];unfold wrap64;omega
  by_cases h0 : L.length = 0
  · rw [if_pos zdM, if_neg zdM, if_pos h0]
  rw [if_neg zdM]
  by_cases h1 : L.length ≤ n
  · rw [if_pos zdM, if_neg zdM, if_neg h0]
  · rw [if_neg zdM, if_pos zdM, e, if_pos zdM, if_pos zdM, Int.toNat_natCast]
theorem cinner (X : Option Nat) (w0 w : World) (g gn cn gu cu : Nat) (b : List S80 × List Bool × Bool) (hB : Below w0.heap.size w0 w) (hX : ∀ k, X = some k → k < w.heap.size) (hb : CsAt (fun k => some k ≠ X) w0 w g gn cn gu cu b) (hl : b.1.length = 50 ∧ b.2.1.length = 50) (P : Nat → Prop) (hP : ∀ k, P k → ¬ S3 g gn gu k) (A : Option Addr) (c : Nat) (L : List (ByteArray × Nat)) (hF : Kd.F (Kd.int .i64) w P A (qbs L).length (qbs L)) (hc : (qbs L).length ≤ c) (hL : L.length ≤ 1000) (hK : ∀ p, p ∈ L → KidOK b p) :
    Calls Tryz.prog 102 #[.pointer (some ⟨g, 0, none⟩), .slice A (qbs L).length c] w fun e w' => ∃ v, e = .returned v ∧ Kd.R (Kd.int .i64) 3 w' w.heap.size (fun _ => True) v (qbs (qbP L b).1) ∧ CsAt (Off X v) w0 w' g gn cn gu cu (qbP L b).2 ∧ Below w0.heap.size w0 w' ∧ Kept w w' (S3 g gn gu) := by
  have hu := Tryz.underlying122;have hu2 := Tryz.underlying80;have hu3 := Tryz.underlying25;have sf := Tryz.underlying68;have HB := z_ (Below.refl w.heap.size w);have HF := z_ (Kd.qfq hF);have HC := z_ hc;have HCS := z_ hb;have HBW := z_ hB;have HPP := z_ hP;have HXX := z_ hX;have HLL := z_ hl;have HLN := z_ hL;have HPL := z_ (show (qbs L).length = L.length from List.length_map _);have HKK := z_ hK;obtain ⟨ML, hML⟩ : ∃ ML, ML = qbs L := ⟨_, rfl⟩
  rw [← hML] at HF HC HPL ⊢;have HML := z_ hML;clear hF hc hb hB hP hl hL hK hML
  go_enter Tryz.func102, Tryz.ntmps102
  go_wp2_with ((with_reducible refine qaw (N := 11) rfl ?_); refine Kd.qdr (Kd.int .i64) w.heap.size 3 zdO (N := 11) zdO (xs := ([] : List Int)) (inner := []) (ok := fun _ => True) (okp := fun _ => True) zcm ?hp (fun _ hk => hk) trivial HB.o HB.o.size zdN ?_; (case hp => exact (Reps.none _ _)); intro v1 w1 ho1 hb1 j3 K0; have o8 := z_ (Below.grown (Below.refl _ _) j3 (Nat.le_refl _) (fun k hk => zdH)); clear j3 K0; have R9 := z_ ho1; have HB1 := z_ hb1; clear ho1 hb1)
  have TR := z_ (Kd.qbF HF.o o8.o);have hcall := qbw.calls (fun k => P k ∧ k < w.heap.size) A c ML 4 (qbJ 4 ML) w1 (Kd.V_mk HC.o TR.o) (halfI_is ML 4 (by have := HLN.o; have := HPL.o; omega));refine hcall.mono ?_;rintro e w2 ⟨vp, rfl, hN, hb2⟩;obtain ⟨Ap, cp, rfl⟩ := Kd.qll hN;obtain ⟨cs, hcs⟩ : ∃ cs, cs = qbJ 4 L := ⟨_, rfl⟩
  have HPM := z_ (show qbJ 4 ML = cs.map qbs from by rw [HML.o, hcs]; exact qkI _ _ _);obtain ⟨ps, hps⟩ : ∃ ps, ps = qbJ 4 ML := ⟨_, rfl⟩
  have HPC := z_ (show ps = cs.map qbs from by rw [hps]; exact HPM.o);have HTW := z_ (show ps.length = cs.length ∧ cs.length ≤ 2 from ⟨by rw [HPC.o, List.length_map], by rw [hcs]; exact qh2 _ _⟩);have HTT := z_ (show layAll qbf cs b = qbP L b from by rw [hcs]; rfl);rw [← hps] at hN ⊢;have HCH := z_ hcs;clear hps hcs;obtain ⟨A1, c1, rfl, _, _⟩ := Kd.qa4 R9.o;have HLC := z_ (show LcAt (Kd.slice 3 (Kd.int .i64)) 25 X w0 w w2 g gn cn gu cu (fun k => P k ∧ k < w.heap.size) w1.heap.size w2.heap.size (.slice Ap ps.length cp) ps b (.slice A1 0 c1) [] from
    ⟨qaa (qaa HBW.o o8.o) hb2, ((Kept.refl w _).below o8.o).below hb2, Kd.N_mono (Kd.qlj hN) (fun k hk => by rcases hk.1 with h | h; exact .inl h; exact .inr ⟨h, hk.2⟩),
     (by
      have h2 := (HCS.o.below o8.o).below hb2;refine ⟨h2.ge, h2.blk, Kd.qbZ (Kd.qaO (Kd.qaO (Kd.qcr HCS.o.nodes) o8.o) hb2) (fun k hk => ⟨fun e => ?_, hk.1⟩), h2.free⟩;have := Kd.qdt R9.o k e.symm;have := hk.2.2.1;omega),
     Kd.qa7 (Kd.qaU (Kd.qb5 R9.o) (fun k hk => .inl (by have := hk.2.2.1; omega))) hb2, o8.o.size, ⟨Nat.le_refl _, hb2.size⟩, (by have := HCS.o.lts; omega), fun k hk => ⟨hk.2, HPP.o k hk.1⟩, HBW.o.size, HXX.o⟩)
  obtain ⟨lo, hlo⟩ : ∃ lo, lo = w1.heap.size := ⟨_, rfl⟩
  obtain ⟨hi, hhi⟩ : ∃ hi, hi = w2.heap.size := ⟨_, rfl⟩
  rw [← hlo, ← hhi] at HLC;clear hN hb2 hcall TR hlo hhi R9 HB1 o8 HF
  go_wp2_with fail
  go_loopw [5, 15] (fun v5 v15 wr => ∃ (j : Nat) (b' : List S80 × List Bool × Bool) (Ao : Option Addr) (no co : Nat) (out : List Int), v5 = .slice Ao no co ∧ v15 = .int .i64 (j : Int) ∧ Aside0 (LcAt (Kd.slice 3 (Kd.int .i64)) 25 X w0 w wr g gn cn gu cu (fun k => P k ∧ k < w.heap.size) lo hi (.slice Ap ps.length cp) ps b' (.slice Ao no co) out) ∧ Aside0 (j ≤ cs.length ∧ out.length = j ∧ out ++ qbs (layAll qbf (cs.drop j) b').1 = qbs (qbP L b).1 ∧ (layAll qbf (cs.drop j) b').2 = (qbP L b).2 ∧ b'.1.length = 50 ∧ b'.2.1.length = 50) ∧ Aside0 (∀ p, p ∈ L → KidOK b' p)) (fun _ v15 _ => ps.length - (intOf v15).toNat)
  case atStart => exact ⟨0, b, A1, 0, c1, [], rfl, rfl, HLC, ⟨zdM, rfl, by rw [List.drop_zero, HTT.o]; rfl, by rw [List.drop_zero, HTT.o], HLL.o.1, HLL.o.2⟩, HKK⟩
  case round =>
    clear HLC;obtain ⟨j, b', Ao, no, co, out, rfl, rfl, HLC, HJ, HKJ⟩ := hrel;obtain ⟨wo, hwo⟩ : ∃ wo, wo = wr := ⟨_, rfl⟩
    subst hwo
    by_cases hlt : j < ps.length
    · have k1 : decide ((j : Int) < (ps.length : Int)) = true := decide_eq_true zdM;have kw : IntKind.i64.wrap ((j : Int) + 1) = (j : Int) + 1 := by rw [IntKind.wrap_i64]; have := HTW.o; omega
      have kp : (0 : Int) ≤ (j : Int) := zdM;have kq : (j : Int) < (ps.length : Int) := zdM;have hlc : j < cs.length := by have := HTW.o; omega
      obtain ⟨gp, cp2, e1, _, _⟩ := Kd.qi1 HLC.o.parts zdM;injection e1 with e1 e2 e3
      subst e1 e3;obtain ⟨cc, hcl, hFK, hcc, _⟩ := Kd.qkg HLC.o.parts [] (j : Int) kp kq;obtain ⟨A3, c3, rfl, hle3, VK⟩ := Kd.qd3 hFK;have hx := hcc 0 _ rfl;obtain ⟨pt, hpt⟩ : ∃ pt, pt = cs[j] := ⟨_, rfl⟩
      have HEL := z_ (show ps.getD (j : Int).toNat [] = qbs pt from by rw [Int.toNat_natCast, List.getD_eq_getElem?_getD, HPC.o, List.getElem?_map, List.getElem?_eq_getElem hlc, hpt]; rfl);rw [HEL.o] at hx VK hle3;have HDR := z_ (qhf (f := qbf) hlc b');rw [← hpt] at HDR;have HIN := z_ (show pt ∈ qbJ 4 L from zce);have HPT := z_ (show pt.length ≤ 1000 ∧ (qbs pt).length = pt.length from ⟨qhc zdM (by have := HLN.o; omega) HIN.o, List.length_map _⟩);have HKP := z_ (show ∀ p, p ∈ pt → KidOK b' p from fun p hp => HKJ.o p (qkJ HIN.o p hp));obtain ⟨mt, hmt⟩ : ∃ mt, mt = qbs pt := ⟨_, rfl⟩
      rw [← hmt] at hx VK hle3 HPT;have HMT := z_ hmt;clear hcl hFK hcc hpt HEL HIN hmt;simp only [Int.toNat_natCast, show (Kd.slice 3 (Kd.int .i64)).sz = 1 from rfl, Nat.mul_one, Nat.add_zero] at hx;have zK := z_ VK;have ua := z_ hle3;clear VK hle3
      go_wp2_with fail
      obtain ⟨b1, b2, b3, b4, b5, b6⟩ := HJ.o;have Hb := z_ (show j < ps.length ∧ out.length = j from ⟨hlt, b2⟩);have HJ2 := z_ (show out ++ [((layB (qbf pt).2 b').1 : Int)] ++ qbs (layAll qbf (cs.drop (j + 1)) (layB (qbf pt).2 b').2).1 = qbs (qbP L b).1 from by
        rw [← b3, HDR.o, List.append_assoc]; rfl)
      have ae := z_ (show (layAll qbf (cs.drop (j + 1)) (layB (qbf pt).2 b').2).2 = (qbP L b).2 from by rw [← b4, HDR.o]);have eb := z_ (qit (x := (qbf pt).2) (And.intro b5 b6));have af := z_ (And.intro b5 b6);have HJ6 := z_ (show ∀ p, p ∈ L → KidOK (layB (qbf pt).2 b').2 p from fun p hp => (HKJ.o p hp).bg (qir _ _));clear b1 b2 b3 b4 b5 b6 HJ HDR HKJ;refine (qbj.calls A3 c3 mt mt wo (Kd.qcT zK.o) ua.o (if_pos (by have := HPT.o; omega))).mono ?_;rintro e w3 ⟨v3, rfl, dC, hb3⟩;obtain ⟨A4, c4, rfl, _, _⟩ := Kd.qa4 dC;obtain ⟨N, hN⟩ : ∃ N, N = wo.heap.size := ⟨_, rfl⟩
      obtain ⟨gb, hgb⟩ : ∃ gb, gb = w3.heap.size := ⟨_, rfl⟩
      obtain ⟨W4, XK⟩ : ∃ W4, W4 = w3.alloc (Obj.cells #[.bool false, .slice none 0 0, .slice none 0 0, .slice A4 mt.length c4] 80 (0, 0)) := ⟨_, rfl⟩
      have QG : Below w3.heap.size w3 W4 := zbX;have HIA := z_ (show InAt wo W4 N gb (.slice none 0 0) A4 mt.length c4 mt (.slice none 0 0) [] from
        ⟨by rw [hN]; exact qaa hb3 QG, by rw [hN, hgb]; exact hb3.size, by rw [hN]; exact Nat.le_trans hb3.size QG.size, by rw [XK, hgb]; exact qbz w3 _, Kd.qdW _ _ _ _ _, by rw [hN]; exact Kd.qa7 dC QG⟩)
      go_upto_region 6 with fail
      rw [← XK, ← hgb];have HNQ := z_ hN;clear XK hgb QG dC hb3 hN hx;have HKQ := z_ HLC.o;clear HLC
      go_wp2_with fail
      go_loopw [24] (fun v24 wr => ∃ (i : Nat) (Al : Option Addr) (nl cl : Nat), v24 = .int .i64 (i : Int) ∧ i ≤ pt.length ∧ Aside0 (InAt wo wr N gb (.slice Al nl cl) A4 mt.length c4 mt (.slice Al nl cl) ((pt.take i).map (·.1)))) (fun v24 _ => mt.length - (intOf v24).toNat)
      case atStart => exact ⟨0, none, 0, 0, rfl, Nat.zero_le _, ⟨by rw [List.take_zero]; exact HIA.o⟩⟩
      case round =>
        clear HIA;obtain ⟨i, Al, nl, cl, rfl, hil, HIA⟩ := hrel;have HBI := z_ (show Below wo.heap.size wo wr from by rw [← HNQ.o]; exact HIA.o.below)
        by_cases hit : i < mt.length
        · have j1 : decide ((i : Int) < (mt.length : Int)) = true := decide_eq_true zdM;have jw : IntKind.i64.wrap ((i : Int) + 1) = (i : Int) + 1 := by rw [IntKind.wrap_i64]; have := HPT.o; omega
          have jp : (0 : Int) ≤ (i : Int) := zdM;have jq : (i : Int) < (mt.length : Int) := zdM;have hipt : i < pt.length := by have := HPT.o.2; omega
          obtain ⟨ad, e9, hx⟩ := Kd.qdu (Kd.qcT (Kd.qbF zK.o HBI.o)) (i : Int) jp jq;obtain ⟨pp, hpp⟩ : ∃ pp, pp = pt[i] := ⟨_, rfl⟩
          obtain ⟨kk, kz⟩ := pp;have hrd : rd mt (i : Int) = (kz : Int) := by
            unfold rd;rw [Int.toNat_natCast, HMT.o];unfold qbs;rw [List.getD_eq_getElem?_getD, List.getElem?_map, List.getElem?_eq_getElem hipt, ← hpp];rfl
          rw [hrd, Int.toNat_natCast] at hx
          cases e9
          obtain ⟨_, xn, hxn, hln, hlf⟩ := HKP.o (kk, kz) (hpp ▸ List.getElem_mem _);have HKX := z_ (show b'.1[kz]? = some xn ∧ qeK xn = kk ∧ (xn.f0 = true → 0 < xn.f1.length) from ⟨hxn, hln, hlf⟩);obtain ⟨ls, hls⟩ : ∃ ls, ls = (pt.take i).map (·.1) := ⟨_, rfl⟩
          have HLS := z_ (show ls ++ [kk] = (pt.take (i + 1)).map (·.1) from by rw [hls, List.take_succ_eq_append_getElem hipt, List.map_append, ← hpp]; rfl);have HLE := z_ (show ls.length ≤ 1000 from by rw [hls, List.length_map, List.length_take]; have := HPT.o; omega);rw [← hls] at HIA;clear hls hpp hrd hxn hln hlf
          go_upto_region 9 with fail
          have S0 := z_ (HIA.o.qbQ (qba (Below.refl _ _)));have HIT := z_ hipt;clear HIA hx HBI hil hipt;refine qdv (n := 9) (S := fun w' => True) (ds := []) zArrF9 zdG rfl rfl trivial (fun hHeld => ?_);refine qbU qgu.tab9 qgu.bits9 (fun E2 r8 => ?_);generalize wr.drew = wd at S0 ⊢;refine qer [0, 1, 2, 3, 4, 5, 6, 7, 8] (fun TE b a w' => ∃ (gq : Nat) (Av : Option Addr) (nv : Nat) (cv : Nat) (kA : Value) (nA : Value), a = qbH TE b [(0, 28, .pointer (some ⟨gb, 2, none⟩)), (1, 29, .slice Al nl cl), (2, 30, .pointer (some ⟨g, 0, none⟩)), (3, 31, .int .i64 (kz : Int)), (4, 32, .string kk), (5, 33, kA), (6, 34, nA), (7, 35, .pointer (some ⟨gb, 2, none⟩))] ∧ (b 6 = false → InAt wo w' N gb (.slice Al nl cl) A4 mt.length c4 mt (.slice Al nl cl) ls) ∧ (b 6 = true → b 8 = false → InAt wo w' N gb (.slice Al nl cl) A4 mt.length c4 mt (.slice Av nv cv) (ls ++ [kk])) ∧ (b 8 = true → InAt wo w' N gb (.slice Av nv cv) A4 mt.length c4 mt (.slice Av nv cv) (ls ++ [kk])) ∧ (b 5 = true → b 6 = false → ∃ W, w' = W.alloc (.cells #[.string kk] 9 (0, 0)) ∧ gq = W.heap.size ∧ InAt wo W N gb (.slice Al nl cl) A4 mt.length c4 mt (.slice Al nl cl) ls) ∧ (b 5 = true → (kA : Value) = .slice (some ⟨gq, 0, none⟩) 1 1) ∧ (b 6 = true → (nA : Value) = .slice Av nv cv)) E2.o r8.o zdG zdG ?_ ?_ ?_
          · exact ⟨0, none, 0, 0, .bool false, .bool false, zbB, fun _ => S0.o, fun h_ => absurd h_ zdK, fun h_ => absurd h_ zdK, fun h_ => absurd h_ zdK, fun h_ => absurd h_ zdK, fun h_ => absurd h_ zdK⟩
          · skip;clear S0;refine qcV ?_ ?_
            · rintro b a w' ⟨gq, Av, nv, cv, kA, nA, ha, QT⟩ hb_ hon hoff;refine ⟨_, rfl, fun K hK => ?_⟩;have e8 : a.tmps[8]? = some (.pointer (some ⟨gb, 0, none⟩)) := zcj;replace ha := z_ ha;refine qaT (w1 := w') (v := .pointer (some ⟨gb, 2, none⟩)) zdO rfl zci ?_;refine hK.o _ _ ⟨gq, Av, nv, cv, kA, nA, zbJ, QT⟩
            refine qcV ?_ ?_
            · rintro b a w' ⟨gq, Av, nv, cv, kA, nA, ha, QT⟩ hb_ hon hoff;refine ⟨_, rfl, fun K hK => ?_⟩;have e28 : a.tmps[28]? = some (.pointer (some ⟨gb, 2, none⟩)) := zon_ ha 0 rfl rfl hon;replace ha := z_ ha;have S0 := z_ (QT.1 (hoff 6 zdG));have yF := qac S0.o.blk 2;simp only [List.getElem?_toArray, List.getElem?_cons_zero, List.getElem?_cons_succ] at yF;refine qaT (w1 := w') (v := .slice Al nl cl) zdO rfl zci ?_;refine hK.o _ _ ⟨gq, Av, nv, cv, kA, nA, zbK, QT⟩
            refine qcV ?_ ?_
            · rintro b a w' ⟨gq, Av, nv, cv, kA, nA, ha, QT⟩ hb_ hon hoff;refine ⟨_, rfl, fun K hK => ?_⟩;have e0 : a.tmps[0]? = some (.pointer (some ⟨g, 0, none⟩)) := zcj;replace ha := z_ ha;refine qaT (w1 := w') (v := .pointer (some ⟨g, 0, none⟩)) zdO rfl zci ?_;refine hK.o _ _ ⟨gq, Av, nv, cv, kA, nA, zbL, QT⟩
            refine qcV ?_ ?_
            · rintro b a w' ⟨gq, Av, nv, cv, kA, nA, ha, QT⟩ hb_ hon hoff;refine ⟨_, rfl, fun K hK => ?_⟩;have e10 : a.tmps[10]? = some (.int .i64 (kz : Int)) := zcj;replace ha := z_ ha;refine qaT (w1 := w') (v := .int .i64 (kz : Int)) zdO rfl zci ?_;refine hK.o _ _ ⟨gq, Av, nv, cv, kA, nA, zbM, QT⟩
            refine qcV ?_ ?_
            · rintro b a w' ⟨gq, Av, nv, cv, kA, nA, ha, Q7, NB, YM, cA, L7, Q8⟩ hb_ hon hoff;refine ⟨_, rfl, fun K hK => ?_⟩;have e30 : a.tmps[30]? = some (.pointer (some ⟨g, 0, none⟩)) := zon_ ha 2 rfl rfl hon;have e31 : a.tmps[31]? = some (.int .i64 (kz : Int)) := zon_ ha 3 rfl rfl hon;replace ha := z_ ha;have S0 := z_ (Q7 (hoff 6 zdG));have ea : Below wo.heap.size wo w' := by rw [← HNQ.o]; exact S0.o.below
              refine qfE Tryz.func114 zdG rfl #[.pointer (some ⟨g, 0, none⟩), .int .i64 (kz : Int)] zdO rfl rfl (by first | (simp only [List.map_toArray, List.map_cons, List.map_nil, Act.eval, Array.getD_eq_getD_getElem?, Option.getD_some, e30, e31]; done) | (simp only [List.map_toArray, List.map_cons, List.map_nil, Act.eval, Array.getD_eq_getD_getElem?, Option.getD_some, e30, e31]; rfl)) ?_;refine (cleast (Off X (Value.slice Ao no co)) w0 w' g gn cn gu cu b' (HKQ.o.qbQ ea).cs kz xn HKX.o.1 HKX.o.2.2).mono ?_;rw [HKX.o.2.1];rintro e_ DS ⟨rfl, i3⟩;refine ⟨_, rfl, ?_⟩;refine hK.o _ _ ⟨gq, Av, nv, cv, kA, nA, zbN, fun _ => S0.o.qbQ i3, nf_ (hoff 6 zdG), nf_ (hoff 8 zdG), nf_ (hoff 5 zdG), nf_ (hoff 5 zdG), nf_ (hoff 6 zdG)⟩
            refine qcV ?_ ?_
            · rintro b a w' ⟨gq, Av, nv, cv, kA, nA, ha, Q7, NB, YM, cA, L7, Q8⟩ hb_ hon hoff;refine ⟨_, rfl, fun K hK => ?_⟩;have e32 : a.tmps[32]? = some (.string kk) := zon_ ha 4 rfl rfl hon;replace ha := z_ ha;have S0 := z_ (Q7 (hoff 6 zdG));refine qaT (w1 := w'.alloc (.cells #[.string kk] 9 (0, 0))) (v := .slice (some ⟨w'.heap.size, 0, none⟩) 1 1) zdO rfl zdt ?_;refine hK.o _ _ ⟨w'.heap.size, Av, nv, cv, (.slice (some ⟨w'.heap.size, 0, none⟩) 1 1), nA, zbO, fun _ => S0.o.qbQ (qaA (Below.refl _ _) _), nf_ (hoff 6 zdG), nf_ (hoff 8 zdG), fun _ _ => ⟨w', rfl, rfl, S0.o⟩, fun _ => rfl, nf_ (hoff 6 zdG)⟩
            refine qcV ?_ ?_
            · rintro b a w' ⟨gq, Av, nv, cv, kA, nA, ha, Q7, NB, YM, cA, L7, Q8⟩ hb_ hon hoff;refine ⟨_, rfl, fun K hK => ?_⟩;have e29 : a.tmps[29]? = some (.slice Al nl cl) := zon_ ha 1 rfl rfl hon;have e33 : a.tmps[33]? = some (kA) := zon_ ha 5 rfl rfl hon;rw [L7 (hon 5 zdG)] at e33;replace ha := z_ ha;have S0 := z_ (Q7 hb_);have BX := z_ (cA (hon 5 zdG) hb_);obtain ⟨qe, XS, iT, yC⟩ := BX.o;clear BX S0;have Ka := HLE.o;rw [XS];refine Kd.qbV Kd.string (w0 := qe) N zdO (.tmp 29) (.tmp 33) 68 9 (.string ⟨#[]⟩) 16 rfl Tryz.underlying68 info9 rfl zdK zdM (.slice Al nl cl) ls kk [.string kk] (fun _ => True) (fun _ => False) (by simp only [Act.eval, Array.getD_eq_getD_getElem?, e29, Option.getD_some]) (by simp only [Act.eval, Array.getD_eq_getD_getElem?, e33, Option.getD_some, iT]) (by exact rfl) (fun _ hk => hk.elim) (fun _ _ => trivial) yC.least (Below.refl _ _) yC.size zdM ?_;intro Ko DS IZ SY j3 BZ;obtain ⟨Rf, uf, Mm, _, _⟩ := Kd.qa4 IZ;subst Mm;refine hK.o _ _ ⟨gq, Rf, (ls ++ [kk]).length, uf, kA, (.slice Rf (ls ++ [kk]).length uf), zbP, fun qB => absurd ((qbG b 6).symm.trans qB) zdK, fun _ _ => yC.grown j3 IZ, nf_ (hoff 8 zdG), fun _ o6 => absurd ((qbG b 6).symm.trans o6) zdK, L7, fun _ => rfl⟩
            refine qcV ?_ ?_
            · rintro b a w' ⟨gq, Av, nv, cv, kA, nA, ha, Q7, NB, YM, cA, L7, Q8⟩ hb_ hon hoff;refine ⟨_, rfl, fun K hK => ?_⟩;have e8 : a.tmps[8]? = some (.pointer (some ⟨gb, 0, none⟩)) := zcj;replace ha := z_ ha;refine qaT (w1 := w') (v := .pointer (some ⟨gb, 2, none⟩)) zdO rfl zci ?_;refine hK.o _ _ ⟨gq, Av, nv, cv, kA, nA, zbQ, nt_ (hon 6 zdG), NB, nf_ (hoff 8 zdG), fun _ o6 => absurd ((hon 6 zdG).symm.trans o6) zdK, L7, Q8⟩
            refine qcV ?_ ?_
            · rintro b a w' ⟨gq, Av, nv, cv, kA, nA, ha, Q7, NB, YM, cA, L7, Q8⟩ hb_ hon hoff;refine ⟨_, rfl, fun K hK => ?_⟩;have e35 : a.tmps[35]? = some (.pointer (some ⟨gb, 2, none⟩)) := zon_ ha 7 rfl rfl hon;have e34 : a.tmps[34]? = some (nA) := zon_ ha 6 rfl rfl hon;rw [Q8 (hon 6 zdG)] at e34;replace ha := z_ ha;have S2 := z_ (NB (hon 6 zdG) hb_);have fh_ := qau S2.o.blk 2;have yF := qac S2.o.blk 2;simp only [List.getElem?_toArray, List.getElem?_cons_zero, List.getElem?_cons_succ] at yF;skip;refine qgN (w1 := w'.setCell ⟨gb, 2, none⟩ (.slice Av nv cv)) zdO rfl zdt ?_;refine hK.o _ _ ⟨gq, Av, nv, cv, kA, nA, zbR, nt_ (hon 6 zdG), fun _ o6 => absurd ((qbG b 8).symm.trans o6) zdK, fun _ => S2.o.store, fun _ o6 => absurd ((hon 6 zdG).symm.trans o6) zdK, L7, Q8⟩
            exact qcC
          rintro b a wE hall ⟨gq, Av, nv, cv, kA, nA, ha, Q7, NB, YM, cA, L7, Q8⟩;clear S0;have Z4 := hall 0 zdG;have i3 := hall 1 zdG;have J4 := hall 2 zdG;have o4 := hall 3 zdG;have D4 := hall 4 zdG;have Q5 := hall 5 zdG;have H4 := hall 6 zdG;have q7 := hall 7 zdG;have y7 := hall 8 zdG;subst ha;obtain rfl := L7 Q5;obtain rfl := Q8 H4;simp only [qbH, Z4, i3, J4, o4, D4, Q5, H4, q7, y7, if_true, Act.put, List.setIfInBounds_toArray, List.set_cons_zero, List.set_cons_succ];clear Q7 NB;have S3 := z_ (YM y7);clear YM cA hall Z4 i3 J4 o4 D4 Q5 H4 q7 y7
          go_wp2_with fail
          go_roundw
          case rel => exact ⟨i + 1, Av, nv, cv, zdL, by have := HIT.o; omega, ⟨by rw [← HLS.o]; exact S3.o⟩⟩
          case measure => simp [intOf]; omega
        · have j1 : decide ((i : Int) < (mt.length : Int)) = false := decide_eq_false zdM;have hie : i = pt.length := by have := HPT.o.2; omega
          have WG := z_ (HKQ.o.qbQ HBI.o);obtain ⟨d0, d1, d2, d3⟩ := qbB HIA.o.blk;have wU := z_ (show Kd.S k80 80 wr w0.heap.size (fun k => k < N ∧ Off X (Value.slice Ao no co) k) (.slice (some ⟨gn, 0, none⟩) b'.1.length cn) b'.1 from Kd.qaO (Kd.qbZ (Kd.qcr HKQ.o.cs.nodes) (fun k hk => (⟨by rw [HNQ.o]; exact hk.2.2.1, hk.1⟩ : k < N ∧ Off X (Value.slice Ao no co) k))) HBI.o);have hq : ∀ k, N ≤ k → Off X (Value.slice Ao no co) k := fun k hk => ⟨fun e => by
            have h1 := Kd.R_lt HKQ.o.told k e.symm;have := HNQ.o;omega, fun e => by
            have h1 := HKQ.o.xlt k e.symm;have := HKQ.o.kept.1;have := HNQ.o;omega⟩
          have HR2 := z_ (show Kd.R Kd.string 9 wr N (Off X (Value.slice Ao no co)) (.slice Al nl cl) (qbf pt).2.f2 from by
            have e := Kd.qaU (Kd.qb5 HIA.o.least) (fun k hk => hq k hk.2.1);rw [hie, List.take_length] at e;exact e)
          have HR3 := z_ (show Kd.R (Kd.int .i64) 3 wr N (Off X (Value.slice Ao no co)) (.slice A4 mt.length c4) (qbf pt).2.f3 from by
            have e := Kd.qaU (Kd.qb5 HIA.o.kids) (fun k hk => hq k hk.2.1);rw [show (qbf pt).2.f3 = mt from HMT.o.symm];exact e)
          have HNN := z_ (show w0.heap.size ≤ N ∧ g < N ∧ gu < N from by
            have := HKQ.o.le;have := HKQ.o.kept.1;have := HKQ.o.blocks;have := HNQ.o;omega)
          clear HKQ HBI hq hie HIA hil zK ua
          go_wp2_with fail
          refine (clay (Off X (Value.slice Ao no co)) w0 wr g gn cn gu cu N b' WG.o.below WG.o.cs wU.o HNN.o.1 HNN.o.2 af.o (qbf pt).2 (.slice none 0 0) (.slice Al nl cl) (.slice A4 mt.length c4) (Kd.qdW _ _ _ _ _) HR2.o HR3.o).mono ?_;rintro e w5 ⟨rfl, hc4, hb4, hk4⟩;have AK := z_ (WG.o.laid hc4 hb4 hk4);obtain ⟨pz, hpz⟩ : ∃ pz, pz = (layB (qbf pt).2 b').1 := ⟨_, rfl⟩
          obtain ⟨bz, hbz⟩ : ∃ bz, bz = (layB (qbf pt).2 b').2 := ⟨_, rfl⟩
          rw [← hpz] at HJ2 ⊢;rw [← hbz] at HJ2 ae eb HJ6 AK;clear hc4 hb4 hk4 WG wU HR2 HR3 hpz hbz d0 d1 d2 d3
          go_wp2_with ((with_reducible refine qbS (b := .append) (xs := #[.tmp 37, .tmp 41]) rfl ?_); at_builtin; refine Kd.qh8 (Kd.int .i64) (w0 := w5) w.heap.size rfl (.tmp 37) (.tmp 41) 25 3 (.int .i64 0) 8 rfl Tryz.underlying25 info3 rfl zdK zdM (.slice Ao no co) out (pz : Int) [.int .i64 (pz : Int)] (fun k => k < lo ∨ hi ≤ k) (fun _ => False) rfl rfl ?aP (fun _ hk => hk.elim) ?aF AK.o.told (Below.refl _ _) AK.o.kept.1 ?aL ?_; (case aP => exact rfl); (case aF => exact fun k hk => .inr (Nat.le_trans AK.o.high.1 hk)); (case aL => have := Hb.o; have := HTW.o; omega); intro v6 w6 ho hb5 hg5 LS; have lh := z_ (AK.o.grown hg5 LS ho); clear ho hb5 hg5 LS)
          obtain ⟨A5, c5, rfl, _, _⟩ := Kd.qa4 lh.o.told
          go_roundw
          case rel => exact ⟨j + 1, bz, A5, _, c5, _, rfl, zdL, lh, ⟨by have := Hb.o; have := HTW.o; omega, by rw [List.length_append, Hb.o.2]; rfl, HJ2.o, ae.o, eb.o.1, eb.o.2⟩, HJ6⟩
          case measure => simp [intOf]; omega
    · have k1 : decide ((j : Int) < (ps.length : Int)) = false := decide_eq_false zdM;obtain ⟨b1, b2, b3, b4, b5, b6⟩ := HJ.o;have hjl : j = cs.length := by have := HTW.o; omega
      have HE := z_ (show out = qbs (qbP L b).1 ∧ b' = (qbP L b).2 from by
        rw [hjl, List.drop_length] at b3 b4;exact ⟨by rw [← b3]; simp [layAll, qbs], b4⟩)
      clear b1 b2 b3 b4 b5 b6 hjl
      go_wp2_with fail
      go_ret
      refine ⟨_, rfl, ?_, ?_, HLC.o.below, HLC.o.kept⟩
      · rw [← HE.o.1]; exact Kd.qaU HLC.o.told (fun _ _ => trivial)
      · rw [← HE.o.2]; exact HLC.o.cs
theorem qlS (w0 w : World) (g gn cn gu cu : Nat) (bq : List S80 × List Bool × Bool) (hB : Below w0.heap.size w0 w) (hb : BsAt w0 w g gn cn gu cu bq) (hl : bq.1.length = 50 ∧ bq.2.1.length = 50) (P : Nat → Prop) (hP : ∀ k, P k → ¬ S3 g gn gu k) (A : Option Addr) (c : Nat) (L : List (ByteArray × Nat)) (hf : Kd.F k91 w P A (partL L).length (partL L)) (hc : (partL L).length ≤ c) (hL : L.length ≤ 1000) :
  Calls Tryz.prog 44 #[.pointer (some ⟨g, 0, none⟩), .slice A (partL L).length c] w fun e w' => ∃ v, e = .returned v ∧ Kd.R k91 91 w' w.heap.size (fun _ => True) v (partL (qbP L bq).1) ∧ BsAt w0 w' g gn cn gu cu (qbP L bq).2 ∧ Below w0.heap.size w0 w' ∧ Kept w w' (S3 g gn gu) := by
 have hu := Tryz.underlying61;have hu2 := Tryz.underlying91;have hme : (partL L).length = L.length := List.length_map _;have HME := z_ hme;have hm9 : (partL L).length ≤ 9223372036854775807 := zdM;have HB := z_ (Below.refl w.heap.size w);have HPP := z_ hP;have HSS := z_ (show ∀ k, S3 g gn gu k → k < w.heap.size from fun k hk => by have := hb.lts; rcases hk with rfl | rfl | rfl <;> omega);have HW0 := z_ hB.size;have HST := z_ (show ∀ w1 v1, Kd.R k91 91 w1 w.heap.size (fun _ => True) v1 [] → Below w.heap.size w w1 → LvAt k91 w0 w w1 g gn cn gu cu P A (partL L) bq v1 [] from fun w1 v1 ho hy => ⟨qaa hB hy, Kept.of_below hy _, Kd.qbF (Kd.qfq hf) hy, hb.below hy, ho⟩);have HLN := z_ hl;have HC := z_ hc;have HF := z_ hf;clear hB hb hP hl hc hf
 by_cases hm : 4 < L.length
 ·obtain ⟨k, hk⟩ : ∃ k, k = (L.length + 1) / 2 := ⟨_, rfl⟩
  have c1 : decide (4 < ((partL L).length : Int)) = true := decide_eq_true zdM;have x1 : IntKind.i64.wrap (((partL L).length : Int) + 1) = ((partL L).length : Int) + 1 := zcK;have x2 : (((partL L).length : Int) + 1) / 2 = (k : Int) := zdM;have cC := z_ (show wrap64 (Int.tdiv (((partL L).length : Int) + 1) 2) = (k : Int) from zaV);have HPL := z_ (show qbP L bq = layAll qbf [L.take k, L.drop k] bq from by unfold qbP qbJ; rw [if_pos hm, hk]);obtain ⟨ad, rfl⟩ : ∃ ad, A = some ad := by
   obtain ⟨ad, e, _⟩ := (Kd.qcT HF.o).2.2 zdM;exact ⟨ad, e⟩
  have hkl : 0 < k ∧ k < L.length := zdM;have HTL := z_ (show (partL (L.take k)).length = k from by unfold partL; rw [List.length_map, List.length_take]; omega);have HTK := z_ (show ∀ wx, Kd.F k91 wx (fun k => P k ∧ k < w.heap.size) (some ad) (partL L).length (partL L) → Kd.F k91 wx (fun k => P k ∧ k < w.heap.size) (some ad) (partL (L.take k)).length (partL (L.take k)) from fun wx h => by unfold partL at h ⊢; rw [List.map_take]; exact Kd.qi6 h zcN);have YJ := z_ (show (qde (partL L) 0).f0 = (qbf (L.take k)).1 from qlF zdM);have jN := z_ (show 0 < (partL L).length from zdM);have IS := z_ (show (partL (L.take k)).length ≤ c from by rw [HTL.o]; have := HC.o; omega);have EQ := z_ (show (L.take k).length ≤ 1000 from zcM);have KS := z_ (qg4 EQ.o);have JS := z_ HLN.o;have XH := z_ (show (partL (L.drop k)).length = (partL L).length - k from by unfold partL; rw [List.length_map, List.length_map, List.length_drop]);have GF := z_ (show (qde (partL (L.drop k)) 0).f0 = (qbf (L.drop k)).1 from qhY);have XQ := z_ (show 0 < (partL (L.drop k)).length from by rw [XH.o]; omega);have jM := z_ (show (partL (L.drop k)).length ≤ c - k from by rw [XH.o]; have := HC.o; omega);have uI := z_ (show (L.drop k).length ≤ 1000 from zcL);have zM := z_ (qg4 uI.o);have CL := z_ (qit (x := (qbf (L.take k)).2) HLN.o);have HDR := z_ (show ∀ wx, Kd.F k91 wx (fun k => P k ∧ k < w.heap.size) (some ad) (partL L).length (partL L) → Kd.F k91 wx (fun k => P k ∧ k < w.heap.size) (some (ad.add (k * 2))) (partL (L.drop k)).length (partL (L.drop k)) from fun wx h => by
   have := Kd.qlp (m := k) (c := c) h zdM HC.o;rw [if_neg zdi] at this;unfold partL at this ⊢; rw [List.map_drop]; exact this)
  have HKL := z_ hkl;clear hk hkl hm hme
  go_enter Tryz.func44, Tryz.ntmps44
  go_upto_region 4 with ((with_reducible refine qaw (N := 7) rfl ?_); refine Kd.qdr k91 w.heap.size 91 zdO (N := 7) zdO (xs := ([] : List S91)) (inner := []) (ok := fun _ => True) (okp := fun _ => True) zcm ?hp (fun _ hk => hk) trivial HB.o HB.o.size zdN ?_; (case hp => exact (Reps.none _ _)); intro v1 w1 ho1 hb1 j3 K0; have o8 := z_ (Below.grown (Below.refl _ _) j3 (Nat.le_refl _) (fun k hk => zdH)); clear j3 K0; have R9 := z_ ho1; have HB1 := z_ hb1; clear ho1 hb1)
  first | rw [x2] | rw [cC.o]
  have S0 := z_ ((HST.o _ _ R9.o o8.o).qbQ (qba (Below.refl _ _)));have FL := z_ S0.o.list;clear R9 HB1 o8 HST;have HKX := z_ (show ∀ wx, Kd.F k91 wx (fun k => P k ∧ k < w.heap.size) (some ad) (partL L).length (partL L) → wx.cell? ad = some (.string (qbf (L.take k)).1) from fun wx h => by
   obtain ⟨Ab, e_, WA, WS⟩ := qhV (Kd.qcT h) 0 zdK (by have := jN.o; omega)
   cases e_
   rw [YJ.o] at WA
   simpa [Addr.add] using WA)
  have kx := HKX.o _ FL.o;have hz : ((partL L) = []) = False := zaE;have AR : (0 < (partL L).length) = True := eq_true zaY;have zS : (0 : Int) < (((partL L).length : Nat) : Int) := zcJ;have hq8 : (k ≤ c) = True := eq_true zdi
  go_region_held3 (fun W => W.cell? ad = some (.string (qbf (L.take k)).1)) (first | exact kx | exact HKX.o _ (Kd.qd8 FB.o _))
   (first | (go_at_call 74; have hcall := qlE _ (some ad) c (L.take k) _ (HTK.o _ FL.o) IS.o EQ.o; rw [HTL.o] at hcall; refine hcall.mono ?_; rintro e w1 ⟨vn, rfl, hv, hw⟩; have SA := z_ (S0.o.qbQ hw); have FA := z_ (Kd.qbF FL.o hw); have NV := z_ (S0.o.node HPP.o HSS.o hv); replace kx := HKX.o _ FA.o; clear hcall hv hw S0 FL; dsimp only) | (go_at_call 71; refine (sputV SA.o.below SA.o.bs JS.o (fun _ h => h) NV.o KS.o).mono ?_; rintro e w2 ⟨rfl, hb1, hw1, hk1⟩; have SB := z_ (SA.o.put HPP.o hb1 hw1 hk1); have FB := z_ (Kd.qd2 FA.o hk1 (fun k hk => HPP.o k hk.1)); replace kx := HKX.o _ FB.o; clear hb1 hw1 hk1 SA FA NV; dsimp only) | (refine Kd.qbV k91 w.heap.size zdO (.tmp 15) (.tmp 27) 85 91 (.agg #[.string ⟨#[]⟩, .int .i64 0]) 24 rfl Tryz.underlying85 qgi rfl zdK zdM v1 ([] : List S91) (⟨(qbf (L.take k)).1, ((layB (qbf (L.take k)).2 bq).1 : Int)⟩ : S91) [.string (qbf (L.take k)).1, .int .i64 ((layB (qbf (L.take k)).2 bq).1 : Int)] (fun _ => True) (fun _ => False) rfl rfl zdh (fun _ hk => hk.elim) (fun _ _ => trivial) SB.o.o (Below.refl _ _) SB.o.kept.1 zaR ?_; intro po Yd ho hn hg hat; have S2 := z_ (SB.o.grown HW0.o hg ho); replace kx := HKX.o _ S2.o.list; clear ho hn hg hat SB FB))
  clear kx HKX hz AR zS hq8;have S0 := z_ ((S2.o.list2 (HDR.o _ S2.o.list)).qbQ (qba (Below.refl Yd.heap.size Yd)));have FL := z_ S0.o.list;clear S2 YJ jN IS EQ KS JS;have z1 : (0 : Int) ≤ (k : Int) := zdM;have z2 : (k : Int) ≤ ((partL L).length : Int) := zco;have z3 : ((partL L).length : Int) ≤ (c : Int) := zdi;have z4 : ¬ c = k := zbl;have z5 : (0 < (partL L).length - k) = True := eq_true zco
  go_upto_region 7 with fail
  have HKX := z_ (show ∀ wx, Kd.F k91 wx (fun k => P k ∧ k < w.heap.size) (some (ad.add (k * 2))) (partL (L.drop k)).length (partL (L.drop k)) → wx.cell? (ad.add (k * 2)) = some (.string (qbf (L.drop k)).1) from fun wx h => by
   obtain ⟨Ab, e_, WA, WS⟩ := qhV (Kd.qcT h) 0 zdK zcV
   cases e_
   rw [GF.o] at WA
   simpa [Addr.add] using WA)
  have kx := HKX.o _ FL.o;have hz : ((partL (L.drop k)) = []) = False := zaD;have AR : (0 < ((partL L).length - k)) = True := eq_true zaX;have zS : (0 : Int) < ((((partL L).length - k) : Nat) : Int) := zcJ
  go_region_held3 (fun W => W.cell? (ad.add (k * 2)) = some (.string (qbf (L.drop k)).1)) (first | exact kx | exact HKX.o _ (Kd.qd8 FB.o _))
   (first | (go_at_call 74; have hcall := qlE _ (some (ad.add (k * 2))) (c - k) (L.drop k) _ FL.o jM.o uI.o; rw [XH.o] at hcall; refine hcall.mono ?_; rintro e w1 ⟨vn, rfl, hv, hw⟩; have SA := z_ (S0.o.qbQ hw); have FA := z_ (Kd.qbF FL.o hw); have NV := z_ (S0.o.node HPP.o HSS.o hv); replace kx := HKX.o _ FA.o; clear hcall hv hw S0 FL; dsimp only) | (go_at_call 71; refine (sputV SA.o.below SA.o.bs CL.o (fun _ h => h) NV.o zM.o).mono ?_; rintro e w2 ⟨rfl, hb1, hw1, hk1⟩; have SB := z_ (SA.o.put HPP.o hb1 hw1 hk1); have FB := z_ (Kd.qd2 FA.o hk1 (fun k hk => HPP.o k hk.1)); replace kx := HKX.o _ FB.o; clear hb1 hw1 hk1 SA FA NV; dsimp only) | (refine Kd.qbV k91 w.heap.size zdO (.tmp 35) (.tmp 45) 85 91 (.agg #[.string ⟨#[]⟩, .int .i64 0]) 24 rfl Tryz.underlying85 qgi rfl zdK zdM po (([] : List S91) ++ [(⟨(qbf (L.take k)).1, ((layB (qbf (L.take k)).2 bq).1 : Int)⟩ : S91)]) (⟨(qbf (L.drop k)).1, ((layB (qbf (L.drop k)).2 (layB (qbf (L.take k)).2 bq).2).1 : Int)⟩ : S91) [.string (qbf (L.drop k)).1, .int .i64 ((layB (qbf (L.drop k)).2 (layB (qbf (L.take k)).2 bq).2).1 : Int)] (fun _ => True) (fun _ => False) rfl rfl zdh (fun _ hk => hk.elim) (fun _ _ => trivial) SB.o.o (Below.refl _ _) SB.o.kept.1 zaR ?_; intro Io zo ho hn hg hat; have S2 := z_ (SB.o.grown HW0.o hg ho); replace kx := HKX.o _ S2.o.list; clear ho hn hg hat SB FB))
  clear kx HKX hz AR zS
  go_wp2_with fail
  go_ret
  rw [HPL.o];exact ⟨_, rfl, S2.o.o, S2.o.bs, S2.o.below, S2.o.kept⟩
 ·have c1 : decide (4 < ((partL L).length : Int)) = false := decide_eq_false zdM
  by_cases h0 : L.length = 0
  ·have HPL := z_ (show qbP L bq = ([], bq) from by unfold qbP qbJ; rw [if_neg hm, if_pos h0]; rfl);have hz : (partL L).length = 0 := zdM;have c2 : decide ((0 : Int) < ((partL L).length : Int)) = false := decide_eq_false zdM;clear hm h0 hme;generalize (partL L).length = n at *;subst hz
   go_enter Tryz.func44, Tryz.ntmps44
   go_wp2_with ((with_reducible refine qaw (N := 7) rfl ?_); refine Kd.qdr k91 w.heap.size 91 zdO (N := 7) zdO (xs := ([] : List S91)) (inner := []) (ok := fun _ => True) (okp := fun _ => True) zcm ?hp (fun _ hk => hk) trivial HB.o HB.o.size zdN ?_; (case hp => exact (Reps.none _ _)); intro v1 w1 ho1 hb1 j3 K0; have o8 := z_ (Below.grown (Below.refl _ _) j3 (Nat.le_refl _) (fun k hk => zdH)); clear j3 K0; have R9 := z_ ho1; have HB1 := z_ hb1; clear ho1 hb1)
   go_ret
   rw [HPL.o];have S2 := HST.o _ _ R9.o o8.o;exact ⟨_, rfl, S2.o, S2.bs, S2.below, S2.kept⟩
  ·have HPL := z_ (show qbP L bq = layAll qbf [L] bq from by unfold qbP qbJ; rw [if_neg hm, if_neg h0]);have c2 : (0 < (partL L).length) = True := eq_true zdM;obtain ⟨ad, rfl⟩ : ∃ ad, A = some ad := by
    obtain ⟨ad, e, _⟩ := (Kd.qcT HF.o).2.2 zdM;exact ⟨ad, e⟩
   have GF := z_ (show (qde (partL L) 0).f0 = (qbf L).1 from qhY);have XQ := z_ (show 0 < (partL L).length from zdM);have jM := z_ (show (partL L).length ≤ c from HC.o);have uI := z_ (show L.length ≤ 1000 from hL);have zM := z_ (qg4 uI.o);have CL := z_ HLN.o;clear hm h0 hme
   go_enter Tryz.func44, Tryz.ntmps44
   go_upto_region 7 with ((with_reducible refine qaw (N := 7) rfl ?_); refine Kd.qdr k91 w.heap.size 91 zdO (N := 7) zdO (xs := ([] : List S91)) (inner := []) (ok := fun _ => True) (okp := fun _ => True) zcm ?hp (fun _ hk => hk) trivial HB.o HB.o.size zdN ?_; (case hp => exact (Reps.none _ _)); intro v1 w1 ho1 hb1 j3 K0; have o8 := z_ (Below.grown (Below.refl _ _) j3 (Nat.le_refl _) (fun k hk => zdH)); clear j3 K0; have R9 := z_ ho1; have HB1 := z_ hb1; clear ho1 hb1)
   have S0 := z_ ((HST.o _ _ R9.o o8.o).qbQ (qba (Below.refl _ _)));have FL := z_ S0.o.list;clear R9 HB1 o8 HST;have HKX := z_ (show ∀ wx, Kd.F k91 wx (fun k => P k ∧ k < w.heap.size) (some ad) (partL L).length (partL L) → wx.cell? ad = some (.string (qbf (L)).1) from fun wx h => by
    obtain ⟨Ab, e_, WA, WS⟩ := qhV (Kd.qcT h) 0 zdK zcV
    cases e_
    rw [GF.o] at WA
    simpa [Addr.add] using WA)
   have kx := HKX.o _ FL.o;have hz : ((partL L) = []) = False := zaD;have AR : (0 < (partL L).length) = True := eq_true zaX;have zS : (0 : Int) < (((partL L).length : Nat) : Int) := zcJ
   go_region_held3 (fun W => W.cell? ad = some (.string (qbf (L)).1)) (first | exact kx | exact HKX.o _ (Kd.qd8 FB.o _))
    (first | (go_at_call 74; have hcall := qlE _ (some ad) c (L) _ FL.o jM.o uI.o; refine hcall.mono ?_; rintro e w1 ⟨vn, rfl, hv, hw⟩; have SA := z_ (S0.o.qbQ hw); have FA := z_ (Kd.qbF FL.o hw); have NV := z_ (S0.o.node HPP.o HSS.o hv); replace kx := HKX.o _ FA.o; clear hcall hv hw S0 FL; dsimp only) | (go_at_call 71; refine (sputV SA.o.below SA.o.bs CL.o (fun _ h => h) NV.o zM.o).mono ?_; rintro e w2 ⟨rfl, hb1, hw1, hk1⟩; have SB := z_ (SA.o.put HPP.o hb1 hw1 hk1); have FB := z_ (Kd.qd2 FA.o hk1 (fun k hk => HPP.o k hk.1)); replace kx := HKX.o _ FB.o; clear hb1 hw1 hk1 SA FA NV; dsimp only) | (refine Kd.qbV k91 w.heap.size zdO (.tmp 35) (.tmp 45) 85 91 (.agg #[.string ⟨#[]⟩, .int .i64 0]) 24 rfl Tryz.underlying85 qgi rfl zdK zdM v1 ([] : List S91) (⟨(qbf (L)).1, ((layB (qbf (L)).2 bq).1 : Int)⟩ : S91) [.string (qbf (L)).1, .int .i64 ((layB (qbf (L)).2 bq).1 : Int)] (fun _ => True) (fun _ => False) rfl rfl zdh (fun _ hk => hk.elim) (fun _ _ => trivial) SB.o.o (Below.refl _ _) SB.o.kept.1 zaR ?_; intro Io zo ho hn hg hat; have S2 := z_ (SB.o.grown HW0.o hg ho); replace kx := HKX.o _ S2.o.list; clear ho hn hg hat SB FB))
   clear kx HKX hz AR zS
   go_wp2_with fail
   go_ret
   rw [HPL.o];exact ⟨_, rfl, S2.o.o, S2.o.bs, S2.o.below, S2.o.kept⟩
end Go.Proofs.YtcdokcpiahbejaaGreat.X
