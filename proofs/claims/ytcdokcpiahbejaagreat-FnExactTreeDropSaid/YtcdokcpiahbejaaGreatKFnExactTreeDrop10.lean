import Derived.Test.YtcdokcpiahbejaaGreatKFnExactTreeDrop9
set_option maxRecDepth 100000
set_option maxHeartbeats 16000000
set_option linter.unusedVariables false
set_option linter.unusedSimpArgs false
namespace Go.Proofs.YtcdokcpiahbejaaGreat.X
open Go.RowKit Go.Proofs.PW Go.Proofs.PL Go.Proofs.PM
attribute [local go_sem] qaj qak qal qaf qag qao qap qad qae qah qai
theorem qj0 (w0 w : World) (g gn cn gu cu : Nat) (bq : List S80 × List Bool × Bool) (hB : Below w0.heap.size w0 w) (hb : BsAt w0 w g gn cn gu cu bq) (hl : bq.1.length = 50 ∧ bq.2.1.length = 50) (P : Nat → Prop) (hP : ∀ k, P k → ¬ S3 g gn gu k) (A : Option Addr) (c : Nat) (L : List S61) (hf : Kd.F k61 w P A L.length L) (hc : L.length ≤ c) (hL : L.length ≤ 1000) :
  Calls Tryz.prog 42 #[.pointer (some ⟨g, 0, none⟩), .slice A L.length c] w fun e w' => ∃ v, e = .returned v ∧ Kd.R k91 91 w' w.heap.size (fun _ => True) v (partL (qbA L bq).1) ∧ BsAt w0 w' g gn cn gu cu (qbA L bq).2 ∧ Below w0.heap.size w0 w' ∧ Kept w w' (S3 g gn gu) := by
 have hu := Tryz.underlying61;have hu2 := Tryz.underlying91;have hme : L.length = L.length := rfl;have HME := z_ hme;have hm9 : L.length ≤ 9223372036854775807 := zdM;have HB := z_ (Below.refl w.heap.size w);have HPP := z_ hP;have HSS := z_ (show ∀ k, S3 g gn gu k → k < w.heap.size from fun k hk => by have := hb.lts; rcases hk with rfl | rfl | rfl <;> omega);have HW0 := z_ hB.size;have HST := z_ (show ∀ w1 v1, Kd.R k91 91 w1 w.heap.size (fun _ => True) v1 [] → Below w.heap.size w w1 → LvAt k61 w0 w w1 g gn cn gu cu P A L bq v1 [] from fun w1 v1 ho hy => ⟨qaa hB hy, Kept.of_below hy _, Kd.qbF (Kd.qfq hf) hy, hb.below hy, ho⟩);have HLN := z_ hl;have HC := z_ hc;have HF := z_ hf;clear hB hb hP hl hc hf
 by_cases hm : 3 < L.length
 ·obtain ⟨k, hk⟩ : ∃ k, k = (L.length + 1) / 2 := ⟨_, rfl⟩
  have c1 : decide (3 < (L.length : Int)) = true := decide_eq_true zdM;have x1 : IntKind.i64.wrap ((L.length : Int) + 1) = (L.length : Int) + 1 := zcK;have x2 : ((L.length : Int) + 1) / 2 = (k : Int) := zdM;have cC := z_ (show wrap64 (Int.tdiv ((L.length : Int) + 1) 2) = (k : Int) from zaV);have HPL := z_ (show qbA L bq = layAll leafF [L.take k, L.drop k] bq from by unfold qbA qbJ; rw [if_pos hm, hk]);obtain ⟨ad, rfl⟩ : ∃ ad, A = some ad := by
   obtain ⟨ad, e, _⟩ := (Kd.qcT HF.o).2.2 zdM;exact ⟨ad, e⟩
  have hkl : 0 < k ∧ k < L.length := zdM;have HTL := z_ (show (L.take k).length = k from zcM);have HTK := z_ (show ∀ wx, Kd.F k61 wx (fun k => P k ∧ k < w.heap.size) (some ad) L.length L → Kd.F k61 wx (fun k => P k ∧ k < w.heap.size) (some ad) (L.take k).length (L.take k) from fun wx h => Kd.qi6 h zdM);have YJ := z_ (show (qan L 0).f0 = (leafF (L.take k)).1 from leaf_key zdM);have jN := z_ (show 0 < L.length from zdM);have IS := z_ (show (L.take k).length ≤ c from by rw [HTL.o]; have := HC.o; omega);have EQ := z_ (show (L.take k).length ≤ 1000 from zcM);have KS := z_ (qis EQ.o);have JS := z_ HLN.o;have XH := z_ (show (L.drop k).length = L.length - k from by rw [List.length_drop]);have GF := z_ (show (qan (L.drop k) 0).f0 = (leafF (L.drop k)).1 from qje);have XQ := z_ (show 0 < (L.drop k).length from by rw [XH.o]; omega);have jM := z_ (show (L.drop k).length ≤ c - k from by rw [XH.o]; have := HC.o; omega);have uI := z_ (show (L.drop k).length ≤ 1000 from zcL);have zM := z_ (qis uI.o);have CL := z_ (qit (x := (leafF (L.take k)).2) HLN.o);have HDR := z_ (show ∀ wx, Kd.F k61 wx (fun k => P k ∧ k < w.heap.size) (some ad) L.length L → Kd.F k61 wx (fun k => P k ∧ k < w.heap.size) (some (ad.add (k * 2))) (L.drop k).length (L.drop k) from fun wx h => by
   have := Kd.qlp (m := k) (c := c) h zdM HC.o;rw [if_neg zdi] at this;exact this)
  have HKL := z_ hkl;clear hk hkl hm hme
  go_enter Tryz.func42, Tryz.ntmps42
  go_upto_region 4 with ((with_reducible refine qaw (N := 7) rfl ?_); refine Kd.qdr k91 w.heap.size 91 zdO (N := 7) zdO (xs := ([] : List S91)) (inner := []) (ok := fun _ => True) (okp := fun _ => True) zcm ?hp (fun _ hk => hk) trivial HB.o HB.o.size zdN ?_; (case hp => exact (Reps.none _ _)); intro v1 w1 ho1 hb1 j3 K0; have o8 := z_ (Below.grown (Below.refl _ _) j3 (Nat.le_refl _) (fun k hk => zdH)); clear j3 K0; have R9 := z_ ho1; have HB1 := z_ hb1; clear ho1 hb1)
  first | rw [x2] | rw [cC.o]
  have S0 := z_ ((HST.o _ _ R9.o o8.o).qbQ (qba (Below.refl _ _)));have FL := z_ S0.o.list;clear R9 HB1 o8 HST;have HKX := z_ (show ∀ wx, Kd.F k61 wx (fun k => P k ∧ k < w.heap.size) (some ad) L.length L → wx.cell? ad = some (.string (leafF (L.take k)).1) from fun wx h => by
   obtain ⟨Ab, e_, WA, WS⟩ := qb1 (Kd.qcT h) 0 zdK (by have := jN.o; omega)
   cases e_
   rw [YJ.o] at WA
   simpa [Addr.add] using WA)
  have kx := HKX.o _ FL.o;have hz : (L = []) = False := zaE;have AR : (0 < L.length) = True := eq_true zaY;have zS : (0 : Int) < ((L.length : Nat) : Int) := zcJ;have hq8 : (k ≤ c) = True := eq_true zdi
  go_region_held3 (fun W => W.cell? ad = some (.string (leafF (L.take k)).1)) (first | exact kx | exact HKX.o _ (Kd.qd8 FB.o _))
   (first | (go_at_call 72; have hcall := sleaf _ _ (some ad) c (L.take k) (HTK.o _ FL.o) IS.o; rw [HTL.o] at hcall; refine hcall.mono ?_; rintro e w1 ⟨vn, rfl, hv, hw⟩; have SA := z_ (S0.o.qbQ hw); have FA := z_ (Kd.qbF FL.o hw); have NV := z_ (S0.o.node HPP.o HSS.o hv); replace kx := HKX.o _ FA.o; clear hcall hv hw S0 FL; dsimp only) | (go_at_call 71; refine (sputV SA.o.below SA.o.bs JS.o (fun _ h => h) NV.o KS.o).mono ?_; rintro e w2 ⟨rfl, hb1, hw1, hk1⟩; have SB := z_ (SA.o.put HPP.o hb1 hw1 hk1); have FB := z_ (Kd.qd2 FA.o hk1 (fun k hk => HPP.o k hk.1)); replace kx := HKX.o _ FB.o; clear hb1 hw1 hk1 SA FA NV; dsimp only) | (refine Kd.qbV k91 w.heap.size zdO (.tmp 15) (.tmp 27) 85 91 (.agg #[.string ⟨#[]⟩, .int .i64 0]) 24 rfl Tryz.underlying85 qgi rfl zdK zdM v1 ([] : List S91) (⟨(leafF (L.take k)).1, ((layB (leafF (L.take k)).2 bq).1 : Int)⟩ : S91) [.string (leafF (L.take k)).1, .int .i64 ((layB (leafF (L.take k)).2 bq).1 : Int)] (fun _ => True) (fun _ => False) rfl rfl zdh (fun _ hk => hk.elim) (fun _ _ => trivial) SB.o.o (Below.refl _ _) SB.o.kept.1 zaR ?_; intro po Yd ho hn hg hat; have S2 := z_ (SB.o.grown HW0.o hg ho); replace kx := HKX.o _ S2.o.list; clear ho hn hg hat SB FB))
  clear kx HKX hz AR zS hq8;have S0 := z_ ((S2.o.list2 (HDR.o _ S2.o.list)).qbQ (qba (Below.refl Yd.heap.size Yd)));have FL := z_ S0.o.list;clear S2 YJ jN IS EQ KS JS;have z1 : (0 : Int) ≤ (k : Int) := zdM;have z2 : (k : Int) ≤ (L.length : Int) := zco;have z3 : (L.length : Int) ≤ (c : Int) := zdi;have z4 : ¬ c = k := zbl;have z5 : (0 < L.length - k) = True := eq_true zco
  go_upto_region 7 with fail
  have HKX := z_ (show ∀ wx, Kd.F k61 wx (fun k => P k ∧ k < w.heap.size) (some (ad.add (k * 2))) (L.drop k).length (L.drop k) → wx.cell? (ad.add (k * 2)) = some (.string (leafF (L.drop k)).1) from fun wx h => by
   obtain ⟨Ab, e_, WA, WS⟩ := qb1 (Kd.qcT h) 0 zdK zcV
   cases e_
   rw [GF.o] at WA
   simpa [Addr.add] using WA)
  have kx := HKX.o _ FL.o;have hz : ((L.drop k) = []) = False := zaD;have AR : (0 < (L.length - k)) = True := eq_true zaX;have zS : (0 : Int) < (((L.length - k) : Nat) : Int) := zcJ
  go_region_held3 (fun W => W.cell? (ad.add (k * 2)) = some (.string (leafF (L.drop k)).1)) (first | exact kx | exact HKX.o _ (Kd.qd8 FB.o _))
   (first | (go_at_call 72; have hcall := sleaf _ _ (some (ad.add (k * 2))) (c - k) (L.drop k) FL.o jM.o; rw [XH.o] at hcall; refine hcall.mono ?_; rintro e w1 ⟨vn, rfl, hv, hw⟩; have SA := z_ (S0.o.qbQ hw); have FA := z_ (Kd.qbF FL.o hw); have NV := z_ (S0.o.node HPP.o HSS.o hv); replace kx := HKX.o _ FA.o; clear hcall hv hw S0 FL; dsimp only) | (go_at_call 71; refine (sputV SA.o.below SA.o.bs CL.o (fun _ h => h) NV.o zM.o).mono ?_; rintro e w2 ⟨rfl, hb1, hw1, hk1⟩; have SB := z_ (SA.o.put HPP.o hb1 hw1 hk1); have FB := z_ (Kd.qd2 FA.o hk1 (fun k hk => HPP.o k hk.1)); replace kx := HKX.o _ FB.o; clear hb1 hw1 hk1 SA FA NV; dsimp only) | (refine Kd.qbV k91 w.heap.size zdO (.tmp 35) (.tmp 45) 85 91 (.agg #[.string ⟨#[]⟩, .int .i64 0]) 24 rfl Tryz.underlying85 qgi rfl zdK zdM po (([] : List S91) ++ [(⟨(leafF (L.take k)).1, ((layB (leafF (L.take k)).2 bq).1 : Int)⟩ : S91)]) (⟨(leafF (L.drop k)).1, ((layB (leafF (L.drop k)).2 (layB (leafF (L.take k)).2 bq).2).1 : Int)⟩ : S91) [.string (leafF (L.drop k)).1, .int .i64 ((layB (leafF (L.drop k)).2 (layB (leafF (L.take k)).2 bq).2).1 : Int)] (fun _ => True) (fun _ => False) rfl rfl zdh (fun _ hk => hk.elim) (fun _ _ => trivial) SB.o.o (Below.refl _ _) SB.o.kept.1 zaR ?_; intro Io zo ho hn hg hat; have S2 := z_ (SB.o.grown HW0.o hg ho); replace kx := HKX.o _ S2.o.list; clear ho hn hg hat SB FB))
  clear kx HKX hz AR zS
  go_wp2_with fail
  go_ret
  rw [HPL.o];exact ⟨_, rfl, S2.o.o, S2.o.bs, S2.o.below, S2.o.kept⟩
 ·have c1 : decide (3 < (L.length : Int)) = false := decide_eq_false zdM
  by_cases h0 : L.length = 0
  ·have HPL := z_ (show qbA L bq = ([], bq) from by unfold qbA qbJ; rw [if_neg hm, if_pos h0]; rfl);have hz : L.length = 0 := zdM;have c2 : decide ((0 : Int) < (L.length : Int)) = false := decide_eq_false zdM;clear hm h0 hme;generalize L.length = n at *;subst hz
   go_enter Tryz.func42, Tryz.ntmps42
   go_wp2_with ((with_reducible refine qaw (N := 7) rfl ?_); refine Kd.qdr k91 w.heap.size 91 zdO (N := 7) zdO (xs := ([] : List S91)) (inner := []) (ok := fun _ => True) (okp := fun _ => True) zcm ?hp (fun _ hk => hk) trivial HB.o HB.o.size zdN ?_; (case hp => exact (Reps.none _ _)); intro v1 w1 ho1 hb1 j3 K0; have o8 := z_ (Below.grown (Below.refl _ _) j3 (Nat.le_refl _) (fun k hk => zdH)); clear j3 K0; have R9 := z_ ho1; have HB1 := z_ hb1; clear ho1 hb1)
   go_ret
   rw [HPL.o];have S2 := HST.o _ _ R9.o o8.o;exact ⟨_, rfl, S2.o, S2.bs, S2.below, S2.kept⟩
  ·have HPL := z_ (show qbA L bq = layAll leafF [L] bq from by unfold qbA qbJ; rw [if_neg hm, if_neg h0]);have c2 : (0 < L.length) = True := eq_true zdM;obtain ⟨ad, rfl⟩ : ∃ ad, A = some ad := by
    obtain ⟨ad, e, _⟩ := (Kd.qcT HF.o).2.2 zdM;exact ⟨ad, e⟩
   have GF := z_ (show (qan L 0).f0 = (leafF L).1 from qje);have XQ := z_ (show 0 < L.length from zdM);have jM := z_ (show L.length ≤ c from HC.o);have uI := z_ (show L.length ≤ 1000 from hL);have zM := z_ (qis uI.o);have CL := z_ HLN.o;clear hm h0 hme
   go_enter Tryz.func42, Tryz.ntmps42
   go_upto_region 7 with ((with_reducible refine qaw (N := 7) rfl ?_); refine Kd.qdr k91 w.heap.size 91 zdO (N := 7) zdO (xs := ([] : List S91)) (inner := []) (ok := fun _ => True) (okp := fun _ => True) zcm ?hp (fun _ hk => hk) trivial HB.o HB.o.size zdN ?_; (case hp => exact (Reps.none _ _)); intro v1 w1 ho1 hb1 j3 K0; have o8 := z_ (Below.grown (Below.refl _ _) j3 (Nat.le_refl _) (fun k hk => zdH)); clear j3 K0; have R9 := z_ ho1; have HB1 := z_ hb1; clear ho1 hb1)
   have S0 := z_ ((HST.o _ _ R9.o o8.o).qbQ (qba (Below.refl _ _)));have FL := z_ S0.o.list;clear R9 HB1 o8 HST;have HKX := z_ (show ∀ wx, Kd.F k61 wx (fun k => P k ∧ k < w.heap.size) (some ad) L.length L → wx.cell? ad = some (.string (leafF (L)).1) from fun wx h => by
    obtain ⟨Ab, e_, WA, WS⟩ := qb1 (Kd.qcT h) 0 zdK zcV
    cases e_
    rw [GF.o] at WA
    simpa [Addr.add] using WA)
   have kx := HKX.o _ FL.o;have hz : (L = []) = False := zaD;have AR : (0 < L.length) = True := eq_true zaX;have zS : (0 : Int) < ((L.length : Nat) : Int) := zcJ
   go_region_held3 (fun W => W.cell? ad = some (.string (leafF (L)).1)) (first | exact kx | exact HKX.o _ (Kd.qd8 FB.o _))
    (first | (go_at_call 72; have hcall := sleaf _ _ (some ad) c (L) FL.o jM.o; refine hcall.mono ?_; rintro e w1 ⟨vn, rfl, hv, hw⟩; have SA := z_ (S0.o.qbQ hw); have FA := z_ (Kd.qbF FL.o hw); have NV := z_ (S0.o.node HPP.o HSS.o hv); replace kx := HKX.o _ FA.o; clear hcall hv hw S0 FL; dsimp only) | (go_at_call 71; refine (sputV SA.o.below SA.o.bs CL.o (fun _ h => h) NV.o zM.o).mono ?_; rintro e w2 ⟨rfl, hb1, hw1, hk1⟩; have SB := z_ (SA.o.put HPP.o hb1 hw1 hk1); have FB := z_ (Kd.qd2 FA.o hk1 (fun k hk => HPP.o k hk.1)); replace kx := HKX.o _ FB.o; clear hb1 hw1 hk1 SA FA NV; dsimp only) | (refine Kd.qbV k91 w.heap.size zdO (.tmp 35) (.tmp 45) 85 91 (.agg #[.string ⟨#[]⟩, .int .i64 0]) 24 rfl Tryz.underlying85 qgi rfl zdK zdM v1 ([] : List S91) (⟨(leafF (L)).1, ((layB (leafF (L)).2 bq).1 : Int)⟩ : S91) [.string (leafF (L)).1, .int .i64 ((layB (leafF (L)).2 bq).1 : Int)] (fun _ => True) (fun _ => False) rfl rfl zdh (fun _ hk => hk.elim) (fun _ _ => trivial) SB.o.o (Below.refl _ _) SB.o.kept.1 zaR ?_; intro Io zo ho hn hg hat; have S2 := z_ (SB.o.grown HW0.o hg ho); replace kx := HKX.o _ S2.o.list; clear ho hn hg hat SB FB))
   clear kx HKX hz AR zS
   go_wp2_with fail
   go_ret
   rw [HPL.o];exact ⟨_, rfl, S2.o.o, S2.o.bs, S2.o.below, S2.o.kept⟩
def dopB (drop : Bool) (key value : ByteArray) (l : List S61) : List S61 := if drop = true then dropF l key else putP l key value
def PutC (drop : Bool) (key value : ByteArray) : Prop := drop = false → ∀ (A : Option Addr) (c : Nat) (l : List S61) (w : World), Kd.C k61 w A l.length l → l.length ≤ c → l.length ≤ 3 → Calls Tryz.prog 20 #[.slice A l.length c, .string key, .string value] w fun e w' => ∃ v, e = .returned v ∧ Kd.R k61 61 w' w.heap.size (fun _ => True) v (putP l key value) ∧ Below w.heap.size w w'
theorem qlT {key value : ByteArray} : PutC true key value := fun h => zdJ
def qeY.T15 : Bool × List (List Nat × List Nat) := (true, [([], []), ([], []), ([1], [1]), ([], []), ([2, 3], [2, 3]), ([4], [4]), ([], []), ([6], [6]), ([], []), ([7, 8], [7, 8]), ([9], [9]), ([5, 10], [5, 10]), ([11], [11]), ([0, 12], [0, 12]), ([13, 13, 0, 1, 2, 3, 4, 5, 6, 7, 8, 9, 10, 11, 12, 13], [0, 13])])
def qeY.B15 : List Nat := [0, 0, 2, 0, 14, 30, 0, 64, 0, 448, 960, 2046, 4094, 8191, 16383]
theorem qeY.tab15 : rtab .any (opsOf Tryz.f43 15) = qeY.T15 := zdG
theorem qeY.bits15 : qbW qeY.T15.2 qeY.B15 = true := zdG
theorem qhh (ls : List ByteArray) (i : Nat) (h : i + 1 < ls.length) : rdOf ByteArray.empty ls ((i : Int) + 1) = ls[i + 1] := by
 unfold rdOf;rw [show ((i : Int) + 1).toNat = i + 1 from zdM];simp [List.getD_eq_getElem?_getD, h]
theorem qfT {ls : List ByteArray} {key : ByteArray} {i : Nat} (h : i < qca ls key) (hl : i + 1 < ls.length) : Op.bytesLess key.toList (rdOf ByteArray.empty ls ((i : Int) + 1)).toList = false := by
 rw [qhh ls i hl];have := List.not_of_lt_findIdx (xs := ls.drop 1) (p := fun m => Op.bytesLess key.toList m.toList) (i := i) (by unfold qca at h; exact h);rw [List.getElem_drop] at this;simp only [show 1 + i = i + 1 from zdM] at this
 simpa using this
theorem schange (key value : ByteArray) (drop : Bool) (hput : PutC drop key value) : ∀ (n : Nat) (w0 w : World) (g gn cn gu cu : Nat) (bq : List S80 × List Bool × Bool) (k : Nat) (ps : List S61) (pg : List Nat), Below w0.heap.size w0 w → BsAt w0 w g gn cn gu cu bq → (bq.1.length = 50 ∧ bq.2.1.length = 50) → TrD bq.1 n k ps pg →
  Calls Tryz.prog 43 #[.pointer (some ⟨g, 0, none⟩), .int .i64 (k : Int), .string key, .string value, .bool drop] w fun e w' => ∃ v, e = .returned v ∧ Kd.R k91 91 w' w.heap.size (fun _ => True) v (partL (qbk (dopB drop key value) key n k bq).1) ∧ BsAt w0 w' g gn cn gu cu (qbk (dopB drop key value) key n k bq).2 ∧ Below w0.heap.size w0 w' ∧ Kept w w' (S3 g gn gu) := by
 have HPUT := z_ hput;clear hput;have hu := Tryz.underlying80;have hu2 := Tryz.underlying84;have hu3 := Tryz.underlying29;have sf := Tryz.underlying91;intro n
 induction n with
 | zero => intro w0 w g gn cn gu cu bq k ps pg _ _ _ ht; exact ht.elim
 | succ n ih =>
  intro w0 w g gn cn gu cu bq k ps pg hB hb hl ht;obtain ⟨x, hx, hnb, hfb, hcase⟩ := ht;have hk : k < bq.1.length := by
   rcases Nat.lt_or_ge k bq.1.length with h2 | h2
   ·exact h2
   ·rw [List.getElem?_eq_none h2] at hx; cases hx
  have hgd : bq.1.getD k z80 = x := by rw [List.getD_eq_getElem?_getD, hx]; rfl
  obtain ⟨A1, qJ, A2, vH, A3, CA, hcl, hr1, hr2, hr3⟩ := hb.node hx;obtain ⟨d0, d1, d2, d3⟩ := hcl;have dg := qac hb.blk 0;simp only [List.getElem?_toArray, List.getElem?_cons_zero] at dg;have p1 : (0 : Int) ≤ (k : Int) := zdM;have q1 : (k : Int) < (bq.1.length : Int) := zdM;obtain ⟨gb, hgb⟩ : ∃ gb, gb = w.heap.size := ⟨_, rfl⟩
  obtain ⟨W2, hW2⟩ : ∃ W2, W2 = w.alloc (Obj.cells #[.bool x.f0, .slice A1 x.f1.length qJ, .slice A2 x.f2.length vH, .slice A3 x.f3.length CA] 80 (0, 0)) := ⟨_, rfl⟩
  have hX2 : W2.heap[gb]? = some (.cells #[.bool x.f0, .slice A1 x.f1.length qJ, .slice A2 x.f2.length vH, .slice A3 x.f3.length CA] 80 (0, 0)) := zcE;have hY2 : Below w.heap.size w W2 := zbV;have HSS := z_ (show ∀ k, S3 g gn gu k → k < w.heap.size from fun k hk => by have := hb.lts; rcases hk with rfl | rfl | rfl <;> omega);have HBX := z_ (show BoxN w W2 g gn gu gb x A1 qJ A2 vH A3 CA from ⟨hgb, qbo hX2, hX2, Kd.qbF hr1.2 hY2, Kd.qbF hr2.2 hY2, Kd.qbF hr3.2 hY2, hr1.1, hr2.1, hr3.1⟩);have HBS := z_ (hb.below hY2);have HBW := z_ (qaa hB hY2);have HKW := z_ (Kept.of_below hY2 (S3 g gn gu));have HYW := z_ hY2;have HW0 := z_ hB.size;have HLN := z_ hl;have HIH := z_ ih;have HGD := z_ hgd;have HX := z_ hx;have HNB := z_ (And.intro hnb hfb);have HC := z_ hcase;clear hB hb hl ih hgd hx hnb hfb hcase hk hr1 hr2 hr3 hY2 hX2
  go_enter Tryz.func43, Tryz.ntmps43
  go_upto_region 2 with fail
  rw [← hW2, ← hgb];clear hW2 d0 d1 d2 d3 dg p1 q1;have HGB := z_ hgb;clear hgb;obtain ⟨b0, b1, b2, b3⟩ := qbB HBX.o.blk
  by_cases hf : x.f0 = true
  ·have HPS := z_ (show qbk (dopB drop key value) key (n + 1) k bq = qbA (dopB drop key value x.f1) bq from by unfold qbk; rw [HGD.o, if_pos hf]);have Zg := z_ (qdK HNB.o.1 HNB.o.2 hf)
   cases drop with
   | true =>
    obtain ⟨K, hK⟩ := qlx x.f1 key zdf;have HH := z_ (hK K (Nat.le_refl K));clear hK
    go_wp2_with fail
    refine (qbd.calls (hr0 := Kd.qcT HBX.o.r1) (hc0 := HBX.o.l1) (h := HH.o)).mono ?_;rintro e w1 ⟨v, rfl, hv, hb1⟩;obtain ⟨A4, c4, rfl, hl4, _⟩ := Kd.qa4 hv;have rJ := z_ (HBS.o.below hb1);have TR := z_ (show Kd.F k61 w1 (fun k => ¬ S3 g gn gu k) A4 (x.f1.filter fun p => !decide (p.f0.toList = key.toList)).length (x.f1.filter fun p => !decide (p.f0.toList = key.toList)) from Kd.qci (qfd hv) (fun k hk e => zcd));have HB1 := z_ (qaa HBW.o hb1);have I5 := z_ (HKW.o.below hb1);have HZ1 := z_ hl4;clear hv hb1 hl4
    go_wp2_with fail
    refine (qj0 w0 w1 g gn cn gu cu bq HB1.o rJ.o HLN.o (fun k => ¬ S3 g gn gu k) (fun _ h => h) A4 c4 _ TR.o HZ1.o (by have := List.length_filter_le (fun p : S61 => !decide (p.f0.toList = key.toList)) x.f1; have := Zg.o; omega)).mono ?_;rintro e w2 ⟨v, rfl, hv, hb2, hw2, hk2⟩;have hk3 := I5.o.qfZ hk2 (fun _ h => .inl h);have hs1 := I5.o.1
    go_wp2_with fail
    go_ret
    rw [HPS.o];exact ⟨_, rfl, Kd.qa3 hv hs1, hb2, hw2, hk3⟩
   | false =>
    go_wp2_with fail
    refine (HPUT.o rfl _ _ x.f1 _ (Kd.qcT HBX.o.r1) HBX.o.l1 zdf).mono ?_;rintro e w1 ⟨v, rfl, hv, hb1⟩;obtain ⟨A4, c4, rfl, hl4, _⟩ := Kd.qa4 hv;have rJ := z_ (HBS.o.below hb1);have TR := z_ (show Kd.F k61 w1 (fun k => ¬ S3 g gn gu k) A4 (putP x.f1 key value).length (putP x.f1 key value) from Kd.qci (qfd hv) (fun k hk e => zcd));have HB1 := z_ (qaa HBW.o hb1);have I5 := z_ (HKW.o.below hb1);have HZ1 := z_ hl4;clear hv hb1 hl4
    go_wp2_with fail
    refine (qj0 w0 w1 g gn cn gu cu bq HB1.o rJ.o HLN.o (fun k => ¬ S3 g gn gu k) (fun _ h => h) A4 c4 _ TR.o HZ1.o (by have h_ := qeE x.f1 key value; have := Zg.o; split at h_ <;> omega)).mono ?_;rintro e w2 ⟨v, rfl, hv, hb2, hw2, hk2⟩;have hk3 := I5.o.qfZ hk2 (fun _ h => .inl h);have hs1 := I5.o.1
    go_wp2_with fail
    go_ret
    rw [HPS.o];exact ⟨_, rfl, Kd.qa3 hv hs1, hb2, hw2, hk3⟩
  ·have hf0 : x.f0 = false := zdx;have HL2 := z_ (qdi HNB.o.1 HNB.o.2 hf0);have HPN := z_ (qcW HNB.o.1 HNB.o.2 hf0);obtain ⟨m, hm⟩ : ∃ m, m = qca x.f2 key := ⟨_, rfl⟩
   have hml : m < x.f2.length := zbi;have HM := z_ (And.intro hm hml);have fR := z_ hf0;have c0b : x.f0 = false := hf0;clear hf hm hml hf0
   go_upto_block 0 with fail
   go_cut [12] (fun v12 wc => v12 = .int .i64 (m : Int) ∧ Aside0 (Below W2.heap.size W2 wc))
   case first =>
    go_wp2_with fail
    go_loopw [12] (fun v12 wr => ∃ i : Nat, v12 = .int .i64 (i : Int) ∧ i ≤ m ∧ Aside0 (Below W2.heap.size W2 wr)) (fun v12 _ => x.f3.length - (intOf v12).toNat)
    case atStart => exact ⟨0, rfl, Nat.zero_le _, ⟨Below.refl _ _⟩⟩
    case round =>
     obtain ⟨i, rfl, hi, HO⟩ := hrel;have rS := z_ (HBX.o.below HSS.o HO.o);obtain ⟨r0, r1, r2, r3⟩ := qbB rS.o.blk;have w2 : IntKind.i64.wrap ((i : Int) + 1) = (i : Int) + 1 := by rw [IntKind.wrap_i64]; have := HL2.o; have := HM.o; omega
     by_cases hlt : i + 1 < x.f3.length
     ·have c1 : decide ((i : Int) + 1 < (x.f3.length : Int)) = true := decide_eq_true zdM;obtain ⟨ad, rfl, hx⟩ := Kd.qbX (Kd.qcT rS.o.r2) ((i : Int) + 1) zdM zcZ;rw [show ((i : Int) + 1).toNat = i + 1 from zdM] at hx;replace hx : wr.cell? ⟨ad.block, ad.off + (i + 1), none⟩ = some (.string (rdOf ByteArray.empty x.f2 ((i : Int) + 1))) := hx;have p1 : (0 : Int) ≤ (i : Int) + 1 := zdM;have q1 : (i : Int) + 1 < (x.f2.length : Int) := zcZ
      cases hbl : Op.bytesLess key.toList (rdOf ByteArray.empty x.f2 ((i : Int) + 1)).toList with
      | true =>
       have him : i = m := by
        rcases Nat.lt_or_ge i m with h | h
        ·have := qfT (ls := x.f2) (key := key) (i := i) (by rw [← HM.o.1]; exact h) zdM;rw [hbl] at this; cases this
        ·omega
       subst him
       go_wp2_with fail
       go_meet
       case rel => exact ⟨rfl, HO⟩
      | false =>
       have him : i < m := by
        rcases Nat.lt_or_ge i m with h | h
        ·exact h
        ·have he : i = m := zdM;have h2 := qfy (ls := x.f2) (key := key) (by rw [← HM.o.1]; omega);have e2 := qhh x.f2 i zcZ;rw [e2] at hbl;simp only [← HM.o.1, ← he] at h2;rw [hbl] at h2
         cases h2
       go_wp2_with fail
       go_roundw
       case rel => exact ⟨i + 1, zdL, zdM, HO⟩
       case measure => simp [intOf]; omega
     ·have c1 : decide ((i : Int) + 1 < (x.f3.length : Int)) = false := decide_eq_false zdM;have him : i = m := zcq;subst him
      go_wp2_with fail
      go_meet
      case rel => exact ⟨rfl, HO⟩
   case rest =>
    obtain ⟨rfl, HO⟩ := hcut;have hPD : ∃ pg', PD (TrD bq.1 n) (partsOf x) ps pg' := by
     rcases HC.o with h | h
     ·rw [fR.o] at h; cases h.1
     ·exact ⟨_, h.2.choose_spec.2⟩
    have HPM := z_ (show m < (partsOf x).length from zba);obtain ⟨kk, hkk⟩ : ∃ kk, kk = ((partsOf x)[m]'HPM.o).2 := ⟨_, rfl⟩
    obtain ⟨pk, gk, hT⟩ := qlI _ _ _ m HPM.o hPD.choose_spec;rw [← hkk] at hT;obtain ⟨ch, hch⟩ : ∃ ch, ch = qbk (dopB drop key value) key n kk bq := ⟨_, rfl⟩
    have hgp : ((partsOf x).getD m (ByteArray.empty, 0)).2 = kk := by rw [List.getD_eq_getElem?_getD, List.getElem?_eq_getElem HPM.o, hkk]; rfl
    have HPS := z_ (show qbk (dopB drop key value) key (n + 1) k bq = qbP (preL (partsOf x) ch.1 m (partsOf x).length) ch.2 from by
     rw [preL_end HPM.o];unfold qbk;rw [HGD.o, if_neg (by rw [fR.o]; decide), ← HM.o.1, hgp, ← hch])
    have HKK := z_ hkk;have HT := z_ hT;have HCH := z_ hch;have HBZ := z_ (qaa HYW.o HO.o);clear hPD hkk hT hgp hch
    go_wp2_with ((with_reducible refine qaw (N := 57) rfl ?_); refine Kd.qdr k91 w.heap.size 91 zdO (N := 57) zdO (xs := ([] : List S91)) (inner := []) (ok := fun _ => True) (okp := fun _ => True) zcm ?hp (fun _ hk => hk) trivial HBZ.o HBZ.o.size zdN ?_; (case hp => exact (Reps.none _ _)); intro v5 w5 zB hb5 j3 K0; have jU := z_ (Below.grown (Below.refl _ _) j3 (Nat.le_refl _) (fun k hk => zdH)); clear j3 K0; have GX := z_ zB; have L3 := z_ hb5; clear zB hb5)
    go_loopw [13, 14] (fun v13 v14 wr => ∃ (i : Nat) (vl : Value), i ≤ x.f3.length ∧ vl = v13 ∧ v14 = .int .i64 (i : Int) ∧ Aside0 (ChAt w0 w wr g gn cn gu cu gb x A1 qJ A2 vH A3 CA (if i ≤ m then bq else ch.2) vl (partL (preL (partsOf x) ch.1 m i)))) (fun _ v14 _ => x.f3.length - (intOf v14).toNat)
    case atStart =>
     refine ⟨0, _, Nat.zero_le _, rfl, rfl, ⟨?_⟩⟩;rw [if_pos (Nat.zero_le _), qlG];exact ⟨qaa (qaa HBW.o HO.o) jU.o, (HKW.o.below HO.o).below jU.o, (HBX.o.below HSS.o HO.o).below HSS.o jU.o, (HBS.o.below HO.o).below jU.o, GX.o⟩
    case round =>
     clear GX L3 jU HO HBZ HBX HBS HBW HKW HYW;obtain ⟨i, vl, hi, rfl, rfl, HA⟩ := hrel;obtain ⟨r0, r1, r2, r3⟩ := qbB HA.o.box.blk
     by_cases hlt : i < x.f3.length
     ·have c1 : decide ((i : Int) < (x.f3.length : Int)) = true := decide_eq_true zdM;have w2 : IntKind.i64.wrap ((i : Int) + 1) = (i : Int) + 1 := by rw [IntKind.wrap_i64]; have := HL2.o; omega
      have HIP := z_ (show i < (partsOf x).length from by have := HPN.o.2.2.1; omega);have hrk : rd x.f3 (i : Int) = (((partsOf x)[i]'HIP.o).2 : Int) := by
       have e := HPN.o.1;unfold rd;rw [Int.toNat_natCast, e, List.getD_eq_getElem?_getD, List.getElem?_map, List.getElem?_eq_getElem HIP.o];rfl
      have hrl : rdOf ByteArray.empty x.f2 (i : Int) = ((partsOf x)[i]'HIP.o).1 := by
       have e := HPN.o.2.1;unfold rdOf;rw [Int.toNat_natCast, e, List.getD_eq_getElem?_getD, List.getElem?_map, List.getElem?_eq_getElem HIP.o];rfl
      obtain ⟨gH, rfl, hk3⟩ := Kd.qdu (Kd.qcT HA.o.box.r3) (i : Int) zdM zdM;rw [Int.toNat_natCast, hrk] at hk3;have HLC := z_ (show ch.1.length ≤ 2 from HCH.o ▸ qdy _ _ _ _ _);have p1 : (0 : Int) ≤ (i : Int) := zdM;have q1 : (i : Int) < (x.f3.length : Int) := zdM
      by_cases him : i = m
      ·subst him;have HA1 := z_ HA.o;rw [if_pos (Nat.le_refl i)] at HA1;rw [← HKK.o] at hk3;clear HA hrk hrl
       go_wp2_with fail
       refine (HIH.o w0 wr g gn cn gu cu bq kk pk gk HA1.o.below HA1.o.bs HLN.o HT.o).mono ?_;rintro e w1 ⟨v, rfl, hv, hb1, hw1, hk1⟩;have HA2 := z_ (HA1.o.call HSS.o hb1 hw1 hk1);rw [← HCH.o] at HA2 hv;obtain ⟨A5, c5, rfl, l5, g5⟩ := Kd.qa4 hv;have GZ := z_ g5;have HLE := z_ (show ((partL (preL (partsOf x) ch.1 i i)).length + (partL ch.1).length) ≤ 1000 from by
        have := qiu (parts := partsOf x) (ch := ch.1) (m := i) (i := i) (by have := HIP.o; omega);have := HLC.o;have := HL2.o;have := HPN.o.2.2.1;unfold partL;rw [List.length_map, List.length_map];omega)
       clear hv hb1 hw1 hk1 l5 g5 HA1
       go_wp2_with ((with_reducible refine qbS (b := .append) (xs := #[.tmp 68, .tmp 78]) rfl ?_); at_builtin; go_must (refine Kd.qb8 k91 (w0 := w1) w.heap.size rfl (.tmp 68) (.tmp 78) 85 91 (.agg #[.string ⟨#[]⟩, .int .i64 0]) 24 rfl Tryz.underlying85 qgi rfl zdK zdM vl (partL (preL (partsOf x) ch.1 i i)) (partL ch.1) _ _ _ (fun _ => True) (fun _ => False) rfl rfl ?aO ?aR (fun _ _ h => h) (fun _ h => h.elim) (fun _ _ => trivial) ?aB ?aS ?aL ?_; (case aR => exact GZ.o); (case aB => exact Below.refl _ _); (case aO => exact HA2.o.o); (case aS => exact HA2.o.kept.1); (case aL => have := HLE.o; omega); intro vq wq hoq hnq hgq hatq; have HA3 := z_ (HA2.o.grown HW0.o hgq hoq); clear hoq hnq hgq hatq))
       go_roundw
       case rel =>
        refine ⟨i + 1, _, zdM, rfl, zdL, ⟨?_⟩⟩;rw [if_neg zdM, preL_at, qgq];exact HA3.o
       case measure => simp [intOf]; omega
      ·have hne : ((i : Int) == (m : Int)) = false := beq_eq_false_iff_ne.mpr zdM;obtain ⟨kM, rfl, _⟩ := Kd.qbX (Kd.qcT HA.o.box.r2) (i : Int) zdM zcZ;have HRK := z_ hrk;have HRL := z_ hrl;have xX := z_ (show (i : Int) < (x.f2.length : Int) from zcZ);have HQ3 := z_ (show (i < x.f2.length) = True from eq_true zcZ);have HQ4 := z_ (show (i < x.f3.length) = True from eq_true hlt);have HQ5 := z_ q1;have HLE := z_ (show (partL (preL (partsOf x) ch.1 m i)).length ≤ 1000 from by
        have := qiu (parts := partsOf x) (ch := ch.1) (m := m) (i := i) (by have := HIP.o; omega);have := HLC.o;have := HL2.o;have := HPN.o.2.2.1;unfold partL;rw [List.length_map];omega)
       have HNE := z_ him;have S0 := z_ (HA.o.qbQ HSS.o (qba (Below.refl wr.heap.size wr)));clear hrk hrl hk3 HA him
       go_upto_region 15 with fail
       refine qdv (n := 15) (S := fun w' => True) (ds := []) zArrF15 zdG rfl rfl trivial (fun hHeld => ?_);refine qbU qeY.tab15 qeY.bits15 (fun E2 r8 => ?_);generalize wr.drew = wd at S0 ⊢;refine qer [0, 1, 2, 3, 4, 5, 6, 7, 8, 9, 10, 11, 12, 13, 14] (fun TE b a w' => ∃ (gq : Nat) (vo : Value) (S1 : Value) (X1 : Value), a = qbH TE b [(0, 80, vl), (1, 81, .pointer (some ⟨gb, 2, none⟩)), (2, 82, .slice (some kM) x.f2.length vH), (3, 83, .int .i64 (i : Int)), (4, 84, .pointer (some (kM.add i))), (5, 85, .string ((partsOf x)[i]'HIP.o).1), (6, 86, .pointer (some ⟨gb, 3, none⟩)), (7, 87, .slice (some gH) x.f3.length CA), (8, 88, .int .i64 (i : Int)), (9, 89, .pointer (some (gH.add i))), (10, 90, .int .i64 (((partsOf x)[i]'HIP.o).2 : Int)), (11, 91, .agg #[.string ((partsOf x)[i]'HIP.o).1, .int .i64 (((partsOf x)[i]'HIP.o).2 : Int)]), (12, 92, S1), (13, 93, vo), (14, 13, X1)] ∧ (b 13 = false → ChAt w0 w w' g gn cn gu cu gb x A1 qJ (some kM) vH (some gH) CA (if i ≤ m then bq else ch.2) vl (partL (preL (partsOf x) ch.1 m i))) ∧ (b 13 = true → ChAt w0 w w' g gn cn gu cu gb x A1 qJ (some kM) vH (some gH) CA (if i ≤ m then bq else ch.2) vo ((partL (preL (partsOf x) ch.1 m i)) ++ [(⟨((partsOf x)[i]'HIP.o).1, (((partsOf x)[i]'HIP.o).2 : Int)⟩ : S91)])) ∧ (b 12 = true → b 13 = false → ∃ W, w' = W.alloc (.cells #[.string ((partsOf x)[i]'HIP.o).1, .int .i64 (((partsOf x)[i]'HIP.o).2 : Int)] 91 (0, 0)) ∧ gq = W.heap.size ∧ ChAt w0 w W g gn cn gu cu gb x A1 qJ (some kM) vH (some gH) CA (if i ≤ m then bq else ch.2) vl (partL (preL (partsOf x) ch.1 m i))) ∧ (b 12 = true → (S1 : Value) = .slice (some ⟨gq, 0, none⟩) 1 1) ∧ (b 14 = true → (X1 : Value) = vo)) E2.o r8.o zdG zdG ?_ ?_ ?_
       ·exact ⟨0, .bool false, .bool false, .bool false, zbB, fun _ => S0.o, fun h_ => absurd h_ zdK, fun h_ => absurd h_ zdK, fun h_ => absurd h_ zdK, fun h_ => absurd h_ zdK⟩
       ·skip;clear S0;refine zsteps_ rfl ?_ ?_
        ·rintro b a w' ⟨gq, vo, S1, X1, ha, QT⟩ hb_ hon hoff K hK;have e13 : a.tmps[13]? = some (vl) := by rw [ha]; exact (qf2 (hoff 14 zdG) rfl).trans rfl
         replace ha := z_ ha;refine qaT (w1 := w') (v := vl) zdO rfl zci ?_;refine hK.o _ _ ⟨gq, vo, S1, X1, zbJ, QT⟩
        refine zsteps_ rfl ?_ ?_
        ·rintro b a w' ⟨gq, vo, S1, X1, ha, QT⟩ hb_ hon hoff K hK;have e11 : a.tmps[11]? = some (.pointer (some ⟨gb, 0, none⟩)) := zcj;replace ha := z_ ha;refine qaT (w1 := w') (v := .pointer (some ⟨gb, 2, none⟩)) zdO rfl zci ?_;refine hK.o _ _ ⟨gq, vo, S1, X1, zbK, QT⟩
        refine zsteps_ rfl ?_ ?_
        ·rintro b a w' ⟨gq, vo, S1, X1, ha, QT⟩ hb_ hon hoff K hK;have e81 : a.tmps[81]? = some (.pointer (some ⟨gb, 2, none⟩)) := zon_ ha 1 rfl rfl hon;replace ha := z_ ha;have S0 := z_ (QT.1 (hoff 13 zdG));obtain ⟨Tg, Kg, ph, Wg⟩ := qbB S0.o.box.blk;refine qaT (w1 := w') (v := .slice (some kM) x.f2.length vH) zdO rfl zci ?_;refine hK.o _ _ ⟨gq, vo, S1, X1, zbL, QT⟩
        refine zsteps_ rfl ?_ ?_
        ·rintro b a w' ⟨gq, vo, S1, X1, ha, QT⟩ hb_ hon hoff K hK;have e14 : a.tmps[14]? = some (.int .i64 (i : Int)) := zcj;replace ha := z_ ha;refine qaT (w1 := w') (v := .int .i64 (i : Int)) zdO rfl zci ?_;refine hK.o _ _ ⟨gq, vo, S1, X1, zbM, QT⟩
        refine zsteps_ rfl ?_ ?_
        ·rintro b a w' ⟨gq, vo, S1, X1, ha, QT⟩ hb_ hon hoff K hK;have e82 : a.tmps[82]? = some (.slice (some kM) x.f2.length vH) := zon_ ha 2 rfl rfl hon;have e83 : a.tmps[83]? = some (.int .i64 (i : Int)) := zon_ ha 3 rfl rfl hon;replace ha := z_ ha;have Og := xX.o;have yd := HQ3.o;refine qaT (w1 := w') (v := .pointer (some (kM.add i))) zdO rfl zci ?_;refine hK.o _ _ ⟨gq, vo, S1, X1, zbN, QT⟩
        refine zsteps_ rfl ?_ ?_
        ·rintro b a w' ⟨gq, vo, S1, X1, ha, QT⟩ hb_ hon hoff K hK;have e84 : a.tmps[84]? = some (.pointer (some (kM.add i))) := zon_ ha 4 rfl rfl hon;replace ha := z_ ha;have S0 := z_ (QT.1 (hoff 13 zdG));obtain ⟨Ab, e_, wn⟩ := Kd.qbX (Kd.qcT S0.o.box.r2) (i : Int) zdM xX.o
         cases e_
         rw [Int.toNat_natCast, HRL.o] at wn;refine qaT (w1 := w') (v := .string ((partsOf x)[i]'HIP.o).1) zdO rfl zci ?_;refine hK.o _ _ ⟨gq, vo, S1, X1, zbO, QT⟩
        refine zsteps_ rfl ?_ ?_
        ·rintro b a w' ⟨gq, vo, S1, X1, ha, QT⟩ hb_ hon hoff K hK;have e11 : a.tmps[11]? = some (.pointer (some ⟨gb, 0, none⟩)) := zcj;replace ha := z_ ha;refine qaT (w1 := w') (v := .pointer (some ⟨gb, 3, none⟩)) zdO rfl zci ?_;refine hK.o _ _ ⟨gq, vo, S1, X1, zbP, QT⟩
        refine zsteps_ rfl ?_ ?_
        ·rintro b a w' ⟨gq, vo, S1, X1, ha, QT⟩ hb_ hon hoff K hK;have e86 : a.tmps[86]? = some (.pointer (some ⟨gb, 3, none⟩)) := zon_ ha 6 rfl rfl hon;replace ha := z_ ha;have S0 := z_ (QT.1 (hoff 13 zdG));obtain ⟨Tg, Kg, ph, Wg⟩ := qbB S0.o.box.blk;refine qaT (w1 := w') (v := .slice (some gH) x.f3.length CA) zdO rfl zci ?_;refine hK.o _ _ ⟨gq, vo, S1, X1, zbQ, QT⟩
        refine zsteps_ rfl ?_ ?_
        ·rintro b a w' ⟨gq, vo, S1, X1, ha, QT⟩ hb_ hon hoff K hK;have e14 : a.tmps[14]? = some (.int .i64 (i : Int)) := zcj;replace ha := z_ ha;refine qaT (w1 := w') (v := .int .i64 (i : Int)) zdO rfl zci ?_;refine hK.o _ _ ⟨gq, vo, S1, X1, zbS, QT⟩
        refine zsteps_ rfl ?_ ?_
        ·rintro b a w' ⟨gq, vo, S1, X1, ha, QT⟩ hb_ hon hoff K hK;have e87 : a.tmps[87]? = some (.slice (some gH) x.f3.length CA) := zon_ ha 7 rfl rfl hon;have e88 : a.tmps[88]? = some (.int .i64 (i : Int)) := zon_ ha 8 rfl rfl hon;replace ha := z_ ha;have yd := HQ4.o;refine qaT (w1 := w') (v := .pointer (some (gH.add i))) zdO rfl zci ?_;refine hK.o _ _ ⟨gq, vo, S1, X1, zbT, QT⟩
        refine zsteps_ rfl ?_ ?_
        ·rintro b a w' ⟨gq, vo, S1, X1, ha, QT⟩ hb_ hon hoff K hK;have e89 : a.tmps[89]? = some (.pointer (some (gH.add i))) := zon_ ha 9 rfl rfl hon;replace ha := z_ ha;have S0 := z_ (QT.1 (hoff 13 zdG));obtain ⟨Ab, e_, wn⟩ := Kd.qdu (Kd.qcT S0.o.box.r3) (i : Int) zdM HQ5.o
         cases e_
         rw [Int.toNat_natCast, HRK.o] at wn;refine qaT (w1 := w') (v := .int .i64 (((partsOf x)[i]'HIP.o).2 : Int)) zdO rfl zci ?_;refine hK.o _ _ ⟨gq, vo, S1, X1, zbE, QT⟩
        refine zsteps_ rfl ?_ ?_
        ·rintro b a w' ⟨gq, vo, S1, X1, ha, QT⟩ hb_ hon hoff K hK;have e85 : a.tmps[85]? = some (.string ((partsOf x)[i]'HIP.o).1) := zon_ ha 5 rfl rfl hon;have e90 : a.tmps[90]? = some (.int .i64 (((partsOf x)[i]'HIP.o).2 : Int)) := zon_ ha 10 rfl rfl hon;replace ha := z_ ha;refine qaT (w1 := w') (v := .agg #[.string ((partsOf x)[i]'HIP.o).1, .int .i64 (((partsOf x)[i]'HIP.o).2 : Int)]) zdO rfl zci ?_;refine hK.o _ _ ⟨gq, vo, S1, X1, zbF, QT⟩
        refine zsteps_ rfl ?_ ?_
        ·rintro b a w' ⟨gq, vo, S1, X1, ha, Q7, NB, cA, Z5, n9⟩ hb_ hon hoff K hK;have e91 : a.tmps[91]? = some (.agg #[.string ((partsOf x)[i]'HIP.o).1, .int .i64 (((partsOf x)[i]'HIP.o).2 : Int)]) := zon_ ha 11 rfl rfl hon;replace ha := z_ ha;have S0 := z_ (Q7 (hoff 13 zdG));refine qaT (w1 := w'.alloc (.cells #[.string ((partsOf x)[i]'HIP.o).1, .int .i64 (((partsOf x)[i]'HIP.o).2 : Int)] 91 (0, 0))) (v := .slice (some ⟨w'.heap.size, 0, none⟩) 1 1) zdO rfl zdt ?_;refine hK.o _ _ ⟨w'.heap.size, vo, (.slice (some ⟨w'.heap.size, 0, none⟩) 1 1), X1, zbG, fun _ => S0.o.qbQ HSS.o (qaA (Below.refl _ _) _), nf_ (hoff 13 zdG), fun _ _ => ⟨w', rfl, rfl, S0.o⟩, fun _ => rfl, nf_ (hoff 14 zdG)⟩
        refine zsteps_ rfl ?_ ?_
        ·rintro b a w' ⟨gq, vo, S1, X1, ha, Q7, NB, cA, Z5, n9⟩ hb_ hon hoff K hK;have e80 : a.tmps[80]? = some (vl) := zon_ ha 0 rfl rfl hon;have e92 : a.tmps[92]? = some (S1) := zon_ ha 12 rfl rfl hon;rw [Z5 (hon 12 zdG)] at e92;replace ha := z_ ha;have S0 := z_ (Q7 hb_);have BX := z_ (cA (hon 12 zdG) hb_);obtain ⟨qe, XS, iT, yC⟩ := BX.o;clear BX S0;have ea := yC.kept.1;have hll_ := HLE.o;rw [XS];refine Kd.qbV k91 (w0 := qe) w.heap.size zdO (.tmp 80) (.tmp 92) 85 91 (.agg #[.string ⟨#[]⟩, .int .i64 0]) 24 rfl Tryz.underlying85 qgi rfl zdK zdM vl (partL (preL (partsOf x) ch.1 m i)) (⟨((partsOf x)[i]'HIP.o).1, (((partsOf x)[i]'HIP.o).2 : Int)⟩ : S91) [.string ((partsOf x)[i]'HIP.o).1, .int .i64 (((partsOf x)[i]'HIP.o).2 : Int)] (fun _ => True) (fun _ => False) (by simp only [Act.eval, Array.getD_eq_getD_getElem?, e80, Option.getD_some]) (by simp only [Act.eval, Array.getD_eq_getD_getElem?, e92, Option.getD_some, iT]) zdh (fun _ hk => hk.elim) (fun _ _ => trivial) yC.o (Below.refl _ _) ea zdM ?_;intro Ko DS IZ SY j3 BZ;refine hK.o _ _ ⟨gq, Ko, S1, X1, zbH, fun qB => absurd ((qbG b 13).symm.trans qB) zdK, fun _ => yC.grown HW0.o j3 IZ, fun _ o6 => absurd ((qbG b 13).symm.trans o6) zdK, Z5, nf_ (hoff 14 zdG)⟩
        refine zsteps_ rfl ?_ ?_
        ·rintro b a w' ⟨gq, vo, S1, X1, ha, Q7, NB, cA, Z5, n9⟩ hb_ hon hoff K hK;have e93 : a.tmps[93]? = some (vo) := zon_ ha 13 rfl rfl hon;replace ha := z_ ha;refine qaT (w1 := w') (v := vo) zdO rfl zci ?_;refine hK.o _ _ ⟨gq, vo, S1, (vo), zbI, nt_ (hon 13 zdG), NB, fun _ o6 => absurd ((hon 13 zdG).symm.trans o6) zdK, Z5, fun _ => rfl⟩
        exact qcC
       rintro b a wE hall ⟨gq, vo, S1, X1, ha, Q7, NB, cA, Z5, n9⟩;clear S0;have Z4 := hall 0 zdG;have i3 := hall 1 zdG;have J4 := hall 2 zdG;have o4 := hall 3 zdG;have D4 := hall 4 zdG;have Q5 := hall 5 zdG;have H4 := hall 6 zdG;have q7 := hall 7 zdG;have y7 := hall 8 zdG;have i8 := hall 9 zdG;have GD := hall 10 zdG;have jH := hall 11 zdG;have nG := hall 12 zdG;have PA := hall 13 zdG;have YF := hall 14 zdG;subst ha;obtain rfl := Z5 nG;obtain rfl := n9 YF;simp only [qbH, Z4, i3, J4, o4, D4, Q5, H4, q7, y7, i8, GD, jH, nG, PA, YF, if_true, Act.put, List.setIfInBounds_toArray, List.set_cons_zero, List.set_cons_succ];clear Q7;have S2 := z_ (NB PA);clear NB cA hall Z4 i3 J4 o4 D4 Q5 H4 q7 y7 i8 GD jH nG PA YF
       go_wp2_with fail
       go_roundw
       case rel =>
        refine ⟨i + 1, _, zdM, rfl, zdL, ⟨?_⟩⟩;rw [qlH HNE.o HIP.o, qgq];have e : (if i + 1 ≤ m then bq else ch.2) = if i ≤ m then bq else ch.2 := by
         by_cases h : i ≤ m
         ·rw [if_pos h, if_pos (by have := HNE.o; omega)]
         ·rw [if_neg h, if_neg zdM]
        rw [e];exact S2.o
       case measure => simp [intOf]; omega
     ·have c1 : decide ((i : Int) < (x.f3.length : Int)) = false := decide_eq_false zdM;have hie : i = (partsOf x).length := by have := HPN.o.2.2.1; omega
      have HA1 := z_ HA.o;rw [if_neg (by have := HPM.o; omega), hie] at HA1;have HLC := z_ (show ch.1.length ≤ 2 from HCH.o ▸ qdy _ _ _ _ _);have hbg := qdC (dopB drop key value) key n kk bq;rw [← HCH.o] at hbg;have RW := z_ (show ch.2.1.length = 50 ∧ ch.2.2.1.length = 50 from ⟨hbg.len.trans HLN.o.1, hbg.lenu.trans HLN.o.2⟩);have HLE := z_ (show (preL (partsOf x) ch.1 m (partsOf x).length).length ≤ 1000 from by
       have := qiu (parts := partsOf x) (ch := ch.1) (m := m) (i := (partsOf x).length) (Nat.le_refl _);have := HLC.o;have := HL2.o;have := HPN.o.2.2.1;omega)
      obtain ⟨A5, c5, rfl, l5, f5⟩ := qe9 HA1.o.bs HA1.o.o nePt.1 nePt.2.1 nePt.2.2;have pd := z_ f5;have Gd := z_ l5;clear f5 l5 hbg hie HA
      go_wp2_with fail
      refine (qlS w0 wr g gn cn gu cu ch.2 HA1.o.below HA1.o.bs RW.o _ (fun k hk => hk.1) A5 c5 _ pd.o Gd.o HLE.o).mono ?_;rintro e w1 ⟨v, rfl, hv, hb1, hw1, hk1⟩;have hk3 := HA1.o.kept.qfZ hk1 (fun _ h => .inl h);have hs1 := HA1.o.kept.1
      go_wp2_with fail
      go_ret
      rw [HPS.o];exact ⟨_, rfl, Kd.qa3 hv hs1, hb1, hw1, hk3⟩
theorem qlU {ns : List S80} {d k : Nat} {ps : List S61} {pg : List Nat} (h : TrD ns d k ps pg) {m : ByteArray} (hm : qcD ps = some m) : ∃ x, ns[k]? = some x ∧ qeK x = m ∧ (x.f0 = true → 0 < x.f1.length) := by
 cases d with
 | zero => exact h.elim
 | succ d =>
  obtain ⟨x, hx, hb, hf, h⟩ := h;refine ⟨x, hx, ?_, fun hl => by have := qdK hb hf hl; omega⟩
  rcases h with ⟨hl, rfl, _⟩ | ⟨hl, pg', _, hp⟩
  ·unfold qeK;rw [if_pos hl];unfold qcD at hm
   cases hq : x.f1 with
   | nil => rw [hq] at hm; cases hm
   | cons p r => rw [hq] at hm; simpa using hm
  ·unfold qeK;rw [if_neg (by rw [hl]; decide)];have e2 := (qcW hb hf hl).2.1
   cases hq : partsOf x with
   | nil => rw [hq] at hp; obtain ⟨rfl, _⟩ := hp; cases hm
   | cons a r =>
    rw [hq] at hp e2;obtain ⟨p1, p2, g1, g2, rfl, _, _, hk, _⟩ := hp;have h2 : qcD (p1 ++ p2) = qcD p1 := by
     cases p1 with
     | nil => cases hk
     | cons _ _ => rfl
    rw [h2, hk] at hm;rw [e2];exact Option.some.inj hm
theorem kd_top {ns : List S80} {d k : Nat} {ps : List S61} {pg : List Nat} (h : TrD ns d k ps pg) : k ∈ pg := by
 cases d with
 | zero => exact h.elim
 | succ d =>
  obtain ⟨x, _, _, _, h⟩ := h
  rcases h with ⟨_, _, rfl⟩ | ⟨_, pg', rfl, _⟩
  ·exact List.mem_singleton.2 rfl
  ·exact List.mem_cons_self
theorem qhi {b : List S80 × List Bool × Bool} {d : Nat} : ∀ (ms : List (ByteArray × Nat)) (ps : List S61) (pg : List Nat), PD (TrD b.1 d) ms ps pg → (∀ i, i ∈ pg → qa5 b.2.1 i) → ∀ p, p ∈ ms → KidOK b p := by
 intro ms
 induction ms with
 | nil => intro ps pg _ _ p hp; cases hp
 | cons m r ih =>
  intro ps pg h hu p hp;obtain ⟨p1, p2, g1, g2, _, e2, h1, h2, h3⟩ := h;subst e2
  rcases List.mem_cons.1 hp with rfl | hp
  ·exact ⟨hu _ (List.mem_append_left _ (kd_top h1)), qlU h1 h2⟩
  ·exact ih p2 g2 h3 (fun i hi => hu i (List.mem_append_right _ hi)) p hp
theorem PD_heads {T : Nat → List S61 → List Nat → Prop} : ∀ (ms : List (ByteArray × Nat)) (ps : List S61) (pg : List Nat), PD T ms ps pg → ∀ m, m ∈ ms → ∃ q, q ∈ ps ∧ q.f0 = m.1 := by
 intro ms
 induction ms with
 | nil => intro ps pg _ m hm; cases hm
 | cons a r ih =>
  intro ps pg h m hm;obtain ⟨p1, p2, g1, g2, e1, _, _, h2, h3⟩ := h;subst e1
  rcases List.mem_cons.1 hm with rfl | hm
  ·unfold qcD at h2
   cases p1 with
   | nil => cases h2
   | cons q _ => exact ⟨q, List.mem_append_left _ List.mem_cons_self, by simpa using h2⟩
  ·obtain ⟨q, hq, e⟩ := ih p2 g2 h3 m hm;exact ⟨q, List.mem_append_right _ hq, e⟩
theorem PD_rise {T : Nat → List S61 → List Nat → Prop} : ∀ (ms : List (ByteArray × Nat)) (ps : List S61) (pg : List Nat), PD T ms ps pg → Rises ps → (ms.map (·.1)).Pairwise (fun a b => Op.bytesLess a.toList b.toList = true) := by
 intro ms
 induction ms with
 | nil => intro ps pg _ _; exact List.Pairwise.nil
 | cons a r ih =>
  intro ps pg h hr;obtain ⟨p1, p2, g1, g2, e1, _, _, h2, h3⟩ := h;subst e1;have hr2 := List.pairwise_append.1 hr;refine List.pairwise_cons.2 ⟨fun b hb => ?_, ih p2 g2 h3 hr2.2.1⟩;obtain ⟨m, hm, rfl⟩ := List.mem_map.1 hb;obtain ⟨q, hq, e⟩ := PD_heads r p2 g2 h3 m hm;unfold qcD at h2
  cases p1 with
  | nil => cases h2
  | cons y _ =>
   have e2 : y.f0 = a.1 := by simpa using h2
   rw [← e]
   show Op.bytesLess a.1.toList _ = true
   rw [← e2];exact hr2.2.2 y List.mem_cons_self q hq
theorem kid_low {ls : List ByteArray} {key : ByteArray} (hr : ls.Pairwise (fun a b => Op.bytesLess a.toList b.toList = true)) {i : Nat} (hi : i < ls.length) (h : Op.bytesLess key.toList (ls[i]).toList = false) : i ≤ qca ls key := by
 rcases Nat.lt_or_ge (qca ls key) i with hlt | hge
 ·have h1 := qfy (ls := ls) (key := key) zdM;have h2 : Op.bytesLess key.toList (ls[i]).toList = true := by
   rcases Nat.lt_or_ge (qca ls key + 1) i with h3 | h3
   ·exact qcs h1 (List.pairwise_iff_getElem.1 hr _ _ _ _ h3)
   ·have e : qca ls key + 1 = i := zdM;subst e;exact h1
  rw [h] at h2
  cases h2
 ·exact hge
theorem kid_high {ls : List ByteArray} {key : ByteArray} {i : Nat} (hi : i < ls.length) (h : Op.bytesLess key.toList (ls[i]).toList = true) : i = 0 ∨ qca ls key < i := by
 rcases Nat.eq_zero_or_pos i with h0 | h0
 ·exact .inl h0
 ·right
  rcases Nat.lt_or_ge (qca ls key) i with h1 | h1
  ·exact h1
  ·have h2 := qfT (ls := ls) (key := key) (i := i - 1) zdM zdM;rw [qhh ls (i - 1) zdM] at h2;simp only [show i - 1 + 1 = i from zdM] at h2;rw [h] at h2
   cases h2
structure DoOK (gf : Nat) (lb : Array Value) (dop : List S61 → List S61) (g gn gu : Nat) (w : World) : Prop where
 enter : ∀ args W, (callFunc gf args).run Tryz.prog W = .ok (.enter gf args) W
 does : ∀ (W0 W : World) (v : Value) (l : List S61), Kept w W (S3 g gn gu) → Below W0.heap.size W0 W → Kd.R k61 61 W W0.heap.size (fun _ => True) v l → Fine l → l.length ≤ 1000 → Calls Tryz.prog gf (#[v] ++ lb) W fun e W' => ∃ v', e = .returned v' ∧ Kd.R k61 61 W' W0.heap.size (fun _ => True) v' (dop l) ∧ Below W0.heap.size W0 W'
theorem DoOK.kept {gf : Nat} {lb : Array Value} {dop : List S61 → List S61} {g gn gu : Nat} {w w1 : World} (h : DoOK gf lb dop g gn gu w) (hk : Kept w w1 (S3 g gn gu)) : DoOK gf lb dop g gn gu w1 := ⟨h.enter, fun W0 W v l hkw => h.does W0 W v l (qdQ hk hkw)⟩
theorem CsAt.mono {Q Q' : Nat → Prop} {w0 w : World} {g gn cn gu cu : Nat} {b : List S80 × List Bool × Bool} (h : CsAt Q w0 w g gn cn gu cu b) (hq : ∀ k, Q k → Q' k) : CsAt Q' w0 w g gn cn gu cu b := ⟨h.ge, h.blk, Kd.qbZ h.nodes hq, h.free⟩
theorem qlV {x : S80} (hb : nbN x = true) (hf : fbN x = false) (hl : x.f0 = true) {ns : List S80} {d k : Nat} {ps : List S61} {pg : List Nat} (h : TrD ns (d + 1) k ps pg) (hx : ns[k]? = some x) (hp : Fine ps) : Fine x.f1 := by
 obtain ⟨y, hy, _, _, h⟩ := h;rw [hx] at hy;obtain rfl := Option.some.inj hy
 rcases h with ⟨_, rfl, _⟩ | ⟨h, _⟩
 ·exact hp
 ·rw [hl] at h; cases h
theorem PD_at {T : Nat → List S61 → List Nat → Prop} : ∀ (ms : List (ByteArray × Nat)) (ps : List S61) (pg : List Nat) (i : Nat) (h : i < ms.length), PD T ms ps pg → ∃ A B C ga gb gc, ps = A ++ B ++ C ∧ pg = ga ++ gb ++ gc ∧ PD T (ms.take i) A ga ∧ T (ms[i]).2 B gb ∧ qcD B = some (ms[i]).1 ∧ PD T (ms.drop (i + 1)) C gc := by
 intro ms
 induction ms with
 | nil => intro ps pg i h; exact absurd h (Nat.not_lt_zero _)
 | cons a ms ih =>
  intro ps pg i h hp;obtain ⟨p1, p2, g1, g2, rfl, rfl, h1, h2, h3⟩ := hp
  cases i with
  | zero => exact ⟨[], p1, p2, [], g1, g2, rfl, rfl, ⟨rfl, rfl⟩, h1, h2, h3⟩
  | succ i =>
   obtain ⟨A, B, C, ga, gb, gc, rfl, rfl, q1, q2, q3, q4⟩ := ih p2 g2 i zdB h3;exact ⟨p1 ++ A, B, C, g1 ++ ga, gb, gc, by simp [List.append_assoc], by simp [List.append_assoc], ⟨p1, A, g1, ga, rfl, rfl, h1, h2, q1⟩, q2, q3, q4⟩
structure DnAt (X : Option Nat) (w0 w w' : World) (g gn cn gu cu gb : Nat) (x : S80) (A1 : Option Addr) (c1 : Nat) (A2 : Option Addr) (c2 : Nat) (A3 : Option Addr) (c3 : Nat) (b : List S80 × List Bool × Bool) (A7 : Option Addr) (c7 : Nat) (out : List Int) : Prop where
 below : Below w0.heap.size w0 w'
 kept : Kept w w' (S3 g gn gu)
 box : BoxN w w' g gn gu gb x A1 c1 A2 c2 A3 c3
 cs : CsAt (fun k => some k ≠ X) w0 w' g gn cn gu cu b
 told : Kd.R (Kd.int .i64) 3 w' w.heap.size (fun _ => True) (.slice A7 out.length c7) out
theorem DnAt.qbQ {X : Option Nat} {w0 w w' w1 : World} {g gn cn gu cu gb : Nat} {x : S80} {A1 : Option Addr} {c1 : Nat} {A2 : Option Addr} {c2 : Nat} {A3 : Option Addr} {c3 : Nat} {b : List S80 × List Bool × Bool} {A7 : Option Addr} {c7 : Nat} {out : List Int} (h : DnAt X w0 w w' g gn cn gu cu gb x A1 c1 A2 c2 A3 c3 b A7 c7 out) (hS : ∀ k, S3 g gn gu k → k < w.heap.size) (hb : Below w'.heap.size w' w1) : DnAt X w0 w w1 g gn cn gu cu gb x A1 c1 A2 c2 A3 c3 b A7 c7 out :=
 ⟨qaa h.below hb, h.kept.below hb, h.box.below hS hb, h.cs.below hb, Kd.qa7 h.told hb⟩
theorem fine_mid {A B C : List S61} (h : Fine (A ++ B ++ C)) : Fine B := ⟨fun p hp => h.1 p (List.mem_append_left _ (List.mem_append_right _ hp)), (List.pairwise_append.1 (List.pairwise_append.1 h.2).1).2.1⟩
theorem qj1 {h : List S80} {keep : List Bool} {one : List S61} (hk : keep.length = 50) (hone : Fine one ∧ one.length ≤ 3) (hnf : (qbA one (onlyN h keep, keep, false)).2.2.2 = false) : ∀ p, p ∈ (qbA one (onlyN h keep, keep, false)).1 → KidOK (qbA one (onlyN h keep, keep, false)).2 p := by
 unfold qbA at hnf ⊢;obtain ⟨lY, t, nd, us, _⟩ := qev leafF 0 (qbJ 3 one) (onlyN h keep, keep, false) one [] zcn (qd5 hone.1 zdM _ 0) List.nodup_nil (fun i hi => zdI) hnf;exact qhi _ _ _ t us
theorem qj2 {dop : List S61 → List S61} {key : ByteArray} (hop : LocalOp dop key) {n k : Nat} {b : List S80 × List Bool × Bool} {ps : List S61} {pg : List Nat} (h1 : b.1.length = 50) (h2 : b.2.1.length = 50) (hT : TrD b.1 n k ps pg) (hn : pg.Nodup) (hu : ∀ i, i ∈ pg → qa5 b.2.1 i) (hf : Fine ps) (hnf : (qbk dop key n k b).2.2.2 = false) : ∀ p, p ∈ (qbk dop key n k b).1 → KidOK (qbk dop key n k b).2 p := by
 obtain ⟨_, lY, t, _, us, _⟩ := qfb hop n k b ps pg h1 h2 hT hn hu hf hnf;exact qhi _ _ _ t us
theorem fold_len (ns : List S80) (rs : List Int) : ∀ o : List Bool, o.length = 50 → (rs.foldl (fun o r => orW o (walkR ns r).2.1) o).length = 50 := by
 induction rs with
 | nil => intro o h; exact h
 | cons r rs ih => intro o h; exact ih _ (qc8 _ _ _)
theorem qdR (ns : List S80) (rs : List Int) : (qbx ns rs).length = 50 := fold_len ns rs noneW (by unfold noneW; exact List.length_replicate ..)
def sChg.T6 : Bool × List (List Nat × List Nat) := (true, [([], []), ([0], [0]), ([1], [1]), ([2], [2]), ([3], [3]), ([], []), ([], []), ([6], [6]), ([4, 5, 0, 1, 2, 3, 4, 5, 6, 7], [4, 5]), ([8, 7, 7, 0, 1, 2, 3, 4, 5, 6, 7], [7, 8])])
def sChg.B6 : List Nat := [0, 1, 3, 7, 15, 0, 0, 64, 255, 511]
theorem sChg.tab6 : rtab .any (opsOf Tryz.f22 6) = sChg.T6 := zdG
theorem sChg.bits6 : qbW sChg.T6.2 sChg.B6 = true := zdG
theorem qh3 {ns ms : List S80} {keep : List Bool} (hl : ns.length = 50) (h : qc7 ns noneW keep 50 ms) : ms = onlyN ns keep := by
 refine List.ext_getElem? fun j => ?_
 unfold onlyN;rw [List.getElem?_map]
 by_cases hj : j < 50
 ·have h1 := h.2 j hj;rw [List.getElem?_range hj, Option.map_some];have e1 : ms[j]? = some (ms.getD j z80) := by rw [List.getD_eq_getElem?_getD, List.getElem?_eq_getElem zdp]; rfl
  rw [e1, h1]
  congr 1
  by_cases hu : keep.getD j false = true
  ·rw [if_pos hu, if_neg];rintro ⟨_, _, h4⟩;rw [hu] at h4
   cases h4
  ·rw [if_neg hu, if_pos];exact ⟨hj, qfQ j, by simpa using hu⟩
 ·rw [List.getElem?_eq_none (by rw [h.1]; omega), List.getElem?_eq_none (by rw [List.length_range]; omega)];rfl
theorem schg (key value : ByteArray) (drop : Bool) (hput : PutC drop key value) (w : World) (Ah : Option Addr) (ch : Nat) (hs : List S80) (root : Int) (Ak : Option Addr) (ck : Nat) (keep : List Bool) (hh : Kd.C k80 w Ah hs.length hs) (hhc : hs.length ≤ ch) (hk : Kd.C Kd.bool w Ak keep.length keep) (hkc : keep.length ≤ ck) (hl : hs.length = 50) (hkl : keep.length = 50) (ht : TinyN hs) (d : Nat) (ps : List S61) (pg : List Nat) (hT : qdM hs d root ps pg) (hu : ∀ i, i ∈ pg → qa5 keep i) (hd : d ≤ 21) (hbt : (qbC hs root keep (dopB drop key value) key [⟨key, value⟩]).2.2.2 = false → ∃ e ps' pg', e ≤ 22 ∧ PD (TrD (qbC hs root keep (dopB drop key value) key [⟨key, value⟩]).2.1 e) (qbC hs root keep (dopB drop key value) key [⟨key, value⟩]).1 ps' pg') :
  Calls Tryz.prog 22 #[.agg #[.slice Ah hs.length ch], .int .i64 root, .slice Ak keep.length ck, .string key, .string value, .bool drop] w fun e w' => ∃ v, e = .returned (.tuple #[.agg #[v], .int .i64 (qbr hs root keep (dopB drop key value) key [⟨key, value⟩]).2.1, .bool (qbr hs root keep (dopB drop key value) key [⟨key, value⟩]).2.2]) ∧ ((qbr hs root keep (dopB drop key value) key [⟨key, value⟩]).2.2 = false → v = .slice Ah hs.length ch) ∧ ((qbr hs root keep (dopB drop key value) key [⟨key, value⟩]).2.2 = true → Kd.S k80 80 w' w.heap.size (fun _ => True) v (qbr hs root keep (dopB drop key value) key [⟨key, value⟩]).1) ∧ Below w.heap.size w w' := by
 have hun := Tryz.underlying80;have hub := Tryz.underlying84;have huh := Tryz.underlying29;have hup := Tryz.underlying91;have huq := Tryz.underlying61;obtain ⟨gh, hgh⟩ : ∃ gh, gh = w.heap.size := ⟨_, rfl⟩
 obtain ⟨W1, hW1⟩ : ∃ W1, W1 = w.alloc (Obj.cells #[.slice Ah hs.length ch] 29 (0, 0)) := ⟨_, rfl⟩
 obtain ⟨gr, hgr⟩ : ∃ gr, gr = W1.heap.size := ⟨_, rfl⟩
 have OA : gr = w.heap.size + 1 := zcr;obtain ⟨W2, hW2⟩ : ∃ W2, W2 = W1.alloc (Obj.cells #[.slice none 0 0] 29 (0, 0)) := ⟨_, rfl⟩
 have LE : Below w.heap.size w W1 := zbU;have hY2 : Below W1.heap.size W1 W2 := zbV;have hX1 : W1.heap[gh]? = some (.cells #[.slice Ah hs.length ch] 29 (0, 0)) := zcC;have HXH := z_ (qab hX1 hY2);have HXR := z_ (show W2.heap[gr]? = some (.cells #[.slice none 0 0] 29 (0, 0)) from zcB);have HYW := z_ (qaa LE hY2);have HH2 := z_ (Kd.qar hh HYW.o);have HK := z_ hk;have HKC := z_ hkc;have HHC := z_ hhc;have HL := z_ hl;have HKL := z_ hkl;have HTN := z_ ht;have HPUT := z_ hput;clear hput;have HTR := z_ (And.intro hT (And.intro hu hd));have HGR := z_ (show w.heap.size ≤ gr from zdM);have HON := z_ (qe7 z80 zdK);have HBT := z_ hbt;clear hbt;have HOWN := z_ (own_is hs zdM ht);clear hh hhc hk hkc hl hkl ht hT hu hd LE hY2 hX1
 go_enter Tryz.func22, Tryz.ntmps22
 go_upto_region 1 with fail
 rw [← hW1, ← hW2, ← OA, ← hgh];clear hW1 hW2 OA hgr hgh;have hc0 := qac HXH.o 0;simp only [List.getElem?_toArray, List.getElem?_cons_zero] at hc0
 go_wp2_with fail
 refine (qaZ.calls _ Ah ch hs hs W2 HH2.o HHC.o HOWN.o).mono ?_;rintro e w1 ⟨v0, rfl, hS, hb1⟩;obtain ⟨gn, cn, rfl, hgn, _⟩ := Kd.qiZ hS (by have := HL.o; omega);have rJ := z_ hS;have o8 := z_ (qaa HYW.o hb1);have LQ := z_ (qab HXH.o hb1);have YH := z_ (qab HXR.o hb1);have I5 := z_ (Kd.qar HK.o o8.o);have HW2 := z_ HYW.o.size;clear hS hb1 hc0 HXH HXR HH2
 go_wp2_with (first | ((with_reducible refine qaw (N := 21) rfl ?_); refine Kd.qdr Kd.bool w.heap.size 4 zdO (N := 21) zdO (xs := ([] : List Bool)) (inner := []) (ok := fun _ => True) (okp := fun _ => True) zcm ?hp (fun _ hk => hk) trivial o8.o o8.o.size zdN ?_; (case hp => exact (Reps.none _ _)); intro v2 w2 ho2 hb2 j3 K0; have BH := z_ (Below.grown (Below.refl _ _) j3 (Nat.le_refl _) (fun k hk => zdH)); clear j3 K0; have KH := z_ ho2; have HB2 := z_ hb2; clear ho2 hb2) | ((with_reducible refine qbS (b := .append) (xs := #[.tmp 21, .tmp 22]) rfl ?_); at_builtin; go_must (refine Kd.qb8 Kd.bool (w0 := w) w.heap.size rfl (.tmp 21) (.tmp 22) 42 4 (.bool false) 1 rfl Tryz.underlying42 info4 rfl zdK zdM v2 [] keep _ _ _ (fun _ => True) (fun _ => False) rfl rfl ?aO ?aR (fun _ _ h => h) (fun _ h => h.elim) (fun _ _ => trivial) ?aB ?aS ?aL ?_; (case aR => exact Kd.qar I5.o BH.o); (case aB => exact HB2.o); (case aO => exact KH.o); (case aS => exact HB2.o.size); (case aL => have := HKL.o; (try simp only [List.length_nil]); omega); intro v3 w3 ho3 hb3 hg3 OZ; have vN : Kd.R Kd.bool 4 w3 w.heap.size (fun _ => True) v3 keep := ho3; obtain ⟨gu, cu, rfl, hgu, _⟩ := Kd.qcS vN (by have := HKL.o; omega); have nR := z_ vN; have HB3 := z_ hb3; have zY := z_ hg3; clear ho3 vN hb3 OZ hg3 hgu)))
 obtain ⟨g, hg⟩ : ∃ g, g = w3.heap.size := ⟨_, rfl⟩
 obtain ⟨W4, XK⟩ : ∃ W4, W4 = w3.alloc (Obj.cells #[.slice (some ⟨gn, 0, none⟩) hs.length cn, .slice (some ⟨gu, 0, none⟩) keep.length cu, .bool false] 84 (0, 0)) := ⟨_, rfl⟩
 rw [← XK, ← hg];have QG : Below w3.heap.size w3 W4 := zbX;have hX4 : W4.heap[g]? = some (.cells #[.slice (some ⟨gn, 0, none⟩) hs.length cn, .slice (some ⟨gu, 0, none⟩) keep.length cu, .bool false] 84 (0, 0)) := by rw [XK, hg]; exact qbz w3 _
 have bxh := qab LQ.o BH.o;have bxr := qab YH.o BH.o;have HCG := z_ (show CgAt w W4 g gn cn gu cu gh gr (.slice Ah hs.length ch) (hs, keep, false) from
  ⟨qaa HB3.o QG, ⟨by rw [hg]; exact HB3.o.size, hX4, Kd.qaO (Kd.qla (Kd.qaO (Kd.qcJ rJ.o HW2.o) BH.o) (Kd.qcZ KH.o) (fun q hq => by rcases eN q hq with rfl | rfl | rfl | rfl <;> decide) zY.o) QG, Kd.qa7 nR.o QG⟩, qab (qbe bxh zY.o (Kd.R_ne KH.o bxh zdK)) QG, qab (qbe bxr zY.o (Kd.R_ne KH.o bxr zdK)) QG, HGR.o⟩)
 have HKF := z_ (Kd.C_F Kd.qle HK.o);clear XK hg QG hX4 bxh bxr rJ o8 LQ YH I5 HW2 KH HB2 BH nR HB3 zY HYW
 go_loopw [16] (fun v16 wr => ∃ (i : Nat) (ms : List S80), i ≤ 50 ∧ v16 = .int .i64 (i : Int) ∧ Aside0 (qc7 hs noneW keep i ms) ∧ Aside0 (CgAt w wr g gn cn gu cu gh gr (.slice Ah hs.length ch) (ms, keep, false))) (fun v16 _ => 50 - (intOf v16).toNat)
 case atStart => exact ⟨0, hs, Nat.zero_le _, rfl, ⟨qc7.zero HL.o⟩, HCG⟩
 case round =>
  clear HCG;obtain ⟨i, ms, hi, rfl, HSW, HCG⟩ := hrel;have HKr := z_ (Kd.qar HK.o HCG.o.below);have hc0 := qac HCG.o.bs.blk 0;simp only [List.getElem?_toArray, List.getElem?_cons_zero] at hc0
  by_cases hlt : i < 50
  ·have c1 : decide ((i : Int) < 50) = true := decide_eq_true zdM;have w2 : IntKind.i64.wrap ((i : Int) + 1) = (i : Int) + 1 := zcK;have p1 : (0 : Int) ≤ (i : Int) := zdM;have q1 : (i : Int) < (keep.length : Int) := by have := HKL.o; omega
   obtain ⟨adk, rfl, hxk⟩ := Kd.qfW HKr.o (i : Int) p1 q1;rw [Int.toNat_natCast, qdL] at hxk
   cases hki : keep.getD i false with
   | true =>
    rw [hki] at hxk;have HN := z_ (HSW.o.keep (.inr hki));clear hki
    go_wp2_with fail
    go_roundw
    case rel => exact ⟨i + 1, ms, zdM, zdL, HN, HCG⟩
    case measure => simp [intOf]; omega
   | false =>
    rw [hki] at hxk;have HN := z_ (HSW.o.free hlt (qfQ i) hki);have HLM := z_ HSW.o.1;clear hki;have HQ := z_ (show (i < ms.length) = True from eq_true (by rw [HSW.o.1]; exact hlt))
    go_upto_region 6 with fail
    have sJ := z_ (HCG.o.qbQ (qba (Below.refl wr.heap.size wr)));have k6 := z_ (Below.refl wr.drew.heap.size wr.drew);clear HCG HKr hc0;refine qdv (n := 10) (S := fun w' => True) (ds := []) zArrF10 zdG rfl rfl trivial (fun hHeld => ?_);refine qbU sChg.tab6 sChg.bits6 (fun E2 r8 => ?_);generalize wr.drew = wd at sJ k6 ⊢;refine qer [0, 1, 2, 3, 4, 5, 6, 7, 8, 9] (fun TE b a w' => ∃ (v1 : Value) (v2 : Value) (v3 : Value) (N3 : Value), a = qbH TE b [(0, 35, .pointer (some ⟨g, 0, none⟩)), (1, 36, .pointer (some ⟨g, 0, none⟩)), (2, 37, .pointer (some ⟨g, 0, none⟩)), (3, 38, .pointer (some ⟨g, 0, none⟩)), (4, 39, .slice (some ⟨gn, 0, none⟩) ms.length cn), (5, 40, .int .i64 (i : Int)), (6, 41, .agg #[.bool false, .slice none 0 0, .slice none 0 0, .slice none 0 0]), (7, 42, N3), (8, 43, .pointer (some ⟨gn, i * 4, none⟩))] ∧ (b 9 = false → Below wd.heap.size wd w') ∧ (b 7 = true → b 9 = false → Kd.R k61 61 w' wd.heap.size (fun _ => True) v1 z80.f1) ∧ (b 7 = true → b 9 = false → Kd.R Kd.string 9 w' wd.heap.size (fun _ => True) v2 z80.f2) ∧ (b 7 = true → b 9 = false → Kd.R (Kd.int .i64) 3 w' wd.heap.size (fun _ => True) v3 z80.f3) ∧ (b 9 = true → CgAt w w' g gn cn gu cu gh gr (.slice Ah hs.length ch) (ms.set i z80, keep, false)) ∧ (b 7 = true → (N3 : Value) = .agg #[.bool z80.f0, v1, v2, v3])) E2.o r8.o zdG zdG ?_ ?_ ?_
    ·exact ⟨.bool false, .bool false, .bool false, .bool false, zbB, fun _ => k6.o, fun h_ => absurd h_ zdK, fun h_ => absurd h_ zdK, fun h_ => absurd h_ zdK, fun h_ => absurd h_ zdK, fun h_ => absurd h_ zdK⟩
    ·skip;clear k6;refine zsteps_ rfl ?_ ?_
     ·rintro b a w' ⟨v1, v2, v3, N3, ha, QT⟩ hb_ hon hoff K hK;have e15 : a.tmps[15]? = some (.pointer (some ⟨g, 0, none⟩)) := zcj;replace ha := z_ ha;refine qaT (w1 := w') (v := .pointer (some ⟨g, 0, none⟩)) zdO rfl zci ?_;refine hK.o _ _ ⟨v1, v2, v3, N3, zbJ, QT⟩
     refine zsteps_ rfl ?_ ?_
     ·rintro b a w' ⟨v1, v2, v3, N3, ha, QT⟩ hb_ hon hoff K hK;have e35 : a.tmps[35]? = some (.pointer (some ⟨g, 0, none⟩)) := zon_ ha 0 rfl rfl hon;replace ha := z_ ha;refine qaT (w1 := w') (v := .pointer (some ⟨g, 0, none⟩)) zdO rfl zci ?_;refine hK.o _ _ ⟨v1, v2, v3, N3, zbK, QT⟩
     refine zsteps_ rfl ?_ ?_
     ·rintro b a w' ⟨v1, v2, v3, N3, ha, QT⟩ hb_ hon hoff K hK;have e36 : a.tmps[36]? = some (.pointer (some ⟨g, 0, none⟩)) := zon_ ha 1 rfl rfl hon;replace ha := z_ ha;refine qaT (w1 := w') (v := .pointer (some ⟨g, 0, none⟩)) zdO rfl zci ?_;refine hK.o _ _ ⟨v1, v2, v3, N3, zbL, QT⟩
     refine zsteps_ rfl ?_ ?_
     ·rintro b a w' ⟨v1, v2, v3, N3, ha, QT⟩ hb_ hon hoff K hK;have e37 : a.tmps[37]? = some (.pointer (some ⟨g, 0, none⟩)) := zon_ ha 2 rfl rfl hon;replace ha := z_ ha;refine qaT (w1 := w') (v := .pointer (some ⟨g, 0, none⟩)) zdO rfl zci ?_;refine hK.o _ _ ⟨v1, v2, v3, N3, zbM, QT⟩
     refine zsteps_ rfl ?_ ?_
     ·rintro b a w' ⟨v1, v2, v3, N3, ha, QT⟩ hb_ hon hoff K hK;have e38 : a.tmps[38]? = some (.pointer (some ⟨g, 0, none⟩)) := zon_ ha 3 rfl rfl hon;replace ha := z_ ha;have k6 := z_ (QT.1 (hoff 9 zdG));have yF := qac (sJ.o.qbQ k6.o).bs.blk 0;simp only [List.getElem?_toArray, List.getElem?_cons_zero] at yF;refine qaT (w1 := w') (v := .slice (some ⟨gn, 0, none⟩) ms.length cn) zdO rfl zci ?_;refine hK.o _ _ ⟨v1, v2, v3, N3, zbN, QT⟩
     refine zsteps_ rfl ?_ ?_
     ·rintro b a w' ⟨v1, v2, v3, N3, ha, QT⟩ hb_ hon hoff K hK;have e16 : a.tmps[16]? = some (.int .i64 (i : Int)) := zcj;replace ha := z_ ha;refine qaT (w1 := w') (v := .int .i64 (i : Int)) zdO rfl zci ?_;refine hK.o _ _ ⟨v1, v2, v3, N3, zbO, QT⟩
     refine zsteps_ rfl ?_ ?_
     ·rintro b a w' ⟨v1, v2, v3, N3, ha, QT⟩ hb_ hon hoff K hK;replace ha := z_ ha;refine qaT (w1 := w') (v := .agg #[.bool false, .slice none 0 0, .slice none 0 0, .slice none 0 0]) zdO rfl zci ?_;refine hK.o _ _ ⟨v1, v2, v3, N3, zbP, QT⟩
     refine zsteps_ rfl ?_ ?_
     ·rintro b a w' ⟨v1, v2, v3, N3, ha, H7, Y9, bA, V9, UD, L4⟩ hb_ hon hoff K hK;have e41 : a.tmps[41]? = some (.agg #[.bool false, .slice none 0 0, .slice none 0 0, .slice none 0 0]) := zon_ ha 6 rfl rfl hon;replace ha := z_ ha;have k6 := z_ (H7 (hoff 9 zdG));have hs_ := k6.o.size;refine qfE Tryz.func41 zdG rfl #[.agg #[.bool false, .slice none 0 0, .slice none 0 0, .slice none 0 0]] zdO rfl rfl (by first | (simp only [List.map_toArray, List.map_cons, List.map_nil, Act.eval, Array.getD_eq_getD_getElem?, Option.getD_some, e41]; done) | (simp only [List.map_toArray, List.map_cons, List.map_nil, Act.eval, Array.getD_eq_getD_getElem?, Option.getD_some, e41]; rfl)) ?_;refine (qb3.calls false none 0 [] none 0 [] none 0 [] _ _ _ _ w' (Kd.qjE _ _) (Nat.le_refl _) (Kd.qjE _ _) (Nat.le_refl _) (Kd.qjE _ _) (Nat.le_refl _) (h := HON.o)).mono ?_;rintro e_ DS ⟨ME, bG, CE, rfl, o6, Ga, Zb, hb1⟩;refine ⟨_, rfl, ?_⟩;refine hK.o _ _ ⟨ME, bG, CE, (.agg #[.bool z80.f0, ME, bG, CE]), zbQ, fun _ => qaa k6.o hb1, fun _ _ => Kd.qa3 o6 hs_, fun _ _ => Kd.qa3 Ga hs_, fun _ _ => Kd.qa3 Zb hs_, nf_ (hoff 9 zdG), fun _ => rfl⟩
     refine zsteps_ rfl ?_ ?_
     ·rintro b a w' ⟨v1, v2, v3, N3, ha, QT⟩ hb_ hon hoff K hK;have e39 : a.tmps[39]? = some (.slice (some ⟨gn, 0, none⟩) ms.length cn) := zon_ ha 4 rfl rfl hon;have e40 : a.tmps[40]? = some (.int .i64 (i : Int)) := zon_ ha 5 rfl rfl hon;replace ha := z_ ha;have yd := HQ.o;have Og : (i : Int) < (ms.length : Int) := by have := HLM.o; omega
      refine qaT (w1 := w') (v := .pointer (some ⟨gn, i * 4, none⟩)) zdO rfl zci ?_;refine hK.o _ _ ⟨v1, v2, v3, N3, zbS, QT⟩
     refine zsteps_ rfl ?_ ?_
     ·rintro b a w' ⟨v1, v2, v3, N3, ha, H7, Y9, bA, V9, UD, L4⟩ hb_ hon hoff K hK;have e43 : a.tmps[43]? = some (.pointer (some ⟨gn, i * 4, none⟩)) := zon_ ha 8 rfl rfl hon;have e42 : a.tmps[42]? = some (N3) := zon_ ha 7 rfl rfl hon;rw [L4 (hon 7 zdG)] at e42;replace ha := z_ ha;have k6 := z_ (H7 hb_);have R1 := z_ (Y9 (hon 7 zdG) hb_);have R2 := z_ (bA (hon 7 zdG) hb_);have R3 := z_ (V9 (hon 7 zdG) hb_);obtain ⟨_, lB, XE, _, V5, u6, _, _⟩ := Kd.qeR (sJ.o.qbQ k6.o).bs.nodes z80 (i : Int) zdM (by have h_ := HLM.o; show (i : Int) < (ms.length : Int); omega);obtain ⟨Mg, Hf, Zd, nf, kG⟩ : ∃ y0 y1 y2 y3, lB = [y0, y1, y2, y3] := by have qS : lB.length = 4 := XE; match lB, qS with | [a0, a1, a2, a3], _ => exact ⟨a0, a1, a2, a3, rfl⟩
      subst kG;have bP := V5 0 _ rfl;have g6 := V5 1 _ rfl;have i6 := V5 2 _ rfl;have P9 := V5 3 _ rfl;have O1 := u6 0;have C4 := u6 1;have G7 := u6 2;have R7 := u6 3;simp only [Int.toNat_natCast, show k80.sz = 4 from rfl, Nat.add_zero] at bP g6 i6 P9 O1 C4 G7 R7;have TM := (Kd.qfo R1.o).2;have KL := (Kd.qfo R2.o).2;have jL := (Kd.qfo R3.o).2;have WW : ∀ (a_ : Addr) (m_ : Mode) (W_ : World), (store a_ v1 m_).run Tryz.prog W_ = stored Tryz.prog W_ a_ v1 m_ := fun a_ m_ W_ => run_store _ W_ a_ v1 m_ TM
      have xW : ∀ (a_ : Addr) (m_ : Mode) (W_ : World), (store a_ v2 m_).run Tryz.prog W_ = stored Tryz.prog W_ a_ v2 m_ := fun a_ m_ W_ => run_store _ W_ a_ v2 m_ KL
      have TV : ∀ (a_ : Addr) (m_ : Mode) (W_ : World), (store a_ v3 m_).run Tryz.prog W_ = stored Tryz.prog W_ a_ v3 m_ := fun a_ m_ W_ => run_store _ W_ a_ v3 m_ jL
      refine qgN (w1 := (set4 w' gn (i * 4) (.bool z80.f0) v1 v2 v3)) zdO rfl zdt ?_;refine hK.o _ _ ⟨v1, v2, v3, N3, zbR, fun qB => absurd ((qbG b 9).symm.trans qB) zdK, fun _ o6 => absurd ((qbG b 9).symm.trans o6) zdK, fun _ o6 => absurd ((qbG b 9).symm.trans o6) zdK, fun _ o6 => absurd ((qbG b 9).symm.trans o6) zdK, fun _ => CgAt.store sJ.o k6.o (by have := HLM.o; omega) z80 R1.o R2.o R3.o ⟨TM, KL, jL⟩, L4⟩
     exact qcC
    rintro b a wE hall ⟨v1, v2, v3, N3, ha, H7, Y9, bA, V9, UD, L4⟩;clear k6;have Z4 := hall 0 zdG;have i3 := hall 1 zdG;have J4 := hall 2 zdG;have o4 := hall 3 zdG;have D4 := hall 4 zdG;have Q5 := hall 5 zdG;have H4 := hall 6 zdG;have q7 := hall 7 zdG;have y7 := hall 8 zdG;have i8 := hall 9 zdG;subst ha;obtain rfl := L4 q7;simp only [qbH, Z4, i3, J4, o4, D4, Q5, H4, q7, y7, i8, if_true, Act.put, List.setIfInBounds_toArray, List.set_cons_zero, List.set_cons_succ];clear H7 Y9 bA V9;have CGF := z_ (UD i8);clear UD hall Z4 i3 J4 o4 D4 Q5 H4 q7 y7 i8
    go_wp2_with fail
    go_roundw
    case rel => exact ⟨i + 1, ms.set i z80, zdM, zdL, HN, CGF⟩
    case measure => simp [intOf]; omega
  ·have c1 : decide ((i : Int) < 50) = false := decide_eq_false zdM;have hie : i = 50 := zdM;have HE := z_ (show ms = onlyN hs keep from qh3 HL.o (hie ▸ HSW.o));clear hie hc0 HKr;have he := HE.o;subst he;obtain ⟨b5, hb5⟩ : ∃ b5 : List S80 × List Bool × Bool, b5 = (onlyN hs keep, keep, false) := ⟨_, rfl⟩
   obtain ⟨p0, hp0⟩ : ∃ p0, p0 = if root = -1 then qbA [⟨key, value⟩] b5 else qbk (dopB drop key value) key 21 root.toNat b5 := ⟨_, rfl⟩
   have HSB := z_ (show qbC hs root keep (dopB drop key value) key [⟨key, value⟩] = topsB p0 from by unfold qbC; rw [hp0, hb5]);have QQ := z_ (show b5.1.length = 50 ∧ b5.2.1.length = 50 from by rw [hb5]; exact ⟨qcU _ _, HKL.o⟩);have L3 := z_ hb5;have YP := z_ hp0;have eQ := z_ (show CgAt w wr g gn cn gu cu gh gr (.slice Ah hs.length ch) b5 from hb5 ▸ HCG.o);have HBw := z_ eQ.o.below;clear HCG hb5 hp0 HSW HE hlt
   go_upto_if 46 with ((with_reducible refine qaw (N := 44) rfl ?_); refine Kd.qdr k91 w.heap.size 91 zdO (N := 44) zdO (xs := ([] : List S91)) (inner := []) (ok := fun _ => True) (okp := fun _ => True) zcm ?hp (fun _ hk => hk) trivial HBw.o HBw.o.size zdN ?_; (case hp => exact (Reps.none _ _)); intro v7 w7 ho7 IB j3 K0; have HY7 := z_ (Below.grown (Below.refl _ _) j3 (Nat.le_refl _) (fun k hk => zdH)); clear j3 K0; have ii := z_ ho7; have CQ := z_ IB; clear ho7 IB)
   have tT := z_ (eQ.o.qbQ HY7.o);clear eQ ii HY7 HBw CQ
   go_cut [17] (fun v17 wc => ∃ vl : Value, vl = v17 ∧ Aside0 (Kd.R k91 91 wc w.heap.size (fun _ => True) vl (partL p0.1)) ∧ Aside0 (CgAt w wc g gn cn gu cu gh gr (.slice Ah hs.length ch) p0.2))
   case first =>
    by_cases hr : root = -1
    ·have HPE := z_ (show p0 = qbA [⟨key, value⟩] b5 from by rw [YP.o, if_pos hr]);have hrb : (root == -1) = true := by rw [hr]; rfl
     have HBw := z_ tT.o.below;clear hr
     go_wp2_with ((with_reducible refine qaw (N := 51) rfl ?_); refine Kd.qdr k61 w.heap.size 61 zdO (N := 51) zdO (xs := [(⟨key, value⟩ : S61)]) (inner := [.string key, .string value]) (ok := fun _ => True) (okp := fun _ => True) zcm ?hp (fun _ hk => hk) trivial HBw.o HBw.o.size zdN ?_; (case hp => exact Reps.c2 (qf5 _ _ _ _) (Reps.none _ _)); intro vl wl hol hbl hgl hnl; have HYl := z_ (Below.grown (Below.refl _ _) hgl (Nat.le_refl _) (fun k hk => zdH)); obtain ⟨A8, c8, rfl, ee, _⟩ := Kd.qa4 hol; have tl := z_ hol; have HZ8 := z_ ee; clear hol hbl hgl hnl ee)
     have Ef := z_ (tT.o.qbQ HYl.o);obtain ⟨A9, c9, e9, l9, f9⟩ := qe9 Ef.o.bs tl.o (fun q hq => (neP q hq).1) (fun q hq => (neP q hq).2.1) (fun q hq => (neP q hq).2.2);injection e9 with e9a Ni e9c
     subst e9a;subst e9c;refine (qj0 w wl g gn cn gu cu b5 Ef.o.below Ef.o.bs QQ.o _ (fun k hk => hk.1) A8 c8 _ f9 l9 zdN).mono ?_;rintro e w1 ⟨v, rfl, hv, hb1, hw1, hk1⟩;have YU := z_ (Kd.qa3 hv Ef.o.below.size);have sX := z_ (Ef.o.call hb1 hw1 hk1);rw [← HPE.o] at YU sX;clear hv hb1 hw1 hk1 f9 l9 Ni
     go_wp2_with fail
     go_meet
     case rel => exact ⟨_, rfl, YU, sX⟩
    ·have hrb : (root == -1) = false := beq_eq_false_iff_ne.mpr hr;have hTR := HTR.o.1;obtain ⟨k, hk, hkt, hkn⟩ : ∃ k : Nat, root = (k : Int) ∧ TrD hs d k ps pg ∧ pg.Nodup := by
      rcases hTR with h | h
      ·exact absurd h.1 hr
      ·exact h
     have ht' : TrD b5.1 d k ps pg := by rw [L3.o]; exact qdZ _ _ _ _ (fun i hi => qdN HL.o (HTR.o.2.1 i hi) HKL.o) hkt
     have HPE := z_ (show p0 = qbk (dopB drop key value) key d k b5 from by rw [YP.o, if_neg hr, hk, Int.toNat_natCast]; exact qd0 d k ps pg ht' 21 (by have := HTR.o.2.2; omega));have HT' := z_ ht';subst hk;clear hr hTR hkt hkn ht'
     go_wp2_with fail
     refine (schange key value drop HPUT.o d w _ g gn cn gu cu b5 k ps pg tT.o.below tT.o.bs QQ.o HT'.o).mono ?_;rintro e w1 ⟨v, rfl, hv, hb1, hw1, hk1⟩;have YU := z_ (Kd.qa3 hv tT.o.below.size);have sX := z_ (tT.o.call hb1 hw1 hk1);rw [← HPE.o] at YU sX;clear hv hb1 hw1 hk1
     go_wp2_with fail
     go_meet
     case rel => exact ⟨_, rfl, YU, sX⟩
   case rest =>
    obtain ⟨vl, rfl, HR, HC⟩ := hcut;clear tT;have cY := z_ (show p0.1.length ≤ 2 from by
     rw [YP.o]
     split
     ·exact qeb _ _
     ·exact qdy _ _ _ _ _)
    have om := z_ (show p0.2.1.length = 50 ∧ p0.2.2.1.length = 50 from by
     have hbg : BG b5 p0.2 := by
      rw [YP.o]
      split
      ·exact qdj _ _ _
      ·exact qdC _ _ _ _ _
     exact ⟨hbg.len.trans QQ.o.1, hbg.lenu.trans QQ.o.2⟩)
    have Bn := z_ (show TinyN p0.2.1 from by
     have h5 : TinyN b5.1 := by rw [L3.o]; exact qfS HTN.o
     rw [YP.o]
     split
     ·exact qeG zdN h5
     ·exact qfz (fun l => by
       unfold dopB
       split
       ·have := List.length_filter_le (fun p : S61 => !decide (p.f0.toList = key.toList)) l;unfold dropF;omega
       ·have h_ := qeE l key value
        split at h_ <;> omega) _ _ _ h5)
    go_wp2_with fail
    go_loopw [17] (fun v17 wr => ∃ (vl : Value) (t : Bool), vl = v17 ∧ Aside0 (Kd.R k91 91 wr w.heap.size (fun _ => True) vl (partL (if t = true then topsB p0 else p0).1)) ∧ Aside0 (CgAt w wr g gn cn gu cu gh gr (.slice Ah hs.length ch) (if t = true then topsB p0 else p0).2)) (fun v17 _ => slLen v17)
    case atStart => exact ⟨_, false, rfl, HR, HC⟩
    case round =>
     clear HR HC;obtain ⟨vl, t, rfl, HR, HC⟩ := hrel;obtain ⟨A9, c9, rfl, l9, f9⟩ := qe9 HC.o.bs HR.o nePt.1 nePt.2.1 nePt.2.2;have xY := z_ f9;have Lg := z_ l9;clear l9 f9;have hpl : (partL (if t = true then topsB p0 else p0).1).length = (if t = true then topsB p0 else p0).1.length := List.length_map _
     by_cases hlt : 1 < (if t = true then topsB p0 else p0).1.length
     ·have c1 : decide (1 < ((partL (if t = true then topsB p0 else p0).1).length : Int)) = true := decide_eq_true zdM;have htf : t = false := by
       cases t with
       | false => rfl
       | true => have := qgC cY.o; simp only [if_true] at hlt; omega
      subst htf;simp only [Bool.false_eq_true, if_false] at hlt hpl c1 xY Lg HR HC ⊢;have HTP := z_ (show topsB p0 = qbP p0.1 p0.2 from by unfold topsB; rw [if_pos hlt]);have HHL := z_ hlt;have HHP := z_ hpl;clear hlt hpl
      go_wp2_with fail
      refine (qlS w _ g gn cn gu cu p0.2 HC.o.below HC.o.bs om.o _ (fun k hk => hk.1) A9 c9 p0.1 xY.o Lg.o (by have := cY.o; omega)).mono ?_;rintro e w1 ⟨v, rfl, hv, hb1, hw1, hk1⟩;have YU := z_ (Kd.qa3 hv HC.o.below.size);have sX := z_ (HC.o.call hb1 hw1 hk1);rw [← HTP.o] at YU sX;clear hv hb1 hw1 hk1
      go_wp2_with fail
      go_roundw
      case rel => exact ⟨_, true, rfl, YU, sX⟩
      case measure =>
       obtain ⟨A8, c8, rfl⟩ := Kd.qbO YU.o;have h1 := qgC cY.o;have h2 := HHL.o;have h3 := HHP.o;have h4 : (partL (topsB p0).1).length = (topsB p0).1.length := List.length_map _
       show (partL (topsB p0).1).length < (partL p0.1).length
       omega
     ·have c1 : decide (1 < ((partL (if t = true then topsB p0 else p0).1).length : Int)) = false := decide_eq_false zdM;have hq : (if t = true then topsB p0 else p0) = topsB p0 := by
       cases t with
       | true => rfl
       | false =>
        simp only [Bool.false_eq_true, if_false] at hlt ⊢;unfold topsB;rw [if_neg hlt]
      rw [hq] at HR HC xY Lg c1 hpl hlt ⊢;rw [← HSB.o] at HR HC xY Lg c1 hpl hlt ⊢;obtain ⟨q, hqq⟩ : ∃ q, q = qbC hs root keep (dopB drop key value) key [⟨key, value⟩] := ⟨_, rfl⟩
      rw [← hqq] at HR HC xY Lg c1 hpl hlt ⊢;have HQQ := z_ hqq;have hqt : q = topsB p0 := hqq.trans HSB.o;have HLQ := z_ (show q.2.1.length = 50 ∧ q.2.2.1.length = 50 from by
       have hbg := qeH p0;rw [hqt];exact ⟨hbg.len.trans om.o.1, hbg.lenu.trans om.o.2⟩)
      have HTQ := z_ (show TinyN q.2.1 from by rw [hqt]; exact qhe cY.o Bn.o);have HPG := z_ (show ∀ k, k < w.heap.size → k ≠ gn from fun k hk e => by
       have := Kd.qgf HC.o.bs.nodes gn (qbT _ _ _);omega)
      clear hqt;have HQ1 := z_ hlt;have HPL := z_ hpl;clear hqq hq hlt hpl;have d0 := qac HC.o.bs.blk 0;have d2 := qac HC.o.bs.blk 2;have dh := qac HC.o.boxh 0;have dr := qac HC.o.boxr 0;have fr := qau HC.o.boxr 0;simp only [List.getElem?_toArray, List.getElem?_cons_zero, List.getElem?_cons_succ] at d0 d2 dh dr
      cases hful : q.2.2.2 with
      | true =>
       rw [hful] at d2;have HE := z_ (show qbr hs root keep (dopB drop key value) key [⟨key, value⟩] = (hs, root, false) from by unfold qbr; rw [← HQQ.o, if_pos hful]);clear hful
       go_wp2_with fail
       refine bodyPost_ret (qbR rfl _ _ gr 29 #[.slice Ah hs.length ch] (0, 0) _ rfl (qaX (cs := #[.slice none 0 0]) HC.o.boxr 0 _ rfl) Tryz.underlying29 rfl zdG) rfl ?_;rw [HE.o];exact ⟨_, rfl, fun _ => rfl, (fun h => zdJ), HC.o.below.setCell (p := ⟨gr, 0, none⟩) HC.o.ge _⟩
      | false =>
       rw [hful] at d2;have hch : qbr hs root keep (dopB drop key value) key [⟨key, value⟩] = (onlyN q.2.1 (orW keep (walkR q.2.1 (rootOf q)).2.1), rootOf q, true) := by unfold qbr; rw [← HQQ.o, if_neg (by rw [hful]; decide)]
       have HE := z_ hch;have HB2 := z_ (HBT.o (by rw [← HQQ.o]; exact hful));rw [← HQQ.o] at HB2;clear hful hch;have hqd : q.1 = [] ∨ ∃ m0 mr, q.1 = m0 :: mr := by
        cases q.1 with
        | nil => exact .inl rfl
        | cons m0 mr => exact .inr ⟨m0, mr, rfl⟩
       rcases hqd with hq1 | ⟨m0, mr, hq1⟩
       ·skip;have hz : (partL q.1).length = 0 := by rw [hq1]; rfl
        have HRT := z_ (show rootOf q = -1 from zcW);have c3 : (((partL q.1).length : Int) == 0) = true := by rw [hz]; rfl
        have HCx := HC;clear hz hq1 dh dr fr
        go_wp2_with fail
        refine (sswept w _ gn cn q.2.1 keep (-1) HCx.o.below HCx.o.bs.nodes HLQ.o.1 (qdD HTQ.o) Ak ck (fun k => k < w.heap.size) HPG.o (Kd.qbF HKF.o HCx.o.below) HKL.o HKC.o).mono ?_;rintro e w1 ⟨rfl, hS, hw1, hk1⟩;have pU := z_ hS;have Dd := z_ hw1;have MV := z_ ((hk1.2 gr (qbo HCx.o.boxr) (qiA HCx.o.bs.nodes HCx.o.boxr zdK)).trans HCx.o.boxr);have Eo := qac MV.o 0;have fr9 := qau MV.o 0;simp only [List.getElem?_toArray, List.getElem?_cons_zero] at Eo;clear hS hw1 hk1
        go_wp2_with fail
        refine bodyPost_ret (qbR rfl _ _ gr 29 #[.slice (some ⟨gn, 0, none⟩) q.2.1.length cn] (0, 0) _ rfl (qaX (cs := #[.slice none 0 0]) MV.o 0 _ rfl) Tryz.underlying29 rfl zdG) rfl ?_;rw [HE.o, HRT.o];exact ⟨_, rfl, (fun h => zdJ), (fun _ => Kd.qfY pU.o MV.o qgx 0 _), Dd.o.setCell (p := ⟨gr, 0, none⟩) HCx.o.ge _⟩
       ·skip;have hz : 0 < (partL q.1).length := by rw [hq1]; simp [partL]
        have HRT := z_ (show rootOf q = (qcj q.2.1 22 m0.2 : Int) from zcW);have c3 : (((partL q.1).length : Int) == 0) = false := beq_eq_false_iff_ne.mpr zdM;obtain ⟨e1, ps1, lY, he1, hpd⟩ := HB2.o;rw [hq1] at hpd;obtain ⟨p1, p2, g1, g2, _, _, ht1, _, _⟩ := hpd;have HT1 := z_ ht1;have ef := z_ he1;obtain ⟨Tk, rfl, _, rQ⟩ := qhV (Kd.qcT xY.o) 0 zdK zdM;have e9 : (qde (partL q.1) 0).f1 = (m0.2 : Int) := by rw [hq1]; rfl
        rw [e9] at rQ;replace rQ : wr.cell? ⟨Tk.block, Tk.off + 1, none⟩ = some (.int .i64 (m0.2 : Int)) := by simpa [Addr.add] using rQ
        have z9 : (0 < (partL q.1).length) = True := eq_true hz;have z8 : ((partL q.1) = []) = False := by
         simp only [eq_iff_iff, iff_false];intro e_;rw [e_] at hz;exact absurd hz zdK
        clear hz hq1 ht1 he1 e9
        go_upto_block 4 with fail
        go_cut [18] (fun v18 wc => v18 = .int .i64 (rootOf q) ∧ Aside0 (Below wr.heap.size wr wc))
        case first =>
         go_wp2_with fail
         go_loopg [18] 22 (fun kq v18 wx => ∃ (kc d' : Nat) (p' : List S61) (g' : List Nat), v18 = .int .i64 (kc : Int) ∧ Aside0 (TrD q.2.1 d' kc p' g' ∧ d' ≤ kq ∧ kq ≤ 22 ∧ rootOf q = (qcj q.2.1 kq kc : Int)) ∧ Aside0 (Below wr.heap.size wr wx))
         case atStart => exact ⟨m0.2, e1, p1, g1, rfl, ⟨HT1.o, ef.o, Nat.le_refl _, HRT.o⟩, ⟨Below.refl _ _⟩⟩
         case round =>
          obtain ⟨kc, d', p', g', rfl, eJ, HO⟩ := hrel;have HCr := z_ (HC.o.qbQ HO.o);clear d0 d2 dh dr fr rQ xY
          cases gk with
          | zero =>
           exfalso
           have h1 := eJ.o.1;have h2 := eJ.o.2.1;obtain rfl : d' = 0 := zdM;exact h1
          | succ k1 =>
           obtain ⟨d1, rfl⟩ : ∃ d1, d' = d1 + 1 := by
            cases d' with
            | zero => exact absurd eJ.o.1 id
            | succ d1 => exact ⟨d1, rfl⟩
           obtain ⟨x, hx, hnb, hfb, hcase⟩ := eJ.o.1;have hgd : q.2.1.getD kc z80 = x := by rw [List.getD_eq_getElem?_getD, hx]; rfl
           have hkl : kc < q.2.1.length := by
            rcases Nat.lt_or_ge kc q.2.1.length with h2 | h2
            ·exact h2
            ·rw [List.getElem?_eq_none h2] at hx; cases hx
           obtain ⟨B1, b1, B2, b2, B3, b3, hcl, _, _, hr3⟩ := HCr.o.bs.node hx;obtain ⟨bP, _, _, P9⟩ := hcl;have d0 := qac HCr.o.bs.blk 0;simp only [List.getElem?_toArray, List.getElem?_cons_zero] at d0;have p1 : (0 : Int) ≤ (kc : Int) := zdM;have q1 : (kc : Int) < (q.2.1.length : Int) := zdM;have HGD := z_ hgd;have HNB := z_ (And.intro hnb hfb);have HCS := z_ hcase;have HR3 := z_ hr3.2;clear hx hgd hkl hnb hfb hcase hr3
           cases hx0 : x.f0 with
           | true =>
            rw [hx0] at bP;have HRQ := z_ (show rootOf q = (kc : Int) from by
             rw [eJ.o.2.2.2];unfold qcj;rw [HGD.o, hx0, if_neg (fun h => by cases h.1)])
            clear hx0
            go_wp2_with fail
            go_meet
            case rel => exact ⟨by rw [HRQ.o], HO⟩
           | false =>
            rw [hx0] at bP
            by_cases h1 : x.f3.length = 1
            ·have c4 : ((x.f3.length : Int) == 1) = true := by rw [h1]; rfl
             have hPN := qcW HNB.o.1 HNB.o.2 hx0;have hpd : ∃ pg', PD (TrD q.2.1 d1) (partsOf x) p' pg' := by
              rcases HCS.o with h | h
              ·rw [hx0] at h; cases h.1
              ·exact ⟨_, h.2.choose_spec.2⟩
             have hp0 : 0 < (partsOf x).length := zdM;obtain ⟨p3, g3, aY⟩ := qlI _ _ _ 0 hp0 hpd.choose_spec;have hrk : rd x.f3 0 = (((partsOf x)[0]'hp0).2 : Int) := by
              have e := hPN.1;unfold rd;rw [Int.toNat_zero, e, List.getD_eq_getElem?_getD, List.getElem?_map, List.getElem?_eq_getElem hp0];rfl
             obtain ⟨gH, rfl, hk3⟩ := Kd.qdu (Kd.qcT HR3.o) 0 zdK zdM;rw [hrk] at hk3;replace hk3 : wr.cell? gH = some (.int .i64 (((partsOf x)[0]'hp0).2 : Int)) := by simpa [Addr.add] using hk3
             have fm := z_ (show TrD q.2.1 d1 ((partsOf x)[0]'hp0).2 p3 g3 ∧ d1 ≤ k1 ∧ k1 ≤ 22 ∧ rootOf q = (qcj q.2.1 k1 ((partsOf x)[0]'hp0).2 : Int) from by
              have h2 := eJ.o.2.1;have h3 := eJ.o.2.2.1;refine ⟨aY, zdM, zdM, ?_⟩;rw [eJ.o.2.2.2]
              conv => lhs; unfold qcj
              rw [HGD.o, if_pos ⟨hx0, h1⟩, hrk, Int.toNat_natCast])
             have z6 : (0 < x.f3.length) = True := eq_true zdM;have z7 : (x.f3 = []) = False := by
              simp only [eq_iff_iff, iff_false];intro e_;rw [e_] at h1
              cases h1
             clear hPN hpd aY hrk h1 hx0
             go_wp2_with fail
             go_roundg k1
             case measure => omega
             case rel => exact ⟨_, d1, p3, g3, rfl, fm, HO⟩
            ·have c4 : ((x.f3.length : Int) == 1) = false := beq_eq_false_iff_ne.mpr zdM;have HRQ := z_ (show rootOf q = (kc : Int) from by
              rw [eJ.o.2.2.2];unfold qcj;rw [HGD.o, if_neg (fun h => h1 h.2)])
             clear hx0 h1
             go_wp2_with fail
             go_meet
             case rel => exact ⟨by rw [HRQ.o], HO⟩
        case rest =>
         obtain ⟨rfl, HY⟩ := hcut;have HCx := z_ (HC.o.qbQ HY.o);have d09 := qac HCx.o.bs.blk 0;simp only [List.getElem?_toArray, List.getElem?_cons_zero] at d09;clear HRT d0 d2 dh dr fr rQ xY
         go_wp2_with fail
         refine (sswept w _ gn cn q.2.1 keep (rootOf q) HCx.o.below HCx.o.bs.nodes HLQ.o.1 (qdD HTQ.o) Ak ck (fun k => k < w.heap.size) HPG.o (Kd.qbF HKF.o HCx.o.below) HKL.o HKC.o).mono ?_;rintro e w1 ⟨rfl, hS, hw1, hk1⟩;have pU := z_ hS;have Dd := z_ hw1;have MV := z_ ((hk1.2 gr (qbo HCx.o.boxr) (qiA HCx.o.bs.nodes HCx.o.boxr zdK)).trans HCx.o.boxr);have Eo := qac MV.o 0;have fr9 := qau MV.o 0;simp only [List.getElem?_toArray, List.getElem?_cons_zero] at Eo;clear hS hw1 hk1
         go_wp2_with fail
         refine bodyPost_ret (qbR rfl _ _ gr 29 #[.slice (some ⟨gn, 0, none⟩) q.2.1.length cn] (0, 0) _ rfl (qaX (cs := #[.slice none 0 0]) MV.o 0 _ rfl) Tryz.underlying29 rfl zdG) rfl ?_;rw [HE.o];exact ⟨_, rfl, (fun h => zdJ), (fun _ => Kd.qfY pU.o MV.o qgx 0 _), Dd.o.setCell (p := ⟨gr, 0, none⟩) HCx.o.ge _⟩
def qey (us : List Bool) (i : Nat) (fl : List Bool) : Prop := fl.length = 50 ∧ ∀ j, j < 50 → fl.getD j false = (decide (j < i) && !us.getD j false)
theorem qey.zero (us : List Bool) : qey us 0 (List.replicate 50 false) := ⟨List.length_replicate .., fun j hj => by rw [List.getD_eq_getElem?_getD, List.getElem?_replicate, if_pos hj]; simp⟩
theorem qey.keep {us fl : List Bool} {i : Nat} (h : qey us i fl) (hu : us.getD i false = true) : qey us (i + 1) fl := by
 refine ⟨h.1, fun j hj => ?_⟩;rw [h.2 j hj]
 by_cases e : j = i
 ·subst e; rw [hu]; simp
 ·have : decide (j < i + 1) = decide (j < i) := by rw [decide_eq_decide]; omega
  rw [this]
theorem qey.free {us fl : List Bool} {i : Nat} (h : qey us i fl) (hi : i < 50) (hu : us.getD i false = false) : qey us (i + 1) (fl.set i true) := by
 refine ⟨zcH, fun j hj => ?_⟩
 by_cases e : j = i
 ·subst e;rw [List.getD_eq_getElem?_getD, List.getElem?_set_self zdp, hu];simp
 ·have h1 := h.2 j hj;rw [List.getD_eq_getElem?_getD] at h1 ⊢;rw [List.getElem?_set_ne zdM, h1];have : decide (j < i + 1) = decide (j < i) := by rw [decide_eq_decide]; omega
  rw [this]
theorem qey.all {us fl : List Bool} (hu : us.length = 50) (h : qey us 50 fl) : fl = us.map (!·) := by
 refine List.ext_getElem? fun j => ?_
 by_cases hj : j < 50
 ·have h1 := h.2 j hj;rw [List.getD_eq_getElem?_getD, List.getD_eq_getElem?_getD, decide_eq_true hj, Bool.true_and, List.getElem?_eq_getElem zdp, List.getElem?_eq_getElem (by rw [hu]; exact hj)] at h1;rw [List.getElem?_map, List.getElem?_eq_getElem zdp, List.getElem?_eq_getElem (by rw [hu]; exact hj)];exact congrArg some h1
 ·rw [List.getElem?_eq_none (by rw [h.1]; omega), List.getElem?_eq_none (by rw [List.length_map, hu]; omega)]
theorem cclear (Q : Nat → Prop) (w0 w : World) (gn cn : Nat) (ns : List S80) (hB : Below w0.heap.size w0 w) (hS : Kd.S k80 80 w w0.heap.size Q (.slice (some ⟨gn, 0, none⟩) ns.length cn) ns) (hl : ns.length = 50) (hsm : qcG ns = true) (A : Option Addr) (c : Nat) (rs : List Int) (hr : Kd.C (Kd.int .i64) w A rs.length rs) (hc : rs.length ≤ c) (hrl : rs.length ≤ 1000000) (hok : ∀ r, r ∈ rs → (walkR ns r).2.2 = true) :
  Calls Tryz.prog 83 #[.agg #[.slice (some ⟨gn, 0, none⟩) ns.length cn], .slice A rs.length c] w fun e w' => ∃ v, e = .returned v ∧ Kd.R Kd.bool 4 w' w.heap.size (fun _ => True) v ((qbx ns rs).map (!·)) ∧ Kd.S k80 80 w' w0.heap.size Q (.slice (some ⟨gn, 0, none⟩) ns.length cn) (onlyN ns (qbx ns rs)) ∧ Below w0.heap.size w0 w' ∧ Kept w w' (fun k => k = gn) := by
 have huh := Tryz.underlying29;have hun := Tryz.underlying80;have hub := Tryz.underlying42;obtain ⟨gb, hgb⟩ : ∃ gb, gb = w.heap.size := ⟨_, rfl⟩
 obtain ⟨W1, hW1⟩ : ∃ W1, W1 = w.alloc (Obj.cells #[.slice (some ⟨gn, 0, none⟩) ns.length cn] 29 (0, 0)) := ⟨_, rfl⟩
 have LE : Below w.heap.size w W1 := zbU;have oU := z_ (show W1.heap[gb]? = some (.cells #[.slice (some ⟨gn, 0, none⟩) ns.length cn] 29 (0, 0)) from zcD);have o8 := z_ LE;have rJ := z_ (Kd.qaO hS LE);have HB1 := z_ (qaa hB LE);have HR1 := z_ (Kd.qar hr LE);have HLL := z_ (And.intro hl (And.intro hc hrl));have HPG := z_ (show qex.f ns rs = some (qbx ns rs) from if_pos ⟨hsm, hrl, hok⟩);have HGN := z_ (show gn < w.heap.size ∧ w0.heap.size ≤ gn from ⟨by obtain ⟨z, hz⟩ := Kd.qcL hS gn (qbT _ _ _); exact qbo hz, Kd.qgf hS gn (qbT _ _ _)⟩);have HGB := z_ (show gb = w.heap.size from hgb);have HW0 := z_ hB.size;clear hS hB hr hc hrl hl hsm hok LE
 go_enter Tryz.func83, Tryz.ntmps83
 go_upto_region 1 with fail
 rw [← hW1, ← hgb];clear hW1 hgb
 go_wp2_with ((with_reducible refine qaw (N := 8) rfl ?_); refine Kd.qgH Kd.bool (w0 := w) w.heap.size 4 rfl (N := 8) rfl 42 _ _ rfl 50 rfl rfl Tryz.underlying42 (.bool false) 1 info4 rfl zdK zdM false (ok := fun _ => True) (okp := fun _ => True) rfl (fun _ hk => hk) trivial zdM zdK o8.o o8.o.size ?_; intro v1 w2 ho1 hb1 hg1 hn1; obtain ⟨gf, cf, rfl, Kf, Yg, _⟩ := Kd.qcS ho1 zdN; have HFL := z_ ho1; have HB2 := z_ hb1; have HW2 := z_ (Below.grown (Below.refl W1.heap.size W1) hg1 (Nat.le_refl _) (fun k hk => zdH)); have HGF := z_ (And.intro Kf Yg); clear ho1 hb1 hg1 hn1 Kf Yg; have d0 := qac (qab oU.o HW2.o) 0; simp only [List.getElem?_toArray, List.getElem?_cons_zero] at d0)
 refine (qex.calls (some ⟨gn, 0, none⟩) cn ns A c rs (qbx ns rs) w2 (Kd.qbn (Kd.qaO rJ.o HW2.o)).2.2 (Kd.qbn rJ.o).2.1 (Kd.qar HR1.o HW2.o) HLL.o.2.1 HPG.o).mono ?_;obtain ⟨us, hus⟩ : ∃ us, us = qbx ns rs := ⟨_, rfl⟩
 rw [← hus];have HUL := z_ (show us.length = 50 from by rw [hus]; exact qdR _ _);have HUE := z_ hus;clear hus;rintro e w3 ⟨v3, rfl, dC, hb3⟩;obtain ⟨Au, cu, rfl, _, _⟩ := Kd.qa4 dC;have GQ := z_ (Kd.qaO (Kd.qaO rJ.o HW2.o) hb3);have HB3 := z_ (qaa (qaa HB1.o HW2.o) hb3);have cC := z_ (qab (qab oU.o HW2.o) hb3);have Hc := z_ (Kd.qa7 HFL.o hb3);have HUF := z_ (show Kd.F Kd.bool w3 (fun k => ¬ S3 gn gn gf k) Au us.length us from Kd.qci (qfd dC) (fun k hk e => by
  have h1 := HGF.o;have h2 := HGN.o.1;have h3 := o8.o.size;have h4 := HW2.o.size
  rcases e with e | e | e <;> omega))
 have EB := z_ (show Kept w w3 (S3 gn gn gn) from (Kept.of_below (qaa (qaa o8.o HW2.o) hb3) (S3 gn gn gn)));have HFN := z_ (show gf ≠ gn ∧ w.heap.size ≤ gf from by have := HGF.o; have := HGN.o.1; have := o8.o.size; omega);have HUX := Hc;clear dC hb3 rJ HB1 oU o8 HFL HB2 HW2 HGF HR1 d0
 go_wp2_with fail
 go_loopw [13] (fun v13 wr => ∃ (i : Nat) (ms : List S80) (fl : List Bool), i ≤ 50 ∧ v13 = .int .i64 (i : Int) ∧ Aside0 (qc7 ns noneW us i ms) ∧ Aside0 (qey us i fl) ∧ Aside0 (Kd.S k80 80 wr w0.heap.size Q (.slice (some ⟨gn, 0, none⟩) ns.length cn) ms) ∧ Aside0 (Kd.R Kd.bool 4 wr w.heap.size (fun _ => True) (.slice (some ⟨gf, 0, none⟩) (List.replicate (50 : Int).toNat false).length cf) fl) ∧ Aside0 (Below w0.heap.size w0 wr) ∧ Aside0 (Kept w3 wr (S3 gn gn gf))) (fun v13 _ => 50 - (intOf v13).toNat)
 case atStart => exact ⟨0, ns, _, Nat.zero_le _, rfl, ⟨qc7.zero HLL.o.1⟩, ⟨qey.zero us⟩, GQ, Hc, HB3, ⟨Kept.refl _ _⟩⟩
 case round =>
  clear GQ Hc HB3;obtain ⟨i, ms, fl, hi, rfl, HSW, HFT, HS, HFL, HB, HK⟩ := hrel;have HXr := z_ ((HK.o.2 gb (qbo cC.o) (fun e => by have h1 := HGB.o; have h2 := HGN.o.1; rcases e with e | e | e <;> first | omega | exact qb9 cC.o (Kd.qcZ HUX.o gf (qbT _ _ _)).choose_spec zdK e)).trans cC.o);have dh := qac HXr.o 0;simp only [List.getElem?_toArray, List.getElem?_cons_zero] at dh
  by_cases hlt : i < 50
  ·have c1 : decide ((i : Int) < (us.length : Int)) = true := decide_eq_true zda;have w2 : IntKind.i64.wrap ((i : Int) + 1) = (i : Int) + 1 := zcK;have p1 : (0 : Int) ≤ (i : Int) := zdM;have q1 : (i : Int) < (us.length : Int) := zda;obtain ⟨adk, rfl, hxk⟩ := Kd.qfW (Kd.qcT (Kd.qd2 HUF.o HK.o (fun k hk => hk))) (i : Int) p1 q1;rw [Int.toNat_natCast, qdL] at hxk
   cases hki : us.getD i false with
   | true =>
    rw [hki] at hxk;have HN := z_ (HSW.o.keep (.inr hki));have HM := z_ (HFT.o.keep hki);clear hki dh
    go_wp2_with fail
    go_roundw
    case rel => exact ⟨i + 1, ms, fl, zdM, zdL, HN, HM, HS, HFL, HB, HK⟩
    case measure => simp [intOf]; omega
   | false =>
    rw [hki] at hxk;have HN := z_ (HSW.o.free hlt (qfQ i) hki);have HM := z_ (HFT.o.free hlt hki);have HML := z_ (show ms.length = 50 from HSW.o.1);have HSB := z_ (show Kd.S k80 80 wr w0.heap.size (fun k => k < wr.heap.size ∧ Q k) (.slice (some ⟨gn, 0, none⟩) ns.length cn) ms from Kd.qbZ (Kd.qcr HS.o) (fun k hk => ⟨hk.2.2.1, hk.1⟩));obtain ⟨_, lB, XE, _, V5, u6, _, _⟩ := Kd.qeR HSB.o z80 (i : Int) zdM zcT;obtain ⟨Mg, Hf, Zd, nf, kG⟩ : ∃ y0 y1 y2 y3, lB = [y0, y1, y2, y3] := by
     have qS : lB.length = 4 := XE
     match lB, qS with
     | [a0, a1, a2, a3], _ => exact ⟨a0, a1, a2, a3, rfl⟩
    subst kG;have bP := V5 0 _ rfl;have g6 := V5 1 _ rfl;have i6 := V5 2 _ rfl;have P9 := V5 3 _ rfl;have O1 := u6 0;have C4 := u6 1;have G7 := u6 2;have R7 := u6 3;simp only [Int.toNat_natCast, show k80.sz = 4 from rfl, Nat.add_zero] at bP g6 i6 P9 O1 C4 G7 R7;obtain ⟨x0_, x1_⟩ := Kd.qc9 false HFL.o (i : Int) zdM zdF;rw [Int.toNat_natCast] at x0_ x1_;have hfn := HFN.o.1;have hfn2 := hfn.symm;have q5 : (i : Int) < (50 : Int) := zdM;have q6 : (i : Int) < (ns.length : Int) := zcT;obtain ⟨W5, AO⟩ : ∃ W5, W5 = (set4 wr gn (i * 4) (.bool z80.f0) (.slice none 0 0) (.slice none 0 0) (.slice none 0 0)).setCell ⟨gf, i, none⟩ (.bool true) := ⟨_, rfl⟩
    have SG := z_ (show Kd.S k80 80 W5 w0.heap.size Q (.slice (some ⟨gn, 0, none⟩) ns.length cn) (ms.set i z80) from by
     have h1 := S_putQ HSB.o (i := i) zcT z80 (v1 := .slice none 0 0) (v2 := .slice none 0 0) (v3 := .slice none 0 0) (Kd.qdW _ _ _ _ _) (Kd.qdW _ _ _ _ _) (Kd.qdW _ _ _ _ _) HB.o.size ⟨rfl, rfl, rfl⟩;have h2 := qfI (g := gn) (o := i * 4) (Kd.qdH rfl HFL.o) (fun k hk => zbm) (.bool z80.f0) (.slice none 0 0) (.slice none 0 0) (.slice none 0 0);obtain ⟨z, hz⟩ := Kd.qcZ h2 gf (qbT _ _ _);rw [AO];exact Kd.qbZ (Kd.qgQ (p := ⟨gf, i, none⟩) (Kd.qd7 h1 hz ne_tN) (fun k hk => hk.2) _) (fun k hk => hk.1))
    have pd := z_ (show Kd.R Kd.bool 4 W5 w.heap.size (fun _ => True) (.slice (some ⟨gf, 0, none⟩) (List.replicate (50 : Int).toNat false).length cf) (fl.set i true) from by
     have h2 := Kd.qaU (qfI (g := gn) (o := i * 4) (Kd.qdH rfl HFL.o) (fun k hk => zbm) (.bool z80.f0) (.slice none 0 0) (.slice none 0 0) (.slice none 0 0)) (fun _ _ => (trivial : True));have h3 := Kd.qgJ h2 (i : Int) true;rw [Int.toNat_natCast] at h3;rw [AO];exact h3)
    have L3 := z_ (show Below w0.heap.size w0 W5 from by rw [AO]; exact (qgl HB.o HGN.o.2 _ _ _ _).setCell (p := ⟨gf, i, none⟩) (by have := HFN.o.2; have := HW0.o; show w0.heap.size ≤ gf; omega) _);have bE := z_ (show Kept w3 W5 (S3 gn gn gf) from by rw [AO]; exact qdI (kept4 HK.o _ _ _ _) (p := ⟨gf, i, none⟩) (.inr (.inr rfl)) _);clear hki XE V5 u6 HS HFL HB HK HSB;subst AO
    go_wp2_with fail
    go_roundw
    case rel => exact ⟨i + 1, ms.set i z80, fl.set i true, zdM, zdL, HN, HM, SG, pd, L3, bE⟩
    case measure => simp [intOf]; omega
  ·have c1 : decide ((i : Int) < (us.length : Int)) = false := decide_eq_false zda;have hz : (i < us.length) = False := eq_false zda;have hie : i = 50 := zdM;have HE := z_ (show ms = onlyN ns us from qh3 HLL.o.1 (hie ▸ HSW.o));have HE2 := z_ (show fl = us.map (!·) from qey.all HUL.o (hie ▸ HFT.o));clear hie dh
   go_wp2_with fail
   go_ret
   refine ⟨_, rfl, by rw [← HUE.o, ← HE2.o]; exact HFL.o, by rw [← HUE.o, ← HE.o]; exact HS.o, HB.o, ⟨Nat.le_trans EB.o.1 HK.o.1, fun k hk hn => ?_⟩⟩;exact (HK.o.2 k (Nat.lt_of_lt_of_le hk EB.o.1) (fun e => by
    have h1 := HFN.o.2
    rcases e with e | e | e
    ·exact hn e
    ·exact hn e
    ·omega)).trans (EB.o.2 k hk (fun e => by rcases e with e | e | e <;> exact hn e))
theorem cgrow (n : Nat) (hn : n ≤ 1000) (w : World) : Calls Tryz.prog 115 #[.slice none 0 0, .int .i64 (n : Int)] w fun e w' => ∃ v, e = .returned v ∧ Kd.R (Kd.int .i64) 3 w' w.heap.size (fun _ => True) v [] ∧ Below w.heap.size w w' := by
 have hu := Tryz.underlying25;have c0 : decide ((n : Int) < 0) = false := decide_eq_false zdM;have cw : wrap64 (n : Int) = (n : Int) := zdn;have cz : (n : Int) - 0 = (n : Int) := zdM
 go_enter Tryz.func115, Tryz.ntmps115
 by_cases h0 : 0 < n
 ·have c1 : decide (0 < (n : Int)) = true := decide_eq_true zdM;have c2 : decide ((n : Int) > 0) = true := decide_eq_true zdM
  go_wp2_with ((with_reducible refine qbS (b := .append) (xs := #[.tmp 20, .tmp 21]) rfl ?_); at_builtin; refine Kd.qhz (Kd.int .i64) (w0 := w) w.heap.size rfl (.tmp 20) (.tmp 21) 25 3 3 (.int .i64 0) 8 rfl Tryz.underlying25 Tryz.underlying3 info3 rfl zdK zdM (.slice none 0 0) [] 0 (n : Int) (fun _ => True) rfl rfl ?aZ (fun _ _ => trivial) (Kd.qdW _ _ _ _ _) zdM (Below.refl _ _) (Nat.le_refl _) ?aL ?_; (case aZ => exact rfl); (case aL => simp only [List.length_nil, Int.toNat_natCast]; omega); intro v1 w1 ho hb hg hat; obtain ⟨A1, c1, rfl, hl1, _⟩ := Kd.qa4 ho; have HO := z_ ho; have HB := z_ hb; clear ho hb hg hat)
  go_ret
  exact ⟨_, rfl, Kd.R_take HO.o (Nat.zero_le _), HB.o⟩
 ·have c1 : decide (0 < (n : Int)) = false := decide_eq_false zdM;have c2 : decide ((n : Int) > 0) = false := decide_eq_false zdM
  go_wp2_with fail
  go_ret
  exact ⟨_, rfl, Kd.qdW _ _ _ _ _, Below.refl _ _⟩
theorem qhj {ps : List (List Int)} {j : Nat} (h : j < ps.length) : (ps.take (j + 1)).flatten = (ps.take j).flatten ++ ps[j] := by
 rw [List.take_succ_eq_append_getElem h, List.flatten_append];simp
theorem qlW (ps : List (List Int)) (j : Nat) : (ps.take j).flatten.length ≤ ps.flatten.length := by
 have e : ps.flatten = (ps.take j).flatten ++ (ps.drop j).flatten := by rw [← List.flatten_append, List.take_append_drop]
 rw [e, List.length_append];omega
theorem cconcat (w : World) (A : Option Addr) (c : Nat) (ps : List (List Int)) (base : Nat) (ok : Nat → Prop) (hN : Kd.N (Kd.slice 3 (Kd.int .i64)) 25 w base ok (.slice A ps.length c) ps) (hl : ps.length ≤ 10) (hs : ps.flatten.length ≤ 1000) :
  Calls Tryz.prog 103 #[.slice A ps.length c] w fun e w' => ∃ v, e = .returned v ∧ Kd.R (Kd.int .i64) 3 w' w.heap.size (fun _ => True) v ps.flatten ∧ Below w.heap.size w w' := by
 have hu := Tryz.underlying25;have HN := z_ hN;have HS := z_ hs;have HL := z_ hl;clear hN hs hl
 go_enter Tryz.func103, Tryz.ntmps103
 go_wp2_with fail
 go_loopw [3, 11] (fun v3 v11 wr => ∃ j : Nat, j ≤ ps.length ∧ v3 = .int .i64 (((ps.take j).flatten.length : Nat) : Int) ∧ v11 = .int .i64 (j : Int) ∧ Aside0 (Below w.heap.size w wr)) (fun _ v11 _ => ps.length - (intOf v11).toNat)
 case atStart => exact ⟨0, Nat.zero_le _, rfl, rfl, ⟨Below.refl _ _⟩⟩
 case round =>
  obtain ⟨j, hj, rfl, rfl, HB⟩ := hrel;have Hd := z_ (Kd.qf0 HN.o HB.o)
  by_cases hlt : j < ps.length
  ·have k1 : decide ((j : Int) < (ps.length : Int)) = true := decide_eq_true zdM;have kw : IntKind.i64.wrap ((j : Int) + 1) = (j : Int) + 1 := by rw [IntKind.wrap_i64]; have := HL.o; omega
   have kp : (0 : Int) ≤ (j : Int) := zdM;have kq : (j : Int) < (ps.length : Int) := zdM;obtain ⟨gp, cp2, e1, _, _⟩ := Kd.qi1 Hd.o zdM;injection e1 with e1 e2 e3
   subst e1 e3;obtain ⟨cc, hcl, hFK, hcc, _⟩ := Kd.qkg Hd.o [] (j : Int) kp kq;obtain ⟨A3, c3, rfl, hle3, VK⟩ := Kd.qd3 hFK;have hx := hcc 0 _ rfl;have HEL := z_ (show ps.getD (j : Int).toNat [] = ps[j] from by rw [Int.toNat_natCast, List.getD_eq_getElem?_getD, List.getElem?_eq_getElem hlt]; rfl);rw [HEL.o] at hx;have h1 := qlW ps (j + 1);rw [qhj hlt, List.length_append] at h1;have h2 := HS.o;obtain ⟨a, ha⟩ : ∃ a, a = (ps.take j).flatten.length := ⟨_, rfl⟩
   obtain ⟨pl, hpl⟩ : ∃ pl, pl = ps[j].length := ⟨_, rfl⟩
   rw [← hpl] at hx;have HAL := z_ (show a + pl = (ps.take (j + 1)).flatten.length from by rw [qhj hlt, List.length_append, ha, hpl]);have hal : a + pl ≤ 1000 := zdM;rw [← ha];clear ha hpl hcl hFK hcc hle3 VK HEL h1 h2;simp only [Int.toNat_natCast, show (Kd.slice 3 (Kd.int .i64)).sz = 1 from rfl, Nat.mul_one, Nat.add_zero] at hx;have w1 : IntKind.i64.wrap ((a : Int) + (pl : Int)) = (a : Int) + (pl : Int) := zcK;have d1 : decide ((a : Int) + (pl : Int) < 0) = false := decide_eq_false zdM
   go_wp2_with fail
   go_roundw
   case rel => exact ⟨j + 1, zdM, by rw [← HAL.o]; go_num, zdL, HB⟩
   case measure => simp [intOf]; omega
  ·have k1 : decide ((j : Int) < (ps.length : Int)) = false := decide_eq_false zdM;have hjl : j = ps.length := zdM;have HJL := z_ (show (ps.take j).flatten.length = ps.flatten.length from by rw [hjl, List.take_length]);obtain ⟨n, hn⟩ : ∃ n, n = ps.flatten.length := ⟨_, rfl⟩
   rw [← hn] at HJL HS;have HNN := z_ hn;rw [HJL.o];clear hn hjl
   go_wp2_with fail
   refine (cgrow n HS.o _).mono ?_;rintro e w2 ⟨v2, rfl, hR2, hb2⟩;have HB2 := z_ (qaa HB.o hb2);have HR2 := z_ (Kd.qa3 hR2 HB.o.size);obtain ⟨A2, c2, rfl, _, _⟩ := Kd.qa4 hR2;clear hR2 hb2 HB Hd
   go_wp2_with fail
   go_loopw [6, 27] (fun v6 v27 wr => ∃ (q nq cq : Nat) (Aq : Option Addr), q ≤ ps.length ∧ v6 = .slice Aq nq cq ∧ v27 = .int .i64 (q : Int) ∧ Aside0 (Below w.heap.size w wr) ∧ Aside0 (Kd.R (Kd.int .i64) 3 wr w.heap.size (fun _ => True) (.slice Aq nq cq) (ps.take q).flatten)) (fun _ v27 _ => ps.length - (intOf v27).toNat)
   case atStart => exact ⟨0, 0, c2, A2, Nat.zero_le _, rfl, rfl, HB2, HR2⟩
   case round =>
    clear HB2 HR2 k1;obtain ⟨q, nq, cq, Aq, hq, rfl, rfl, HB, HR⟩ := hrel;have Hd := z_ (Kd.qf0 HN.o HB.o)
    by_cases hlt : q < ps.length
    ·have k1 : decide ((q : Int) < (ps.length : Int)) = true := decide_eq_true zdM;have kw : IntKind.i64.wrap ((q : Int) + 1) = (q : Int) + 1 := by rw [IntKind.wrap_i64]; have := HL.o; omega
     have kp : (0 : Int) ≤ (q : Int) := zdM;have kq : (q : Int) < (ps.length : Int) := zdM;obtain ⟨gp, cp2, e1, _, _⟩ := Kd.qi1 Hd.o zdM;injection e1 with e1 e2 e3
     subst e1 e3;obtain ⟨cc, hcl, hFK, hcc, _⟩ := Kd.qkg Hd.o [] (q : Int) kp kq;obtain ⟨A3, c3, rfl, hle3, VK⟩ := Kd.qd3 hFK;have hx := hcc 0 _ rfl;have HEL := z_ (show ps.getD (q : Int).toNat [] = ps[q] from by rw [Int.toNat_natCast, List.getD_eq_getElem?_getD, List.getElem?_eq_getElem hlt]; rfl);rw [HEL.o] at hx VK;obtain ⟨pq, hpq⟩ : ∃ pq, pq = ps[q] := ⟨_, rfl⟩
     rw [← hpq] at hx VK;have HAP := z_ (show (ps.take (q + 1)).flatten = (ps.take q).flatten ++ pq from by rw [qhj hlt, hpq]);have HAL := z_ (show (ps.take q).flatten.length + pq.length ≤ 1000 from by
      have h1 := qlW ps (q + 1);rw [HAP.o, List.length_append] at h1;have := HS.o;have := HNN.o;omega)
     have zK := z_ (Kd.qcT VK);clear hpq hcl hFK hcc hle3 VK HEL;simp only [Int.toNat_natCast, show (Kd.slice 3 (Kd.int .i64)).sz = 1 from rfl, Nat.mul_one, Nat.add_zero] at hx
     go_wp2_with ((with_reducible refine qbS (b := .append) (xs := #[.tmp 31, .tmp 32]) rfl ?_); at_builtin; refine Kd.qb8 (Kd.int .i64) (w0 := w) w.heap.size rfl (.tmp 31) (.tmp 32) 25 3 (.int .i64 0) 8 rfl Tryz.underlying25 info3 rfl zdK zdM (.slice Aq nq cq) (ps.take q).flatten pq _ _ _ (fun _ => True) (fun _ => False) rfl rfl HR.o zK.o (fun _ _ h => h) (fun _ h => h.elim) (fun _ _ => trivial) HB.o HB.o.size ?aL ?_; (case aL => have := HAL.o; omega); intro v6 w6 KB hb6 uc ab; have k6 := z_ KB; have MA := z_ hb6; clear KB hb6 uc ab)
     obtain ⟨A6, c6, rfl, _, _⟩ := Kd.qa4 k6.o
     go_roundw
     case rel => exact ⟨q + 1, _, c6, A6, zdM, rfl, zdL, MA, ⟨by rw [HAP.o]; exact k6.o⟩⟩
     case measure => simp [intOf]; omega
    ·have k1 : decide ((q : Int) < (ps.length : Int)) = false := decide_eq_false zdM;have hql : q = ps.length := zdM;have HE := z_ (show (ps.take q).flatten = ps.flatten from by rw [hql, List.take_length]);clear hql
     go_wp2_with fail
     go_ret
     exact ⟨_, rfl, by rw [← HE.o]; exact HR.o, HB.o⟩
end Go.Proofs.YtcdokcpiahbejaaGreat.X
