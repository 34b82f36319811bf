import Derived.Test.YtcdokcpiahbejaaGreatKFnExactTreeDrop6
import Derived.Deep.Cut
set_option maxRecDepth 100000
set_option maxHeartbeats 16000000
set_option linter.unusedVariables false
set_option linter.unusedSimpArgs false
namespace Go.Proofs.YtcdokcpiahbejaaGreat.X
open Go.RowKit Go.Proofs.PW Go.Proofs.PL Go.Proofs.PM
attribute [local go_sem] qaj qak qal qaf qag qao qap qad qae qah qai
def LkAt (w0 w : World) (g : Nat) (vh vp vs : Value) (b : Bool) (p : List S61) (s : List Bool) : Prop :=
 w0.heap.size ≤ g ∧ w.heap[g]? = some (.cells #[vh, vp, vs, .bool b] 76 (0, 0)) ∧ Kd.R Kd.bool 4 w w0.heap.size (fun _ => True) vs s ∧ Kd.R k61 61 w w0.heap.size (fun _ => True) vp p
theorem LkAt.below {w0 w w1 : World} {g : Nat} {vh vp vs : Value} {b : Bool} {s : List Bool} {p : List S61} (h : LkAt w0 w g vh vp vs b p s) (hb : Below w.heap.size w w1) : LkAt w0 w1 g vh vp vs b p s :=
 ⟨h.1, qab h.2.1 hb, Kd.qa7 h.2.2.1 hb, Kd.qa7 h.2.2.2 hb⟩
theorem LkAt.qfh {w0 w : World} {g : Nat} {vh vp vs : Value} {b : Bool} {s : List Bool} {p : List S61} (h : LkAt w0 w g vh vp vs b p s) (b' : Bool) : LkAt w0 (w.setCell ⟨g, 3, none⟩ (.bool b')) g vh vp vs b' p s :=
 ⟨h.1, qfk h.2.1 3 _, Kd.qgF h.2.2.1 h.2.1 (qg9 zdK) _ _, Kd.qgF h.2.2.2 h.2.1 (qha zdK) _ _⟩
theorem KeptT.set {w w' : World} {g : Nat} (h : KeptT w w' g) (j : Nat) (v : Value) : KeptT w (w'.setCell ⟨g, j, none⟩ v) g := fun kk cells t h1 h2 h3 h4 => qbD (h kk cells t h1 h2 h3 h4) h2 _
def walkS.T4 : Bool × List (List Nat × List Nat) := (true, [([], []), ([], []), ([1], [1]), ([2], [2]), ([3], [3]), ([], []), ([5], [5]), ([4, 6], [4, 6]), ([0, 0, 1, 2, 3, 4, 5, 6, 7], [0]), ([8, 0, 1, 2, 3, 4, 5, 6, 7], [8]), ([9, 7, 7, 0, 1, 2, 3, 4, 5, 6, 7], [7, 9])])
def walkS.B4 : List Nat := [0, 0, 2, 6, 14, 0, 32, 126, 255, 511, 1023]
theorem walkS.tab4 : rtab .any (opsOf Tryz.f39 4) = walkS.T4 := zdG
theorem walkS.bits4 : qbW walkS.T4.2 walkS.B4 = true := zdG
theorem qlM (ns : List S80) (w0 : World) (Ah : Option Addr) (ch : Nat) (hh : Kd.C k80 w0 Ah ns.length ns) (hl : ns.length = 50) (hbd : qfe ns) : ∀ (n : Nat) (k d : Int) (s : List Bool) (p : List S61) (w : World) (g : Nat) (vp vs : Value), 0 ≤ d → d + (n : Int) = 21 → WI 50 150 s p → Below w0.heap.size w0 w → LkAt w0 w g (.slice Ah ns.length ch) vp vs true p s →
  Calls Tryz.prog 39 #[.pointer (some ⟨g, 0, none⟩), .int .i64 k, .int .i64 d] w fun e w' => e = .returned (.tuple #[]) ∧ Below w0.heap.size w0 w' ∧ KeptT w w' g ∧ ∃ vp' vs' : Value, LkAt w0 w' g (.slice Ah ns.length ch) vp' vs' (walkW ns n k s p).1 (walkW ns n k s p).2.2 (walkW ns n k s p).2.1 := by
 have hu := Tryz.underlying80;have hu2 := Tryz.underlying76;have hu3 := Tryz.underlying29;intro n
 induction n with
 | zero =>
  intro k d s p w g vp vs hd0 hd hI hB hW;have HB := z_ hB;have HW := z_ hW;have c1 : decide (20 < d) = true := decide_eq_true zdM;obtain ⟨d0, d1, d2, d3⟩ := qbB hW.2.1;have d4 := qau hW.2.1 3;clear hI hB hW hd hd0 hh hbd
  go_enter Tryz.func39, Tryz.ntmps39
  go_wp2_with fail
  ((try simp only [Exit.inBlock, Exit.then]); refine bodyPost_ret (results_none rfl _ _ _) rfl ?_)
  exact ⟨rfl, HB.o.setCell (p := ⟨g, 3, none⟩) HW.o.1 _, (KeptT.refl _ _).set _ _, _, _, HW.o.qfh false⟩
 | succ n ih =>
  intro k d s p w g vp vs hd0 hd hI hB hW;have c1 : decide (20 < d) = false := decide_eq_false zdM;have hlen := hI.len;obtain ⟨gs, cs, rfl, hgs, _, scells, hsc⟩ := Kd.qcS hW.2.2.1 zdM;obtain ⟨d0, d1, d2, d3⟩ := qbB hW.2.1;have d4 := qau hW.2.1 3;have hwr : IntKind.i64.wrap ((ns.length : Int) - 1) = (ns.length : Int) - 1 := zcK;have hin := qfu k 0 ((ns.length : Int) - 1)
  cases hr : inB k 0 ((ns.length : Int) - 1) with
  | false =>
   have hgd : walkW ns (n + 1) k s p = (false, s, p) := by
    unfold walkW;rw [if_neg (fun h => by have h1 := h.1; have h2 := h.2.1; unfold inB at hr; rw [decide_eq_true h1, decide_eq_true zdM] at hr; cases hr)]
   rw [hgd];rw [hr] at hin;have HIN := z_ hin;have HB := z_ hB;have HW := z_ hW;clear hI hB hW hsc hgs hh ih hd hd0 hgd hlen hl hbd hin hr
   go_enter Tryz.func39, Tryz.ntmps39
   go_wp2_with fail
   refine (qaY.calls _ _ _ _ _ HIN.o).mono ?_;rintro e W1 ⟨rfl, hdr⟩;have HB1 := z_ (qaa HB.o hdr.below);have HW1 := z_ (HW.o.below hdr.below);have I5 := z_ ((KeptT.refl w g).below hdr.below);clear hdr d0 d1 d2 d3 d4;obtain ⟨d0, d1, d2, d3⟩ := qbB HW1.o.2.1;have d4 := qau HW1.o.2.1 3
   go_wp2_with fail
   ((try simp only [Exit.inBlock, Exit.then]); refine bodyPost_ret (results_none rfl _ _ _) rfl ?_)
   exact ⟨rfl, HB1.o.setCell (p := ⟨g, 3, none⟩) HW.o.1 _, I5.o.set _ _, _, _, HW1.o.qfh false⟩
  | true =>
  have hk0 : 0 ≤ k ∧ k < 50 := by unfold inB at hr; simp only [Bool.and_eq_true, decide_eq_true_eq] at hr; omega
  rw [hr] at hin;have HIN := z_ hin;obtain ⟨kk, rfl⟩ : ∃ kk : Nat, k = (kk : Int) := ⟨k.toNat, zdM⟩
  have hk : kk < 50 := zdM;have p1 : 0 ≤ (kk : Int) := zdM;have q1 : (kk : Int) < (s.length : Int) := zdM;have q2 : (kk : Int) < (ns.length : Int) := zdM;have Cf := hr
  cases hsk : rdOf false s (kk : Int) with
  | true =>
   have hgd : walkW ns (n + 1) (kk : Int) s p = (false, s, p) := by
    unfold walkW;rw [if_neg (fun h => by have := h.2.2.1; rw [hsk] at this; cases this)]
   rw [hgd];have HB := z_ hB;have HW := z_ hW;have HSK := z_ hsk;clear hI hB hW hsc hgs hh ih hd hd0 hgd hlen hl hbd hin hr hsk hk hk0 Cf
   go_enter Tryz.func39, Tryz.ntmps39
   go_wp2_with fail
   refine (qaY.calls _ _ _ _ _ HIN.o).mono ?_;rintro e W1 ⟨rfl, hdr⟩;have HB1 := z_ (qaa HB.o hdr.below);have HW1 := z_ (HW.o.below hdr.below);have I5 := z_ ((KeptT.refl w g).below hdr.below);clear hdr d0 d1 d2 d3 d4;obtain ⟨d0, d1, d2, d3⟩ := qbB HW1.o.2.1;have d4 := qau HW1.o.2.1 3;obtain ⟨hx0, hx1⟩ := Kd.qc9 false HW1.o.2.2.1 (kk : Int) p1 q1;rw [Int.toNat_natCast] at hx0 hx1;rw [HSK.o] at hx0
   go_wp2_with fail
   ((try simp only [Exit.inBlock, Exit.then]); refine bodyPost_ret (results_none rfl _ _ _) rfl ?_)
   exact ⟨rfl, HB1.o.setCell (p := ⟨g, 3, none⟩) HW.o.1 _, I5.o.set _ _, _, _, HW1.o.qfh false⟩
  | false =>
   obtain ⟨adh, B1, b1, B2, b2, B3, b3, e1, n0, n1, n2, n3, l1, C1, l2, C2, l3, C3⟩ := qdq hh (kk : Int) p1 q2
   cases e1
   obtain ⟨x, hx⟩ : ∃ x, x = qaC ns (kk : Int) := ⟨_, rfl⟩
   rw [← hx] at n0 n1 n2 n3 l1 C1 l2 C2 l3 C3;rw [Int.toNat_natCast] at n0 n1 n2 n3;have hmax : x.f3.length < 9223372036854775807 := zbq;obtain ⟨ko, hko⟩ := Ev.rounds (qjW x.f0 x.f1 x.f2 x.f3 hmax);have HKO := z_ (show qed.f ko x.f0 x.f1 x.f2 x.f3 = some (nbN x) from hko);have HFO := z_ (show qdh.f x.f0 x.f1 x.f2 x.f3 = some (fbN x) from qi9 x.f0 x.f1 x.f2 x.f3);have HI := z_ hI;have HB := z_ hB;have HW := z_ hW;have HX := z_ hx;have HLL := z_ hlen;have cG := z_ (And.intro l1 C1);have UF := z_ (And.intro l2 C2);have sJ := z_ (And.intro l3 C3);have HH := z_ hh;have HIH := z_ ih;have HD := z_ (And.intro hd hd0);have HSK := z_ hsk;have HL := z_ hl;have HBD := z_ hbd;have HG := z_ hW.1;have N0 := z_ (And.intro n0 (And.intro n1 (And.intro n2 n3)));clear hI hB hW hsc hgs hh ih hd hd0 hlen hl hbd hin hr hsk hk hk0 Cf hx C1 C2 C3 l1 l2 l3 hko hmax n0 n1 n2 n3
   go_enter Tryz.func39, Tryz.ntmps39
   go_wp2_with fail
   refine (qaY.calls _ _ _ _ _ HIN.o).mono ?_;rintro e W1 ⟨rfl, hdr⟩;have HB1 := z_ (qaa HB.o hdr.below);have HW1 := z_ (HW.o.below hdr.below);have I5 := z_ ((KeptT.refl w g).below hdr.below);clear hdr d0 d1 d2 d3 d4 HB HW;obtain ⟨d0, d1, d2, d3⟩ := qbB HW1.o.2.1;have d4 := qau HW1.o.2.1 3;obtain ⟨hx0, hx1⟩ := Kd.qc9 false HW1.o.2.2.1 (kk : Int) p1 q1;rw [Int.toNat_natCast] at hx0 hx1;rw [HSK.o] at hx0;have n0 := zcm_ HB1.o N0.o.1;have n1 := zcm_ HB1.o N0.o.2.1;have n2 := zcm_ HB1.o N0.o.2.2.1;have n3 := zcm_ HB1.o N0.o.2.2.2
   go_wp2_with fail
   refine (qed.calls (J3 := Kd.qar cG.o.2 HB1.o) (I3 := cG.o.1) (V2 := Kd.qar UF.o.2 HB1.o) (F3 := UF.o.1) (u3 := Kd.qar sJ.o.2 HB1.o) (D3 := sJ.o.1) (h := HKO.o)).mono ?_;rintro e W3 ⟨rfl, hb3⟩;have HB3 := z_ (qaa HB1.o hb3);have HW3 := z_ (HW1.o.below hb3);have EB := z_ (I5.o.below hb3);clear hb3 d0 d1 d2 d3 d4 hx0 hx1 n0 n1 n2 n3 HB1 HW1 I5;obtain ⟨d0, d1, d2, d3⟩ := qbB HW3.o.2.1;have d4 := qau HW3.o.2.1 3;obtain ⟨hx0, hx1⟩ := Kd.qc9 false HW3.o.2.2.1 (kk : Int) p1 q1;rw [Int.toNat_natCast] at hx0 hx1;have n0 := zcm_ HB3.o N0.o.1;have n1 := zcm_ HB3.o N0.o.2.1;have n2 := zcm_ HB3.o N0.o.2.2.1;have n3 := zcm_ HB3.o N0.o.2.2.2
   cases hnb : nbN x with
   | false =>
    have hgd : walkW ns (n + 1) (kk : Int) s p = (false, s, p) := by
     unfold walkW;rw [if_neg (fun h => zbf)]
    have HGD := z_ hgd;clear hnb hgd n0 n1 n2 n3 hx0 hx1
    go_wp2_with fail
    ((try simp only [Exit.inBlock, Exit.then]); refine bodyPost_ret (results_none rfl _ _ _) rfl ?_)
    rw [HGD.o];exact ⟨rfl, HB3.o.setCell (p := ⟨g, 3, none⟩) HG.o _, EB.o.set _ _, _, _, HW3.o.qfh false⟩
   | true =>
   go_wp2_with fail
   refine (qdh.calls (J3 := Kd.qar cG.o.2 HB3.o) (I3 := cG.o.1) (V2 := Kd.qar UF.o.2 HB3.o) (F3 := UF.o.1) (u3 := Kd.qar sJ.o.2 HB3.o) (D3 := sJ.o.1) (h := HFO.o)).mono ?_;rintro e W4 ⟨rfl, hb4⟩;have cB := z_ (qaa HB3.o hb4);have lG := z_ (HW3.o.below hb4);have iO := z_ (EB.o.below hb4);clear hb4 d0 d1 d2 d3 d4 hx0 hx1 n0 n1 n2 n3 HB3 HW3 EB;obtain ⟨d0, d1, d2, d3⟩ := qbB lG.o.2.1;have d4 := qau lG.o.2.1 3
   cases hfb : fbN x with
   | true =>
    have hgd : walkW ns (n + 1) (kk : Int) s p = (false, s, p) := by
     unfold walkW;rw [if_neg (fun h => zbg)]
    have HGD := z_ hgd;clear hfb hgd
    go_wp2_with fail
    ((try simp only [Exit.inBlock, Exit.then]); refine bodyPost_ret (results_none rfl _ _ _) rfl ?_)
    rw [HGD.o];exact ⟨rfl, cB.o.setCell (p := ⟨g, 3, none⟩) HG.o _, iO.o.set _ _, _, _, lG.o.qfh false⟩
   | false =>
   have hgd : walkW ns (n + 1) (kk : Int) s p = kidsW (walkW ns n) x.f3 x.f2 (s.set kk true) (p ++ x.f1) := by
    unfold walkW;rw [if_pos (show goodW ns (kk : Int) s from ⟨p1, q2, HSK.o, by rw [← HX.o]; exact hnb, by rw [← HX.o]; exact hfb⟩), ← HX.o, Int.toNat_natCast]
   have hkids : x.f3.length ≤ 4 ∧ x.f2.length = x.f3.length ∧ x.f1.length ≤ 3 ∧ (∀ q, q ∈ x.f1 → okP q = true) ∧ ∀ i : Nat, i < x.f3.length → 0 ≤ rd x.f3 i ∧ rd x.f3 i ≤ 49 := by
    cases hlf : x.f0 with
    | true =>
     obtain ⟨z3, z2, z1, z4, z5⟩ := qdK hnb hfb hlf;rw [z3, z2];exact ⟨zdN, rfl, z4, z5, fun i hi => absurd hi zdN⟩
    | false =>
     obtain ⟨z1, z2, z3, z4, z5⟩ := qdi hnb hfb hlf;rw [z1];exact ⟨z3, z4, zdN, fun q hq => (by cases hq), z5⟩
   have HGD := z_ hgd;have HZ := z_ hkids;have hz3 : x.f3.length ≤ 4 := hkids.1;have HI4 := z_ (show WI 50 150 (s.set kk true) (p ++ x.f1) from by
    have hc := qg0 (s := s) (i := kk) (by have := HLL.o; omega) zaP;exact ⟨by rw [List.length_set]; exact HLL.o, by have := HI.o.room; have := HZ.o.2.2.1; rw [List.length_append]; omega, fun q hq => (List.mem_append.1 hq).elim (HI.o.good q) (HZ.o.2.2.2.1 q)⟩)
   have hroom := HI.o.room;have HRM := z_ (show p.length ≤ 150 from zdM);clear hroom hkids hgd hnb hfb;obtain ⟨hx0, hx1⟩ := Kd.qc9 false lG.o.2.2.1 (kk : Int) p1 q1;rw [Int.toNat_natCast] at hx0 hx1;obtain ⟨_, _, _, _, _, scells, hsc⟩ := Kd.qcS lG.o.2.2.1 (by have := HLL.o; omega);rename_i gs_ lB hv_ pf _;injection hv_ with v1 _ v2
   injection v1 with v1
   injection v1 with v1
   subst v1; subst v2;obtain ⟨W1, hW1⟩ : ∃ W1, W1 = W4.setCell ⟨gs, kk, none⟩ (.bool true) := ⟨_, rfl⟩
   have hB1 : Below w0.heap.size w0 W1 := hW1 ▸ cB.o.setCell (p := ⟨gs, kk, none⟩) pf _;have hL1 : LkAt w0 W1 g (.slice (some adh) ns.length ch) vp (.slice (some ⟨gs, 0, none⟩) s.length cs) true p (s.set kk true) := hW1 ▸ ⟨HG.o, qbD lG.o.2.1 (qhO lG.o.2.1 hsc zdK) _, Kd.qgJ lG.o.2.2.1 (kk : Int) true, Kd.qgF lG.o.2.2.2 hsc (qha zdK) _ _⟩;have hK1 : KeptT w W1 g := fun q cells t h1 h0 h2 h3 => hW1 ▸ qbD (iO.o q cells t h1 h0 h2 h3) (qhO (iO.o q cells t h1 h0 h2 h3) hsc (Ne.symm h2)) _
   have n0 := (hB1.cell (World.block_lt_of_cell? w0 _ N0.o.1)).trans N0.o.1;have n1 := (hB1.cell (World.block_lt_of_cell? w0 _ N0.o.2.1)).trans N0.o.2.1;have n2 := (hB1.cell (World.block_lt_of_cell? w0 _ N0.o.2.2.1)).trans N0.o.2.2.1;have n3 := (hB1.cell (World.block_lt_of_cell? w0 _ N0.o.2.2.2)).trans N0.o.2.2.2;obtain ⟨jS, dd1, bS, QV⟩ := qbB hL1.2.1;obtain ⟨W2, hW2⟩ : ∃ W2, W2 = W1.alloc (.cells #[.bool x.f0, .slice B1 x.f1.length b1, .slice B2 x.f2.length b2, .slice B3 x.f3.length b3] 80 (0, 0)) := ⟨_, rfl⟩
   obtain ⟨nb, hnbq⟩ : ∃ nb, nb = W1.heap.size := ⟨_, rfl⟩
   have HGN := z_ (show nb ≠ g by have := qbo hL1.2.1; omega);have HB2 := z_ (show Below w0.heap.size w0 W2 from hW2 ▸ qaA hB1 _);have HW2 := z_ (show LkAt w0 W2 g (.slice (some adh) ns.length ch) vp (.slice (some ⟨gs, 0, none⟩) s.length cs) true p (s.set kk true) from hW2 ▸ hL1.below (qaA (Below.refl _ _) _));have tQ := z_ (show KeptT w W2 g from hW2 ▸ hK1.below (qaA (Below.refl _ _) _));have JX := z_ (show W2.heap[nb]? = some (.cells #[.bool x.f0, .slice B1 x.f1.length b1, .slice B2 x.f2.length b2, .slice B3 x.f3.length b3] 80 (0, 0)) from hW2 ▸ hnbq ▸ qbz W1 _);clear pf hsc hB1 hL1 hK1 cB iO lG
   go_upto_region 3 with fail
   rw [← hW1];clear hW1 d0 d1 d2 d3 d4 hx0 hx1
   go_upto_region 4 with fail
   rw [← hW2, ← hnbq];clear hW2 n0 n1 n2 n3 jS dd1 bS QV hnbq;obtain ⟨vpA, vpc, ev, _, _⟩ := Kd.qa4 HW2.o.2.2.2;subst ev;have yN := z_ (qaq HW2.o.2.1);have HPo := z_ (Kd.qbu HW2.o.2.2.2);have HSx := z_ (Kd.qbu HW2.o.2.2.1);have L3 := z_ (qba HB2.o);have bE := z_ (tQ.o.below (qba (Below.refl _ W2)));have NBX := z_ (qaq JX.o);clear HB2 tQ JX HW2;refine qdv (n := 11) (S := fun w' => True) (ds := []) zArrF11 zdG rfl rfl trivial (fun hHeld => ?_);refine qbU walkS.tab4 walkS.bits4 (fun E2 r8 => ?_);generalize W2.drew = wd at yN HPo HSx L3 bE NBX ⊢;refine qer [0, 1, 2, 3, 4, 5, 6, 7, 8, 9, 10] (fun TE b a w' => ∃ (Az : Option Addr) (cz : Nat) (N3 : Value), a = qbH TE b [(0, 79, .pointer (some ⟨g, 0, none⟩)), (1, 80, .pointer (some ⟨g, 0, none⟩)), (2, 81, .pointer (some ⟨g, 0, none⟩)), (3, 82, .pointer (some ⟨g, 1, none⟩)), (4, 83, .slice vpA p.length vpc), (5, 84, .pointer (some ⟨nb, 1, none⟩)), (6, 85, .slice B1 x.f1.length b1), (7, 86, N3), (8, 87, .pointer (some ⟨g, 0, none⟩)), (9, 88, .pointer (some ⟨g, 1, none⟩))] ∧ (b 10 = false → w'.heap[g]? = some (.cells #[.slice (some adh) ns.length ch, .slice vpA p.length vpc, .slice (some ⟨gs, 0, none⟩) s.length cs, .bool true] 76 (0, 0))) ∧ (b 7 = false → Kd.R k61 61 w' w0.heap.size (fun _ => True) (.slice vpA p.length vpc) p) ∧ (b 7 = true → Kd.R k61 61 w' w0.heap.size (fun _ => True) (.slice Az (p ++ x.f1).length cz) (p ++ x.f1)) ∧ (b 10 = true → w'.heap[g]? = some (.cells #[.slice (some adh) ns.length ch, .slice Az (p ++ x.f1).length cz, .slice (some ⟨gs, 0, none⟩) s.length cs, .bool true] 76 (0, 0))) ∧ (Kd.R Kd.bool 4 w' w0.heap.size (fun _ => True) (.slice (some ⟨gs, 0, none⟩) s.length cs) (s.set kk true)) ∧ (Below w0.heap.size w0 w') ∧ (KeptT w w' g) ∧ (w'.heap[nb]? = some (.cells #[.bool x.f0, .slice B1 x.f1.length b1, .slice B2 x.f2.length b2, .slice B3 x.f3.length b3] 80 (0, 0))) ∧ (b 7 = true → (N3 : Value) = .slice Az (p ++ x.f1).length cz)) E2.o r8.o zdG zdG ?_ ?_ ?_
   ·exact ⟨none, 0, .bool false, zbB, fun _ => yN.o, fun _ => HPo.o, fun h_ => absurd h_ zdK, fun h_ => absurd h_ zdK, HSx.o, L3.o, bE.o, NBX.o, fun h_ => absurd h_ zdK⟩
   ·skip;clear yN L3 bE HPo HSx NBX;refine zsteps_ rfl ?_ ?_
    ·rintro b a w' ⟨Az, cz, N3, ha, QT⟩ hb_ hon hoff K hK;have e0 : a.tmps[0]? = some (.pointer (some ⟨g, 0, none⟩)) := zcj;replace ha := z_ ha;refine qaT (w1 := w') (v := .pointer (some ⟨g, 0, none⟩)) zdO rfl zci ?_;refine hK.o _ _ ⟨Az, cz, N3, zbJ, QT⟩
    refine zsteps_ rfl ?_ ?_
    ·rintro b a w' ⟨Az, cz, N3, ha, QT⟩ hb_ hon hoff K hK;have e0 : a.tmps[0]? = some (.pointer (some ⟨g, 0, none⟩)) := zcj;replace ha := z_ ha;refine qaT (w1 := w') (v := .pointer (some ⟨g, 0, none⟩)) zdO rfl zci ?_;refine hK.o _ _ ⟨Az, cz, N3, zbK, QT⟩
    refine zsteps_ rfl ?_ ?_
    ·rintro b a w' ⟨Az, cz, N3, ha, QT⟩ hb_ hon hoff K hK;have e80 : a.tmps[80]? = some (.pointer (some ⟨g, 0, none⟩)) := zon_ ha 1 rfl rfl hon;replace ha := z_ ha;refine qaT (w1 := w') (v := .pointer (some ⟨g, 0, none⟩)) zdO rfl zci ?_;refine hK.o _ _ ⟨Az, cz, N3, zbL, QT⟩
    refine zsteps_ rfl ?_ ?_
    ·rintro b a w' ⟨Az, cz, N3, ha, QT⟩ hb_ hon hoff K hK;have e81 : a.tmps[81]? = some (.pointer (some ⟨g, 0, none⟩)) := zon_ ha 2 rfl rfl hon;replace ha := z_ ha;refine qaT (w1 := w') (v := .pointer (some ⟨g, 1, none⟩)) zdO rfl zci ?_;refine hK.o _ _ ⟨Az, cz, N3, zbM, QT⟩
    refine zsteps_ rfl ?_ ?_
    ·rintro b a w' ⟨Az, cz, N3, ha, QT⟩ hb_ hon hoff K hK;have e82 : a.tmps[82]? = some (.pointer (some ⟨g, 1, none⟩)) := zon_ ha 3 rfl rfl hon;replace ha := z_ ha;have yN := z_ (QT.1 (hoff 10 zdG));have yF := (qbB yN.o).2.1;refine qaT (w1 := w') (v := .slice vpA p.length vpc) zdO rfl zci ?_;refine hK.o _ _ ⟨Az, cz, N3, zbN, QT⟩
    refine zsteps_ rfl ?_ ?_
    ·rintro b a w' ⟨Az, cz, N3, ha, QT⟩ hb_ hon hoff K hK;have e6 : a.tmps[6]? = some (.pointer (some ⟨nb, 0, none⟩)) := zcj;replace ha := z_ ha;refine qaT (w1 := w') (v := .pointer (some ⟨nb, 1, none⟩)) zdO rfl zci ?_;refine hK.o _ _ ⟨Az, cz, N3, zbO, QT⟩
    refine zsteps_ rfl ?_ ?_
    ·rintro b a w' ⟨Az, cz, N3, ha, QT⟩ hb_ hon hoff K hK;have e84 : a.tmps[84]? = some (.pointer (some ⟨nb, 1, none⟩)) := zon_ ha 5 rfl rfl hon;replace ha := z_ ha;have NBX := z_ QT.2.2.2.2.2.2.2.1;have yF := (qbB NBX.o).2.1;refine qaT (w1 := w') (v := .slice B1 x.f1.length b1) zdO rfl zci ?_;refine hK.o _ _ ⟨Az, cz, N3, zbP, QT⟩
    refine zsteps_ rfl ?_ ?_
    ·rintro b a w' ⟨Az, cz, N3, ha, EK, kP, wJ, zP, kH, D2, CH, iH, L4⟩ hb_ hon hoff K hK;have e83 : a.tmps[83]? = some (.slice vpA p.length vpc) := zon_ ha 4 rfl rfl hon;have e85 : a.tmps[85]? = some (.slice B1 x.f1.length b1) := zon_ ha 6 rfl rfl hon;replace ha := z_ ha;have yN := z_ (EK (hoff 10 zdG));have HPo := z_ (kP hb_);have HSx := z_ kH;have L3 := z_ D2;have bE := z_ CH;have NBX := z_ iH;refine Kd.qdG k61 (w0 := w0) w0.heap.size zdO (.tmp 83) (.tmp 85) 45 61 (.agg #[.string ⟨#[]⟩, .string ⟨#[]⟩]) 32 rfl Tryz.underlying45 qgh rfl zdK zdM (.slice vpA p.length vpc) p x.f1 _ _ _ (fun _ => True) (fun _ => False) (qlm e83) (qlm e85) HPo.o (Kd.qar cG.o.2 L3.o) (fun _ _ h => h) (fun _ h => h.elim) (fun _ _ => trivial) L3.o L3.o.size (by have := HZ.o.2.2.1; have := HRM.o; omega) ?_;intro v1 w1 ho1 hb1 hg1 ZG;obtain ⟨TX, LT, bH, _, _⟩ := Kd.qa4 ho1;subst bH;refine hK.o _ _ ⟨TX, LT, (.slice TX (p ++ x.f1).length LT), zbQ, fun _ => qbe yN.o hg1 (Kd.R_ne HPo.o yN.o zdK), fun qB => absurd ((qbG b 7).symm.trans qB) zdK, fun _ => ho1, nf_ (hoff 10 zdG), Kd.R_over HSx.o HPo.o (qg9 zdK) hg1, hb1, fun kk cells t h1 h2 h3 h4 => qbe (bE.o kk cells t h1 h2 h3 h4) hg1 (Kd.R_ne HPo.o (bE.o kk cells t h1 h2 h3 h4) h4), qbe NBX.o hg1 (Kd.R_ne HPo.o NBX.o zdK), fun _ => rfl⟩
    refine zsteps_ rfl ?_ ?_
    ·rintro b a w' ⟨Az, cz, N3, ha, QT⟩ hb_ hon hoff K hK;have e79 : a.tmps[79]? = some (.pointer (some ⟨g, 0, none⟩)) := zon_ ha 0 rfl rfl hon;replace ha := z_ ha;refine qaT (w1 := w') (v := .pointer (some ⟨g, 0, none⟩)) zdO rfl zci ?_;refine hK.o _ _ ⟨Az, cz, N3, zbS, QT⟩
    refine zsteps_ rfl ?_ ?_
    ·rintro b a w' ⟨Az, cz, N3, ha, QT⟩ hb_ hon hoff K hK;have e87 : a.tmps[87]? = some (.pointer (some ⟨g, 0, none⟩)) := zon_ ha 8 rfl rfl hon;replace ha := z_ ha;refine qaT (w1 := w') (v := .pointer (some ⟨g, 1, none⟩)) zdO rfl zci ?_;refine hK.o _ _ ⟨Az, cz, N3, zbT, QT⟩
    refine zsteps_ rfl ?_ ?_
    ·rintro b a w' ⟨Az, cz, N3, ha, EK, kP, wJ, zP, kH, D2, CH, iH, L4⟩ hb_ hon hoff K hK;have e88 : a.tmps[88]? = some (.pointer (some ⟨g, 1, none⟩)) := zon_ ha 9 rfl rfl hon;have e86 : a.tmps[86]? = some (N3) := zon_ ha 7 rfl rfl hon;rw [L4 (hon 7 zdG)] at e86;replace ha := z_ ha;have yN := z_ (EK hb_);have HPn := z_ (wJ (hon 7 zdG));have HSx := z_ kH;have L3 := z_ D2;have bE := z_ CH;have NBX := z_ iH;have yF := (qbB yN.o).2.1;have hf_ := qau yN.o 1;refine qgN (w1 := w'.setCell ⟨g, 1, none⟩ (.slice Az (p ++ x.f1).length cz)) zdO rfl (by go_simp) ?_;refine hK.o _ _ ⟨Az, cz, N3, zbR, fun qB => absurd ((qbG b 10).symm.trans qB) zdK, nt_ (hon 7 zdG), fun _ => Kd.qgF HPn.o yN.o (qha zdK) _ _, fun _ => qfk yN.o 1 _, Kd.qgF HSx.o yN.o (qg9 zdK) _ _, L3.o.setCell (p := ⟨g, 1, none⟩) HG.o _, bE.o.set _ _, qbD NBX.o HGN.o _, L4⟩
    exact qcC
   rintro b a wA hall ⟨Az, cz, N3, ha, EK, kP, wJ, zP, kH, D2, CH, iH, L4⟩;clear yN L3 bE HPo HSx NBX;have Z4 := hall 0 zdG;have i3 := hall 1 zdG;have J4 := hall 2 zdG;have o4 := hall 3 zdG;have D4 := hall 4 zdG;have Q5 := hall 5 zdG;have H4 := hall 6 zdG;have q7 := hall 7 zdG;have y7 := hall 8 zdG;have i8 := hall 9 zdG;have GD := hall 10 zdG;subst ha;obtain rfl := L4 q7;simp only [qbH, Z4, i3, J4, o4, D4, Q5, H4, q7, y7, i8, GD, if_true, Act.put, List.setIfInBounds_toArray, List.set_cons_zero, List.set_cons_succ];clear EK kP;have HPn := z_ (wJ q7);clear wJ;have BK1 := z_ (zP GD);clear zP;have HSx := z_ kH;clear kH;have L3 := z_ D2;clear D2;have bE := z_ CH;clear CH;have NBX := z_ iH;clear iH hall Z4 i3 J4 o4 D4 Q5 H4 q7 y7 i8 GD;have kU := z_ (show LkAt w0 wA g (.slice (some adh) ns.length ch) (.slice Az (p ++ x.f1).length cz) (.slice (some ⟨gs, 0, none⟩) s.length cs) true (p ++ x.f1) (s.set kk true) from ⟨HG.o, BK1.o, HSx.o, HPn.o⟩);have MA := L3;have HK6 := bE;have HN6 := NBX;clear BK1 HSx HPn L3 bE NBX
   go_upto_region 6 with fail
   go_loopw [7] (fun v7 wr => ∃ (i : Nat) (b : Bool) (S : List Bool) (P : List S61) (vp vs : Value), i ≤ x.f3.length ∧ v7 = .int .i64 (i : Int) ∧ Aside0 (WI 50 150 S P) ∧ Aside0 (LkAt w0 wr g (.slice (some adh) ns.length ch) vp vs b P S) ∧ Aside0 (Below w0.heap.size w0 wr) ∧ Aside0 (KeptT w wr g) ∧ Aside0 (wr.heap[nb]? = some (.cells #[.bool x.f0, .slice B1 x.f1.length b1, .slice B2 x.f2.length b2, .slice B3 x.f3.length b3] 80 (0, 0))) ∧ Aside0 ((if b = true then kidsW (walkW ns n) (x.f3.drop i) (x.f2.drop i) S P else (false, S, P)) = walkW ns (n + 1) (kk : Int) s p)) (fun v7 _ => x.f3.length - (intOf v7).toNat)
   case atStart => exact ⟨0, true, s.set kk true, p ++ x.f1, _, _, zdM, rfl, HI4, kU, MA, HK6, HN6, ⟨by rw [HGD.o, if_pos rfl]; rfl⟩⟩
   case round =>
    clear HI4 kU MA HK6 HN6 HI HSK HFO HKO c1;obtain ⟨i, b, S, P, vp', vs', hi, rfl, HIr, HWr, HBr, HKr, HNr, HEr⟩ := hrel;obtain ⟨m0, m1, m2, m3⟩ := qbB HNr.o;obtain ⟨jS, dd1, bS, QV⟩ := qbB HWr.o.2.1
    by_cases hlt : i < x.f3.length
    ·have c5 : decide ((i : Int) < (x.f3.length : Int)) = true := decide_eq_true zdM
     cases b with
     | false =>
      have HF := z_ (show (false, S, P) = walkW ns (n + 1) (kk : Int) s p from by have h := HEr.o; rw [if_neg zdK] at h; exact h);clear HEr
      go_wp2_with fail
      go_end0
      rw [← HF.o];exact ⟨rfl, HBr.o, HKr.o, _, _, HWr.o⟩
     | true =>
      have i0 : 0 ≤ (i : Int) := zdM;have i1 : (i : Int) < (x.f3.length : Int) := zdM;have i2 : (i : Int) < (x.f2.length : Int) := by have := HZ.o.2.1; omega
      have hkid := HZ.o.2.2.2.2 i hlt;obtain ⟨kn, hkn⟩ : ∃ kn : Nat, rd x.f3 (i : Int) = (kn : Int) := ⟨(rd x.f3 (i : Int)).toNat, zdM⟩
      obtain ⟨gH, e3, k3⟩ := Kd.qdu sJ.o.2 (i : Int) i0 i1
      cases e3
      rw [Int.toNat_natCast, hkn] at k3;obtain ⟨kM, e2, k2⟩ := Kd.qbX UF.o.2 (i : Int) i0 i2
      cases e2
      obtain ⟨m, hm⟩ : ∃ m, m = rdOf ByteArray.empty x.f2 (i : Int) := ⟨_, rfl⟩
      rw [Int.toNat_natCast, ← hm] at k2;have hd3 : x.f3.drop i = (kn : Int) :: x.f3.drop (i + 1) := by
       rw [List.drop_eq_getElem_cons hlt, ← hkn];unfold rd;simp [List.getD_eq_getElem?_getD, hlt]
      have hlt2 : i < x.f2.length := zdM;have hd2 : x.f2.drop i = m :: x.f2.drop (i + 1) := by
       rw [List.drop_eq_getElem_cons hlt2, hm];unfold rdOf;simp [List.getD_eq_getElem?_getD, hlt2]
      have K2 := z_ k2;replace k3 := zcm_ HBr.o k3;obtain ⟨vA, vc, ev, _, _⟩ := Kd.qa4 HWr.o.2.2.2;subst ev;have hroom := HIr.o.room;have hpl : P.length ≤ 150 := zdM;have hw1 : IntKind.i64.wrap (d + 1) = d + 1 := by have := HD.o; rw [IntKind.wrap_i64]; omega
      obtain ⟨rb, S2, P2, hres⟩ : ∃ rb S2 P2, walkW ns n (kn : Int) S P = (rb, S2, P2) := ⟨_, _, _, rfl⟩
      have hE := HEr.o;rw [if_pos rfl, hd3, hd2, qe8, hres] at hE;have hinv := (qg1 (M := 150) ns HL.o n (kn : Int) S P HIr.o).1;rw [hres] at hinv;have HI2 := z_ hinv;have hih := HIH.o (kn : Int) (d + 1) S P wr g _ vs' zdm zdm HIr.o HBr.o HWr.o;rw [hres] at hih;have HIHC := z_ hih;have HND := HNr;have hmv : rb = true → P.length < P2.length := fun h => by
       have h2 := qhW ns n (kn : Int) S P (by rw [hres]; exact h);rw [hres] at h2;exact h2
      have HMV := z_ hmv;have HE := z_ hE;have Ec := z_ (And.intro i0 i2);clear hE hih hinv hres hd3 hd2 hkn hm hroom hlt2 hkid k2 hmv HEr
      go_wp2_with fail
      refine HIHC.o.mono ?_;rintro e we ⟨rfl, hb2, hk2, am, vs2, hl2⟩;clear m0 m1 m2 m3 jS dd1 bS QV k3
      go_upto_region 10 with fail
      have HL2 := z_ hl2;have L3 := z_ hb2;have bE := z_ hk2;obtain ⟨_, e1, _, e3⟩ := qbB hl2.2.1
      cases rb with
      | false =>
       have HE2 := z_ (show (if false = true then kidsW (walkW ns n) (x.f3.drop (i + 1)) (x.f2.drop (i + 1)) S2 P2 else (false, S2, P2)) = walkW ns (n + 1) (kk : Int) s p from by
        have h := HE.o;rw [if_neg (fun h => by cases h.1)] at h;rw [if_neg zdK];exact h)
       clear HE hb2 hk2 hl2 HMV;refine qcE 32 1 zdG rfl zdG ?_;dsimp only [List.take]
       repeat (first | go_big_quiet_step (fail) | quiet_step (fail))
       refine wpQuiet_nil ?_;rintro _ ⟨n0, rfl⟩;have LN := z_ (HL2.o.below (qaG (Below.refl _ we) n0));have HBn := z_ (qaG L3.o n0);have HKn := z_ (bE.o.below (qaG (Below.refl _ we) n0));have d4 := qau LN.o.2.1 3;have d5 := (qbB LN.o.2.1).2.2.2;clear e1 e3 HL2 L3 bE;refine qiv (i := 32) rfl zdG zdG (fun K hK => ?_);go_simp;refine hK.o _ _ ?_
       go_wp2_with fail
       go_roundw
       case rel => exact ⟨i + 1, false, S2, P2, _, _, zdM, zdL, HI2, ⟨LN.o.qfh false⟩, ⟨HBn.o.setCell (p := ⟨g, 3, none⟩) LN.o.1 _⟩, ⟨HKr.o.trans (HKn.o.set _ _)⟩, ⟨(HKn.o.set _ _) _ _ _ HND.o HGN.o zdK zdK⟩, HE2⟩
       case measure => simp [intOf]; omega
      | true =>
       have HMO := z_ (HMV.o rfl);obtain ⟨gp, cp, bH, _⟩ := Kd.qcS hl2.2.2.2 (by have := HMO.o; show 0 < P2.length; omega);subst bH;obtain ⟨ky, hky⟩ : ∃ ky, ky = qdJ P2 P.length := ⟨_, rfl⟩
       have HKY := z_ hky.symm;obtain ⟨be, hbe⟩ : ∃ be, (ky.toList == m.toList) = be := ⟨_, rfl⟩
       have HEQ := z_ hbe;have HE2 := z_ (show (if be = true then kidsW (walkW ns n) (x.f3.drop (i + 1)) (x.f2.drop (i + 1)) S2 P2 else (false, S2, P2)) = walkW ns (n + 1) (kk : Int) s p from by
        have h := HE.o
        cases be with
        | true =>
         rw [if_pos ⟨rfl, HMO.o, by show (qdJ P2 P.length).toList = _; rw [← hky]; exact beq_iff_eq.1 hbe⟩] at h;rw [if_pos rfl];exact h
        | false =>
         rw [if_neg (fun h => by have h2 : (qdJ P2 P.length).toList = m.toList := h.2.2; rw [← hky] at h2; rw [h2, beq_self_eq_true] at hbe; cases hbe)] at h;rw [if_neg zdK];exact h)
       have y1 : (P.length : Int) < (P2.length : Int) := by have := HMO.o; omega
       have y0 : 0 ≤ (P.length : Int) := zdM;have q1 := qgB hl2.2.2.2 (j := P.length) HMO.o;rw [HKY.o] at q1;have q2 := qac (hk2 _ _ _ HND.o HGN.o zdK zdK) 2;simp only [List.getElem?_toArray, List.getElem?_cons_zero, List.getElem?_cons_succ] at q2;obtain ⟨i0, i2⟩ := Ec.o;have q3 := (hb2.cell (World.block_lt_of_cell? w0 _ K2.o)).trans K2.o;clear HE hb2 hk2 hl2 HMV hky;refine qcE 32 1 zdG rfl zdG ?_;dsimp only [List.take]
       repeat (first | go_big_quiet_step (fail) | quiet_step (fail))
       refine wpQuiet_nil ?_;rintro _ ⟨n0, rfl⟩;have LN := z_ (HL2.o.below (qaG (Below.refl _ we) n0));have HBn := z_ (qaG L3.o n0);have HKn := z_ (bE.o.below (qaG (Below.refl _ we) n0));have d4 := qau LN.o.2.1 3;have d5 := (qbB LN.o.2.1).2.2.2;clear e1 e3 HL2 L3 bE q1 q2 q3;refine qiv (i := 32) rfl zdG zdG (fun K hK => ?_);go_simp;refine hK.o _ _ ?_
       go_wp2_with fail
       go_roundw
       case rel => exact ⟨i + 1, be, S2, P2, _, _, zdM, zdL, HI2, ⟨LN.o.qfh be⟩, ⟨HBn.o.setCell (p := ⟨g, 3, none⟩) LN.o.1 _⟩, ⟨HKr.o.trans (HKn.o.set _ _)⟩, ⟨(HKn.o.set _ _) _ _ _ HND.o HGN.o zdK zdK⟩, HE2⟩
       case measure => simp [intOf]; omega
    ·have he : i = x.f3.length := zdM;have c5 : decide ((i : Int) < (x.f3.length : Int)) = false := decide_eq_false zdM;have hE := HEr.o;rw [he, List.drop_length, qet] at hE;have HF := z_ (show (b, S, P) = walkW ns (n + 1) (kk : Int) s p from by
      cases b with
      | true => rw [if_pos rfl] at hE; exact hE
      | false => rw [if_neg zdK] at hE; exact hE)
     clear hE he HEr
     go_wp2_with fail
     go_end0
     rw [← HF.o];exact ⟨rfl, HBr.o, HKr.o, _, _, HWr.o⟩
def sWalk.T1 : Bool × List (List Nat × List Nat) := (true, [([], []), ([], []), ([], []), ([], []), ([3], [3]), ([4], [4]), ([5], [5]), ([0, 1, 2, 6], [0, 1, 2, 6]), ([7], [7]), ([8, 0, 1, 2, 3, 4, 5, 6, 7, 8], [8])])
def sWalk.B1 : List Nat := [0, 0, 0, 0, 8, 24, 56, 127, 255, 511]
theorem sWalk.tab1 : rtab .any (opsOf Tryz.f19 1) = sWalk.T1 := zdG
theorem sWalk.bits1 : qbW sWalk.T1.2 sWalk.B1 = true := zdG
theorem qiw (w0 : World) (k d : Int) (s : List Bool) (p : List S61) (w : World) (g : Nat) (vh vp vs : Value) (hB : Below w0.heap.size w0 w) (hW : LkAt w0 w g vh vp vs false p s) :
  Calls Tryz.prog 39 #[.pointer (some ⟨g, 0, none⟩), .int .i64 k, .int .i64 d] w fun e w' => e = .returned (.tuple #[]) ∧ Below w0.heap.size w0 w' ∧ LkAt w0 w' g vh vp vs false p s := by
 have hu2 := Tryz.underlying76;have hu3 := Tryz.underlying29;have HB := z_ hB;have HW := z_ hW;obtain ⟨d0, d1, d2, d3⟩ := qbB hW.2.1;have d4 := qau hW.2.1 3;clear hB hW
 go_enter Tryz.func39, Tryz.ntmps39
 go_wp2_with fail
 ((try simp only [Exit.inBlock, Exit.then]); refine bodyPost_ret (results_none rfl _ _ _) rfl ?_)
 exact ⟨rfl, HB.o.setCell (p := ⟨g, 3, none⟩) HW.o.1 _, HW.o.qfh false⟩
theorem qix (ns : List S80) (w0 : World) (Ah : Option Addr) (ch : Nat) (hh : Kd.C k80 w0 Ah ns.length ns) (hbd : qfe ns) (root : Int) (hr : root ≠ -1) (w : World) (g : Nat) (vp vs : Value) (hB : Below w0.heap.size w0 w) (hW : LkAt w0 w g (.slice Ah ns.length ch) vp vs ((ns.length : Int) == 50) [] noneW) :
  Calls Tryz.prog 39 #[.pointer (some ⟨g, 0, none⟩), .int .i64 root, .int .i64 0] w fun e w' => e = .returned (.tuple #[]) ∧ Below w0.heap.size w0 w' ∧ ∃ vp' vs' : Value, LkAt w0 w' g (.slice Ah ns.length ch) vp' vs' (lookW ns root).1 (lookW ns root).2.2 (lookW ns root).2.1 := by
 by_cases hl : ns.length = 50
 ·rw [show ((ns.length : Int) == 50) = true from by rw [hl]; rfl] at hW;refine (qlM ns w0 Ah ch hh hl hbd 21 root 0 noneW [] w g vp vs zdM zdM qf7 hB hW).mono ?_;rintro e w' ⟨rfl, h1, _, vp', vs', h2⟩;unfold lookW;rw [if_pos hl, if_neg hr];exact ⟨rfl, h1, vp', vs', h2⟩
 ·rw [show ((ns.length : Int) == 50) = false from beq_eq_false_iff_ne.2 zdM] at hW;refine (qiw w0 root 0 noneW [] w g _ vp vs hB hW).mono ?_;rintro e w' ⟨rfl, h1, h2⟩;unfold lookW;rw [if_neg hl];exact ⟨rfl, h1, vp, vs, h2⟩
def qcG (ns : List S80) : Bool := ns.all fun x => decide (x.f3.length ≤ 1048576)
theorem qew {ns : List S80} : qcG ns = true ↔ qfe ns := by
 unfold qcG qfe;rw [List.all_eq_true];exact ⟨fun h x hx => of_decide_eq_true (h x hx), fun h x hx => decide_eq_true (h x hx)⟩
def qcp.f (u0 : List S80) (a1 : Int) : Option (List S61 × List Bool × Bool) := if qcG u0 = true then some (walkR u0 a1) else none
theorem qkB (ns : List S80) : lookW ns (-1) = (((ns.length : Int) == 50), noneW, []) := by
 unfold lookW
 by_cases hl : ns.length = 50
 ·rw [if_pos hl, if_pos rfl, hl];rfl
 ·rw [if_neg hl, show ((ns.length : Int) == 50) = false from beq_eq_false_iff_ne.2 zdM]
theorem qcp.calls (I0 : Option Addr) (H0 : Nat) (u0 : List S80) (a1 : Int) (r1 : List S61) (r2 : List Bool) (r3 : Bool) (w : World) (Z0 : Kd.C k80 w I0 u0.length u0) (Q1 : u0.length ≤ H0) (h : qcp.f u0 a1 = some (r1, r2, r3)) :
  Calls Tryz.prog 19 #[.agg #[.slice I0 u0.length H0], .int .i64 a1] w fun e w' => ∃ B7 ME : Value, e = .returned (.tuple #[B7, ME, .bool r3]) ∧ Kd.R k61 61 w' w.heap.size (fun _ => True) B7 r1 ∧ Kd.R Kd.bool 4 w' w.heap.size (fun _ => True) ME r2 ∧ Below w.heap.size w w' := by
 unfold qcp.f at h;have hbd : qfe u0 := by
  by_cases hb : qcG u0 = true
  ·exact qew.1 hb
  ·rw [if_neg hb] at h
   cases h
 rw [if_pos (qew.2 hbd)] at h;have hu := Tryz.underlying29;have hu2 := Tryz.underlying76;have hu3 := Tryz.underlying42;have sf := Tryz.underlying45;have HR := z_ Z0;have HBD := z_ hbd;have HH := z_ (Option.some.inj h);obtain ⟨w1, hw1⟩ : ∃ w1, w1 = w.alloc (.cells #[.slice I0 u0.length H0] 29 (0, 0)) := ⟨_, rfl⟩
 have HB1 := z_ (show Below w.heap.size w w1 from hw1 ▸ qaA (Below.refl _ w) _);have KO := z_ (show w1.heap[w.heap.size]? = some (.cells #[.slice I0 u0.length H0] 29 (0, 0)) from hw1 ▸ qbz w _);clear h Z0 hbd
 go_enter Tryz.func19, Tryz.ntmps19
 go_upto_region 1 with fail
 rw [← hw1];have t9 := z_ (qaq KO.o);have L3 := z_ (qba HB1.o);clear hw1 HB1 KO;refine qdv (n := 10) (S := fun w' => True) (ds := []) zArrF10 zdG rfl rfl trivial (fun hHeld => ?_);refine qbU sWalk.tab1 sWalk.bits1 (fun E2 r8 => ?_);generalize w1.drew = wd at t9 L3 ⊢;refine qer [0, 1, 2, 3, 4, 5, 6, 7, 8, 9] (fun TE b a w' => ∃ (Az : Option Addr) (cz : Nat) (As : Option Addr) (cs : Nat) (gw : Nat) (g6 : Value) (i6 : Value) (N3 : Value) (iG : Value) (PG : Value), a = qbH TE b [(0, 9, .agg #[.slice I0 u0.length H0]), (1, 10, g6), (2, 11, i6), (3, 12, .pointer (some ⟨w.heap.size, 0, none⟩)), (4, 13, .slice I0 u0.length H0), (5, 14, .int .i64 (u0.length : Int)), (6, 15, .bool ((u0.length : Int) == 50)), (7, 16, N3), (8, 17, iG), (9, 7, PG)] ∧ (w'.heap[w.heap.size]? = some (.cells #[.slice I0 u0.length H0] 29 (0, 0))) ∧ (Below w.heap.size w w') ∧ (b 1 = true → Kd.R k61 61 w' w.heap.size (fun _ => True) (.slice Az 0 cz) []) ∧ (b 2 = true → Kd.R Kd.bool 4 w' w.heap.size (fun _ => True) (.slice As noneW.length cs) noneW) ∧ (b 8 = true → w'.heap[gw]? = some (.cells #[.slice I0 u0.length H0, .slice Az 0 cz, .slice As noneW.length cs, .bool ((u0.length : Int) == 50)] 76 (0, 0))) ∧ (b 8 = true → w.heap.size ≤ gw) ∧ (b 1 = true → (g6 : Value) = .slice Az 0 cz) ∧ (b 2 = true → (i6 : Value) = .slice As noneW.length cs) ∧ (b 7 = true → (N3 : Value) = .agg #[.slice I0 u0.length H0, .slice Az 0 cz, .slice As noneW.length cs, .bool ((u0.length : Int) == 50)]) ∧ (b 8 = true → (iG : Value) = .pointer (some ⟨gw, 0, none⟩)) ∧ (b 9 = true → (PG : Value) = .pointer (some ⟨gw, 0, none⟩))) E2.o r8.o zdG zdG ?_ ?_ ?_
 ·exact ⟨none, 0, none, 0, 0, .bool false, .bool false, .bool false, .bool false, .bool false, zbB, t9.o, L3.o, fun h_ => absurd h_ zdK, fun h_ => absurd h_ zdK, fun h_ => absurd h_ zdK, fun h_ => absurd h_ zdK, fun h_ => absurd h_ zdK, fun h_ => absurd h_ zdK, fun h_ => absurd h_ zdK, fun h_ => absurd h_ zdK, fun h_ => absurd h_ zdK⟩
 ·skip;clear t9 L3;refine zsteps_ rfl ?_ ?_
  ·rintro b a w' ⟨Az, cz, As, cs, gw, g6, i6, N3, iG, PG, ha, QT⟩ hb_ hon hoff K hK;have e2 : a.tmps[2]? = some (.pointer (some ⟨w.heap.size, 0, none⟩)) := zcj;replace ha := z_ ha;have t9 := z_ QT.1;have yF : w'.cell? ⟨w.heap.size, 0, none⟩ = some (.slice I0 u0.length H0) := qac t9.o 0;refine qaT (w1 := w') (v := .agg #[.slice I0 u0.length H0]) zdO rfl zci ?_;refine hK.o _ _ ⟨Az, cz, As, cs, gw, g6, i6, N3, iG, PG, zbJ, QT⟩
  refine zsteps_ rfl ?_ ?_
  ·rintro b a w' ⟨Az, cz, As, cs, gw, g6, i6, N3, iG, PG, ha, U2, D2, TA, P3, k5, F5, U3, l4, L4, FE, nH⟩ hb_ hon hoff K hK;replace ha := z_ ha;have t9 := z_ U2;have L3 := z_ D2;refine Kd.qfX k61 w.heap.size 61 zdO (N := 10) zdO (xs := ([] : List S61)) (inner := []) (ok := fun _ => True) (okp := fun _ => True) ?hr ?hp (fun _ hk => hk) trivial L3.o L3.o.size zdN ?_
   case hr => first | (go_simp; done) | (go_simp; rfl)
   case hp => exact Reps.none _ _
   intro v1 w1 ho1 hb1 hg1 hn1;obtain ⟨TX, LT, bH, _, _⟩ := Kd.qa4 ho1;subst bH;refine hK.o _ _ ⟨TX, LT, As, cs, gw, (.slice TX 0 LT), i6, N3, iG, PG, zbK, qbe t9.o hg1 zdN, hb1, fun _ => ho1, fun qB => Kd.qh7 (P3 qB) hg1 (fun _ _ h => zdJ), nf_ (hoff 8 zdG), nf_ (hoff 8 zdG), fun _ => rfl, l4, nf_ (hoff 7 zdG), nf_ (hoff 8 zdG), nf_ (hoff 9 zdG)⟩
  refine zsteps_ rfl ?_ ?_
  ·rintro b a w' ⟨Az, cz, As, cs, gw, g6, i6, N3, iG, PG, ha, U2, D2, TA, P3, k5, F5, U3, l4, L4, FE, nH⟩ hb_ hon hoff K hK;replace ha := z_ ha;have t9 := z_ U2;have L3 := z_ D2;refine Kd.qfm Kd.bool (w0 := w) w.heap.size 4 zdO (N := 11) zdO 42 _ _ zdO 50 zdO zdO Tryz.underlying42 (.bool false) 1 info4 rfl zdK zdM false (ok := fun _ => True) (okp := fun _ => True) rfl (fun _ hk => hk) trivial zdM zdK L3.o L3.o.size ?_;intro v1 w1 ho1 hb1 hg1 hn1;have ho2 : Kd.R Kd.bool 4 w1 w.heap.size (fun _ => True) v1 noneW := ho1;obtain ⟨JY, lB, bH, _, _⟩ := Kd.qa4 ho2;subst bH;refine hK.o _ _ ⟨Az, cz, JY, lB, gw, g6, (.slice JY noneW.length lB), N3, iG, PG, zbL, qbe t9.o hg1 zdN, hb1, fun qB => Kd.qh7 (TA qB) hg1 (fun _ _ h => zdJ), fun _ => ho2, nf_ (hoff 8 zdG), nf_ (hoff 8 zdG), U3, fun _ => rfl, nf_ (hoff 7 zdG), nf_ (hoff 8 zdG), nf_ (hoff 9 zdG)⟩
  refine zsteps_ rfl ?_ ?_
  ·rintro b a w' ⟨Az, cz, As, cs, gw, g6, i6, N3, iG, PG, ha, QT⟩ hb_ hon hoff K hK;have e2 : a.tmps[2]? = some (.pointer (some ⟨w.heap.size, 0, none⟩)) := zcj;replace ha := z_ ha;refine qaT (w1 := w') (v := .pointer (some ⟨w.heap.size, 0, none⟩)) zdO rfl zci ?_;refine hK.o _ _ ⟨Az, cz, As, cs, gw, g6, i6, N3, iG, PG, zbM, QT⟩
  refine zsteps_ rfl ?_ ?_
  ·rintro b a w' ⟨Az, cz, As, cs, gw, g6, i6, N3, iG, PG, ha, QT⟩ hb_ hon hoff K hK;have e12 : a.tmps[12]? = some (.pointer (some ⟨w.heap.size, 0, none⟩)) := zon_ ha 3 rfl rfl hon;replace ha := z_ ha;have t9 := z_ QT.1;have yF : w'.cell? ⟨w.heap.size, 0, none⟩ = some (.slice I0 u0.length H0) := qac t9.o 0;refine qaT (w1 := w') (v := .slice I0 u0.length H0) zdO rfl zci ?_;refine hK.o _ _ ⟨Az, cz, As, cs, gw, g6, i6, N3, iG, PG, zbN, QT⟩
  refine zsteps_ rfl ?_ ?_
  ·rintro b a w' ⟨Az, cz, As, cs, gw, g6, i6, N3, iG, PG, ha, QT⟩ hb_ hon hoff K hK;have e13 : a.tmps[13]? = some (.slice I0 u0.length H0) := zon_ ha 4 rfl rfl hon;replace ha := z_ ha;refine qaT (w1 := w') (v := .int .i64 (u0.length : Int)) zdO rfl zci ?_;refine hK.o _ _ ⟨Az, cz, As, cs, gw, g6, i6, N3, iG, PG, zbO, QT⟩
  refine zsteps_ rfl ?_ ?_
  ·rintro b a w' ⟨Az, cz, As, cs, gw, g6, i6, N3, iG, PG, ha, QT⟩ hb_ hon hoff K hK;have e14 : a.tmps[14]? = some (.int .i64 (u0.length : Int)) := zon_ ha 5 rfl rfl hon;replace ha := z_ ha;refine qaT (w1 := w') (v := .bool ((u0.length : Int) == 50)) zdO rfl zci ?_;refine hK.o _ _ ⟨Az, cz, As, cs, gw, g6, i6, N3, iG, PG, zbP, QT⟩
  refine zsteps_ rfl ?_ ?_
  ·rintro b a w' ⟨Az, cz, As, cs, gw, g6, i6, N3, iG, PG, ha, U2, D2, TA, P3, k5, F5, U3, l4, L4, FE, nH⟩ hb_ hon hoff K hK;have e9 : a.tmps[9]? = some (.agg #[.slice I0 u0.length H0]) := zon_ ha 0 rfl rfl hon;have e10 : a.tmps[10]? = some (g6) := zon_ ha 1 rfl rfl hon;rw [U3 (hon 1 zdG)] at e10;have e11 : a.tmps[11]? = some (i6) := zon_ ha 2 rfl rfl hon;rw [l4 (hon 2 zdG)] at e11;have e15 : a.tmps[15]? = some (.bool ((u0.length : Int) == 50)) := zon_ ha 6 rfl rfl hon;replace ha := z_ ha;refine qaT (w1 := w') (v := .agg #[.slice I0 u0.length H0, .slice Az 0 cz, .slice As noneW.length cs, .bool ((u0.length : Int) == 50)]) zdO rfl zci ?_;refine hK.o _ _ ⟨Az, cz, As, cs, gw, g6, i6, (.agg #[.slice I0 u0.length H0, .slice Az 0 cz, .slice As noneW.length cs, .bool ((u0.length : Int) == 50)]), iG, PG, zbQ, U2, D2, TA, P3, nf_ (hoff 8 zdG), nf_ (hoff 8 zdG), U3, l4, fun _ => rfl, nf_ (hoff 8 zdG), nf_ (hoff 9 zdG)⟩
  refine zsteps_ rfl ?_ ?_
  ·rintro b a w' ⟨Az, cz, As, cs, gw, g6, i6, N3, iG, PG, ha, U2, D2, TA, P3, k5, F5, U3, l4, L4, FE, nH⟩ hb_ hon hoff K hK;have e16 : a.tmps[16]? = some (N3) := zon_ ha 7 rfl rfl hon;rw [L4 (hon 7 zdG)] at e16;replace ha := z_ ha;have t9 := z_ U2;have L3 := z_ D2;have Gd := z_ (TA (hon 1 zdG));have SG := z_ (P3 (hon 2 zdG));refine qaT (w1 := w'.alloc (.cells #[.slice I0 u0.length H0, .slice Az 0 cz, .slice As noneW.length cs, .bool ((u0.length : Int) == 50)] 76 (0, 0))) (v := .pointer (some ⟨w'.heap.size, 0, none⟩)) zdO rfl zdt ?_;refine hK.o _ _ ⟨Az, cz, As, cs, w'.heap.size, g6, i6, N3, (.pointer (some ⟨w'.heap.size, 0, none⟩)), PG, zbS, qam t9.o _, qaA L3.o _, fun _ => Kd.qbm Gd.o _, fun _ => Kd.qbm SG.o _, fun _ => qbz w' _, fun _ => L3.o.size, U3, l4, L4, fun _ => rfl, nf_ (hoff 9 zdG)⟩
  refine zsteps_ rfl ?_ ?_
  ·rintro b a w' ⟨Az, cz, As, cs, gw, g6, i6, N3, iG, PG, ha, U2, D2, TA, P3, k5, F5, U3, l4, L4, FE, nH⟩ hb_ hon hoff K hK;have e17 : a.tmps[17]? = some (iG) := zon_ ha 8 rfl rfl hon;rw [FE (hon 8 zdG)] at e17;replace ha := z_ ha;refine qaT (w1 := w') (v := .pointer (some ⟨gw, 0, none⟩)) zdO rfl zci ?_;refine hK.o _ _ ⟨Az, cz, As, cs, gw, g6, i6, N3, iG, (.pointer (some ⟨gw, 0, none⟩)), zbT, U2, D2, TA, P3, k5, F5, U3, l4, L4, FE, fun _ => rfl⟩
  exact qcC
 rintro b a wA hall ⟨Az, cz, As, cs, gw, g6, i6, N3, iG, PG, ha, U2, D2, TA, P3, k5, F5, U3, l4, L4, FE, nH⟩;clear t9 L3;have Z4 := hall 0 zdG;have i3 := hall 1 zdG;have J4 := hall 2 zdG;have o4 := hall 3 zdG;have D4 := hall 4 zdG;have Q5 := hall 5 zdG;have H4 := hall 6 zdG;have q7 := hall 7 zdG;have y7 := hall 8 zdG;have i8 := hall 9 zdG;subst ha;obtain rfl := U3 i3;obtain rfl := l4 J4;obtain rfl := L4 q7;obtain rfl := FE y7;obtain rfl := nH i8;simp only [qbH, Z4, i3, J4, o4, D4, Q5, H4, q7, y7, i8, if_true, Act.put, List.setIfInBounds_toArray, List.set_cons_zero, List.set_cons_succ];have t9 := z_ U2;clear U2;have L3 := z_ D2;clear D2;have Gd := z_ (TA i3);clear TA;have SG := z_ (P3 J4);clear P3;have FX := z_ (k5 y7);clear k5;have EX := z_ (F5 y7);clear F5 hall Z4 i3 J4 o4 D4 Q5 H4 q7 y7 i8 t9;have yR := z_ (show LkAt w wA gw (.slice I0 u0.length H0) (.slice Az 0 cz) (.slice As noneW.length cs) ((u0.length : Int) == 50) [] noneW from ⟨EX.o, FX.o, SG.o, Gd.o⟩);clear EX FX SG Gd;obtain ⟨b, S, P, hlk⟩ : ∃ b S P, lookW u0 a1 = (b, S, P) := ⟨_, _, _, rfl⟩
 have HRt := z_ (show walkR u0 a1 = (P, S, ((b && riseB P) && decide (P.length ≤ 60))) from by unfold walkR; rw [hlk]);have hI := qfM u0 a1;rw [hlk] at hI;have HIt := z_ hI;have HLK := z_ hlk;clear hI hlk
 go_upto_if 19 with fail
 go_cut [18] (fun v18 wc => v18 = .int .i64 a1 ∧ ∃ vp vs : Value, Aside0 (LkAt w wc gw (.slice I0 u0.length H0) vp vs b P S) ∧ Aside0 (Below w.heap.size w wc))
 case first =>
  by_cases hm : a1 = -1
  ·have c1 : (a1 != -1) = false := by rw [hm]; rfl
   have he := (show lookW u0 a1 = (((u0.length : Int) == 50), noneW, []) from by rw [hm]; exact qkB u0).symm.trans HLK.o;simp only [Prod.mk.injEq] at he;obtain ⟨e1, e2, e3⟩ := he;have HWt := z_ (show LkAt w wA gw (.slice I0 u0.length H0) (.slice Az 0 cz) (.slice As noneW.length cs) b P S from by rw [← e1, ← e2, ← e3]; exact yR.o);clear e1 e2 e3 yR hm
   go_wp2_with fail
   go_meet
   case rel => exact ⟨rfl, _, _, HWt, L3⟩
  ·have c1 : (a1 != -1) = true := bne_iff_ne.2 hm;have HC := z_ (qix u0 w I0 H0 HR.o HBD.o a1 hm wA gw _ _ L3.o yR.o);clear hm
   go_wp2_with fail
   refine HC.o.mono ?_;rintro e w2 ⟨rfl, hb2, am, vs2, hl2⟩;rw [HLK.o] at hl2;have HWt := z_ hl2;have HBt := z_ hb2;clear hl2 hb2 HC
   go_wp2_with fail
   go_meet
   case rel => exact ⟨rfl, _, _, HWt, HBt⟩
 case rest =>
  obtain ⟨rfl, am, vs2, HWt, HBt⟩ := hcut;clear yR L3 HLK;obtain ⟨vpA, vpc, ev, _, _⟩ := Kd.qa4 HWt.o.2.2.2;subst ev;obtain ⟨vsA, vsc, ev, _, _⟩ := Kd.qa4 HWt.o.2.2.1;subst ev;have hroom : P.length + 3 * S.count false ≤ 150 := HIt.o.room;have hpl : P.length ≤ 150 := zdM;clear hroom HIt
  go_upto_region 5 with fail
  go_loopw [8] (fun v8 wr => ∃ (i : Nat) (c : Bool), 1 ≤ i ∧ (i ≤ P.length ∨ i = 1) ∧ v8 = .int .i64 (i : Int) ∧ Aside0 (LkAt w wr gw (.slice I0 u0.length H0) (.slice vpA P.length vpc) (.slice vsA S.length vsc) c P S) ∧ Aside0 (Below w.heap.size w wr) ∧ Aside0 ((c && qdg (qea P) i (P.length - i)) = (b && riseB P))) (fun v8 _ => P.length - (intOf v8).toNat)
  case atStart => exact ⟨1, b, zdM, .inr rfl, rfl, HWt, HBt, ⟨rfl⟩⟩
  case round =>
   clear HWt HBt;obtain ⟨i, q, hi1, hi, rfl, HWr, HBr, HEr⟩ := hrel;obtain ⟨d0, d1, d2, d3⟩ := qbB HWr.o.2.1
   by_cases hlt : i < P.length
   ·have c5 : decide ((i : Int) < (P.length : Int)) = true := decide_eq_true zdM;obtain ⟨j, hj⟩ : ∃ j, i = j + 1 := ⟨i - 1, zdM⟩
    subst hj;have hall : qdg (qea P) (j + 1) (P.length - (j + 1)) = (qea P (j + 1) && qdg (qea P) (j + 1 + 1) (P.length - (j + 1 + 1))) := by
     rw [show P.length - (j + 1) = (P.length - (j + 1 + 1)) + 1 from zdM];rfl
    have hE := HEr.o;rw [hall] at hE;have HE := z_ hE;obtain ⟨gp, cp, ev, _⟩ := Kd.qcS HWr.o.2.2.2 zdM;injection ev with ev1 _ ev2
    subst ev1; subst ev2;have HWJ := z_ (show IntKind.i64.wrap (j : Int) = (j : Int) from zcK);have HJ := z_ hlt;obtain ⟨k1, hk1⟩ : ∃ k1, k1 = qdJ P j := ⟨_, rfl⟩
    obtain ⟨k2, hk2⟩ : ∃ k2, k2 = qdJ P (j + 1) := ⟨_, rfl⟩
    have hkl : qea P (j + 1) = Op.bytesLess k1.toList k2.toList := by unfold qea; rw [hk1, hk2]; rfl
    have HKL := z_ hkl;have I5 := z_ hk1.symm;have tQ := z_ hk2.symm;have hlt2 : j + 1 < P.length := hlt;clear hE hall HEr hk1 hk2 hkl hi hi1
    go_upto_region 7 with fail
    clear c5
    cases q with
    | false =>
     have HE2 := z_ (show (false && qdg (qea P) (j + 1 + 1) (P.length - (j + 1 + 1))) = (b && riseB P) from by have h := HE.o; rw [Bool.false_and] at h; rw [Bool.false_and]; exact h);refine qcE 27 1 zdG rfl zdG ?_;dsimp only [List.take]
     repeat (first | go_big_quiet_step (fail) | quiet_step (fail))
     refine wpQuiet_nil ?_;rintro _ ⟨n0, rfl⟩;have HWn := z_ (HWr.o.below (qaG (Below.refl _ wr) n0));have HBn := z_ (qaG HBr.o n0);have d4 := qau HWn.o.2.1 3;have d5 := (qbB HWn.o.2.1).2.2.2;clear d0 d1 d2 d3 HWr HBr;refine qiv (i := 27) rfl zdG zdG (fun K hK => ?_);go_simp;refine hK.o _ _ ?_
     go_wp2_with fail
     go_roundw
     case rel => exact ⟨j + 1 + 1, false, zdM, zdM, zdL, ⟨HWn.o.qfh false⟩, ⟨HBn.o.setCell (p := ⟨gw, 3, none⟩) HWn.o.1 _⟩, HE2⟩
     case measure => simp [intOf]; omega
    | true =>
     obtain ⟨bl, hless⟩ : ∃ bl, Op.bytesLess k1.toList k2.toList = bl := ⟨_, rfl⟩
     have HE2 := z_ (show (bl && qdg (qea P) (j + 1 + 1) (P.length - (j + 1 + 1))) = (b && riseB P) from by have h := HE.o; rw [HKL.o, hless, Bool.true_and] at h; exact h);have HLS := z_ hless;clear hless;have q1 := qgB HWr.o.2.2.2 (j := j) zdM;have q2 := qgB HWr.o.2.2.2 (j := j + 1) hlt2;rw [I5.o] at q1;rw [tQ.o] at q2;have y1 : (j : Int) < (P.length : Int) := zdM;have y0 : 0 ≤ (j : Int) := zdM;have y2 : ((j + 1 : Nat) : Int) < (P.length : Int) := zdM;have y6 : 0 ≤ ((j + 1 : Nat) : Int) := zdM;have hw := HWJ.o;have hls := HLS.o;refine qcE 27 1 zdG rfl zdG ?_;dsimp only [List.take]
     repeat (first | go_big_quiet_step (fail) | quiet_step (fail))
     refine wpQuiet_nil ?_;rintro _ ⟨n0, rfl⟩;have HWn := z_ (HWr.o.below (qaG (Below.refl _ wr) n0));have HBn := z_ (qaG HBr.o n0);have d4 := qau HWn.o.2.1 3;have d5 := (qbB HWn.o.2.1).2.2.2;clear d0 d1 d2 d3 HWr HBr q1 q2;refine qiv (i := 27) rfl zdG zdG (fun K hK => ?_);go_simp;refine hK.o _ _ ?_
     go_wp2_with fail
     go_roundw
     case rel => exact ⟨j + 1 + 1, bl, zdM, zdM, zdL, ⟨HWn.o.qfh bl⟩, ⟨HBn.o.setCell (p := ⟨gw, 3, none⟩) HWn.o.1 _⟩, HE2⟩
     case measure => simp [intOf]; omega
   ·have c5 : decide ((i : Int) < (P.length : Int)) = false := decide_eq_false zdM;have hE := HEr.o;rw [show P.length - i = 0 from zdM, qdg, Bool.and_true] at hE;have HE := z_ hE;clear hE HEr
    go_upto_region 8 with fail
    clear c5
    cases q with
    | false =>
     go_big_quiet (fail)
     have HWn := z_ (HWr.o.below (qaG (Below.refl _ wr) nq));have HBn := z_ (qaG HBr.o nq)
     go_wp2_with fail
     ((try simp only [Exit.inBlock, Exit.then]); refine bodyPost_ret (results_tmp3 rfl _ _ _) rfl ?_)
     have hR := HRt.o;rw [← HE.o, HH.o] at hR;simp only [Prod.mk.injEq, Bool.false_and] at hR;obtain ⟨rfl, rfl, rfl⟩ := hR;exact ⟨_, _, rfl, HWn.o.2.2.2, HWn.o.2.2.1, HBn.o⟩
    | true =>
     obtain ⟨ble, hle⟩ : ∃ ble, decide (P.length ≤ 60) = ble := ⟨_, rfl⟩
     have HLE := z_ (show decide ((P.length : Int) ≤ 60) = ble from by rw [← hle]; exact decide_eq_decide.2 zdM);have qn := z_ hle;clear hle;have hle := HLE.o
     go_big_quiet (fail)
     have HWn := z_ (HWr.o.below (qaG (Below.refl _ wr) nq));have HBn := z_ (qaG HBr.o nq)
     go_wp2_with fail
     ((try simp only [Exit.inBlock, Exit.then]); refine bodyPost_ret (results_tmp3 rfl _ _ _) rfl ?_)
     have hR := HRt.o;rw [← HE.o, HH.o, qn.o] at hR;simp only [Prod.mk.injEq, Bool.true_and] at hR;obtain ⟨rfl, rfl, rfl⟩ := hR;exact ⟨_, _, rfl, HWn.o.2.2.2, HWn.o.2.2.1, HBn.o⟩
def qdk.f (k : Nat) (l0 : List (S61)) : Option (Bool) := if (l0.length : Int) ≤ 60 then ((qay.f k l0).bind fun FS => (some FS)) else (some false)
theorem qdk.calls (k : Nat) (A0 : Option Addr) (c0 : Nat) (l0 : List (S61)) (r : Bool) (w : World) (hr0 : Kd.C k61 w A0 l0.length l0) (hc0 : l0.length ≤ c0) (h : qdk.f k l0 = some r) :
  Calls Tryz.prog 94 #[.slice A0 l0.length c0] w fun e w' => e = .returned (.bool r) ∧ Below w.heap.size w w' := by
 have Z1 := z_ hr0;have kB := z_ hc0;clear hr0 hc0;have HB := z_ (Below.refl w.heap.size w);have H : (if (l0.length : Int) ≤ 60 then ((qay.f k l0).bind fun FS => (some FS)) else (some false)) = some r := h;clear h
 by_cases c2 : (l0.length : Int) ≤ 60
 ·rw [if_pos c2] at H;have RA : decide ((l0.length : Int) ≤ 60) = true := decide_eq_true c2;have VE : decide (l0.length ≤ 60) = true := decide_eq_true zdM;clear c2;replace H := Option.bind_eq_some_iff.mp H;obtain ⟨FS, GE, H⟩ := H;try dsimp only at H
  have A3 := z_ GE;clear GE;obtain rfl := Option.some.inj H
  go_enter Tryz.func94, Tryz.ntmps94
  go_wp2_with (first | (go_at_call 111; (with_reducible refine (qay.calls k _ _ l0 FS _ ?side1 ?side2 A3.o).mono ?_); (case side1 => exact zae Z1.o); (case side2 => exact kB.o); rintro e w4 ⟨rfl, hb⟩; replace HB := z_ (qaa zar hb); (try clear hb)))
  go_ret
  exact ⟨zaM, zar⟩
 ·rw [if_neg c2] at H;have RA : decide ((l0.length : Int) ≤ 60) = false := decide_eq_false c2;have VE : decide (l0.length ≤ 60) = false := decide_eq_false zdM;clear c2;obtain rfl := Option.some.inj H
  go_enter Tryz.func94, Tryz.ntmps94
  go_wp2
  go_ret
  exact ⟨zaM, zar⟩
theorem qeX (l : List S61) : Ev (fun k => qdk.f k l) (qdY l) := by
 unfold qdk.f qdY
 by_cases h : (l.length : Int) ≤ 60
 ·exact Ev.pos h (Ev.bind (qg8 l zdM) (Ev.is (by simp [show l.length ≤ 60 from zdM])))
 ·exact Ev.neg h (Ev.is zcv)
def qfi.T3 : Bool × List (List Nat × List Nat) := (true, [([], []), ([], []), ([0, 1], [0, 1]), ([2], [2]), ([3, 0, 1, 2, 3], [3])])
def qfi.B3 : List Nat := [0, 0, 3, 7, 15]
theorem qfi.tab3 : rtab .any (opsOf Tryz.f62 3) = qfi.T3 := zdG
theorem qfi.bits3 : qbW qfi.T3.2 qfi.B3 = true := zdG
theorem qlN (ns : List S80) (root : Int) (A : Option Addr) (c : Nat) (w : World) (hr : Kd.C k80 w A ns.length ns) (hbd : qfe ns) (hno : (walkR ns root).2.2 = false) : Calls Tryz.prog 62 #[.agg #[.slice A ns.length c], .int .i64 root] w fun e w' => e = .returned (.pointer none) ∧ Below w.heap.size w w' := by
 have hu := Tryz.underlying29;have hu2 := Tryz.underlying105;have hu3 := Tryz.underlying42;have HR := z_ hr;obtain ⟨w1, hw1⟩ : ∃ w1, w1 = w.alloc (.cells #[.slice A ns.length c] 29 (0, 0)) := ⟨_, rfl⟩
 have HB1 := z_ (show Below w.heap.size w w1 from hw1 ▸ qaA (Below.refl _ w) _);have KO := z_ (show w1.heap[w.heap.size]? = some (.cells #[.slice A ns.length c] 29 (0, 0)) from hw1 ▸ qbz w _)
 by_cases hl : ns.length = 50
 ·have c1 : ((ns.length : Int) != 50) = false := by rw [hl]; rfl
  have hin := qgT root (-1) 49
  cases hr : inB root (-1) 49 with
  | false =>
   rw [hr] at hin;have HIN := z_ hin;clear hno hl hbd hin hr
   go_enter Tryz.func62, Tryz.ntmps62
   go_wp2_with fail
   refine (qb2.calls _ _ _ _ _ HIN.o).mono ?_;rintro e w2 ⟨rfl, hdr⟩;rw [← hw1] at hdr;have HB2 := z_ (qaa HB1.o hdr.below);clear hdr
   go_wp2_with fail
   go_ret
   exact ⟨rfl, HB2.o⟩
  | true =>
   have hrg : -1 ≤ root ∧ root ≤ 49 := by unfold inB at hr; simpa using hr
   rw [hr] at hin;have HIN := z_ hin;have HRG := z_ hrg;have HL := z_ hl;have HBD := z_ hbd;have HNO := z_ hno;clear hno hl hbd hin hr hrg
   go_enter Tryz.func62, Tryz.ntmps62
   go_wp2_with fail
   refine (qb2.calls _ _ _ _ _ HIN.o).mono ?_;rintro e w2 ⟨rfl, hdr⟩;rw [← hw1] at hdr;have HB2 := z_ (qaa HB1.o hdr.below);have kQ := z_ (qab KO.o hdr.below);clear hdr hw1 HB1 KO
   go_upto_region 3 with fail
   have t9 := z_ (qaq kQ.o);have L3 := z_ (qba HB2.o);clear HB2 kQ c1;refine qdv (n := 5) (S := fun w' => True) (ds := []) #[false, false, false, false, false] zdG rfl rfl trivial (fun hHeld => ?_);refine qbU qfi.tab3 qfi.bits3 (fun E2 r8 => ?_);generalize w2.drew = wd at t9 L3 ⊢;refine qer [0, 1, 2, 3, 4] (fun TE b a w' => ∃ (As : Option Addr) (cs : Nat) (gw : Nat) (g6 : Value) (i6 : Value) (P9 : Value) (U4 : Value), a = qbH TE b [(0, 15, .agg #[.slice A ns.length c]), (1, 16, g6), (2, 17, i6), (3, 18, P9), (4, 5, U4)] ∧ (w'.heap[w.heap.size]? = some (.cells #[.slice A ns.length c] 29 (0, 0))) ∧ (Below w.heap.size w w') ∧ (b 1 = true → Kd.R Kd.bool 4 w' w.heap.size (fun _ => True) (.slice As noneW.length cs) noneW) ∧ (b 3 = true → w'.heap[gw]? = some (.cells #[.slice A ns.length c, .slice As noneW.length cs, .slice none 0 0] 105 (0, 0))) ∧ (b 3 = true → w.heap.size ≤ gw) ∧ (b 1 = true → (g6 : Value) = .slice As noneW.length cs) ∧ (b 2 = true → (i6 : Value) = .agg #[.slice A ns.length c, .slice As noneW.length cs, .slice none 0 0]) ∧ (b 3 = true → (P9 : Value) = .pointer (some ⟨gw, 0, none⟩)) ∧ (b 4 = true → (U4 : Value) = .pointer (some ⟨gw, 0, none⟩))) E2.o r8.o zdG zdG ?_ ?_ ?_
   ·exact ⟨none, 0, 0, .bool false, .bool false, .bool false, .bool false, zbB, t9.o, L3.o, fun h_ => absurd h_ zdK, fun h_ => absurd h_ zdK, fun h_ => absurd h_ zdK, fun h_ => absurd h_ zdK, fun h_ => absurd h_ zdK, fun h_ => absurd h_ zdK, fun h_ => absurd h_ zdK⟩
   ·skip;clear t9 L3;refine zsteps_ rfl ?_ ?_
    ·rintro b a w' ⟨As, cs, gw, g6, i6, P9, U4, ha, QT⟩ hb_ hon hoff K hK;have e2 : a.tmps[2]? = some (.pointer (some ⟨w.heap.size, 0, none⟩)) := zcj;replace ha := z_ ha;have t9 := z_ QT.1;have yF : w'.cell? ⟨w.heap.size, 0, none⟩ = some (.slice A ns.length c) := qac t9.o 0;refine qaT (w1 := w') (v := .agg #[.slice A ns.length c]) zdO rfl zci ?_;refine hK.o _ _ ⟨As, cs, gw, g6, i6, P9, U4, zbJ, QT⟩
    refine zsteps_ rfl ?_ ?_
    ·rintro b a w' ⟨As, cs, gw, g6, i6, P9, U4, ha, U2, D2, P3, k5, F5, U3, l4, y8, Q3⟩ hb_ hon hoff K hK;replace ha := z_ ha;have t9 := z_ U2;have L3 := z_ D2;refine Kd.qfm Kd.bool (w0 := w) w.heap.size 4 zdO (N := 16) zdO 42 _ _ zdO 50 zdO zdO Tryz.underlying42 (.bool false) 1 info4 rfl zdK zdM false (ok := fun _ => True) (okp := fun _ => True) rfl (fun _ hk => hk) trivial zdM zdK L3.o L3.o.size ?_;intro v1 w1 ho1 hb1 hg1 hn1;have ho2 : Kd.R Kd.bool 4 w1 w.heap.size (fun _ => True) v1 noneW := ho1;obtain ⟨JY, lB, bH, _, _⟩ := Kd.qa4 ho2;subst bH;refine hK.o _ _ ⟨JY, lB, gw, (.slice JY noneW.length lB), i6, P9, U4, zbK, qbe t9.o hg1 zdN, hb1, fun _ => ho2, nf_ (hoff 3 zdG), nf_ (hoff 3 zdG), fun _ => rfl, nf_ (hoff 2 zdG), nf_ (hoff 3 zdG), nf_ (hoff 4 zdG)⟩
    refine zsteps_ rfl ?_ ?_
    ·rintro b a w' ⟨As, cs, gw, g6, i6, P9, U4, ha, U2, D2, P3, k5, F5, U3, l4, y8, Q3⟩ hb_ hon hoff K hK;have e15 : a.tmps[15]? = some (.agg #[.slice A ns.length c]) := zon_ ha 0 rfl rfl hon;have e16 : a.tmps[16]? = some (g6) := zon_ ha 1 rfl rfl hon;rw [U3 (hon 1 zdG)] at e16;replace ha := z_ ha;refine qaT (w1 := w') (v := .agg #[.slice A ns.length c, .slice As noneW.length cs, .slice none 0 0]) zdO rfl zci ?_;refine hK.o _ _ ⟨As, cs, gw, g6, (.agg #[.slice A ns.length c, .slice As noneW.length cs, .slice none 0 0]), P9, U4, zbL, U2, D2, P3, nf_ (hoff 3 zdG), nf_ (hoff 3 zdG), U3, fun _ => rfl, nf_ (hoff 3 zdG), nf_ (hoff 4 zdG)⟩
    refine zsteps_ rfl ?_ ?_
    ·rintro b a w' ⟨As, cs, gw, g6, i6, P9, U4, ha, U2, D2, P3, k5, F5, U3, l4, y8, Q3⟩ hb_ hon hoff K hK;have e17 : a.tmps[17]? = some (i6) := zon_ ha 2 rfl rfl hon;rw [l4 (hon 2 zdG)] at e17;replace ha := z_ ha;have t9 := z_ U2;have L3 := z_ D2;have SG := z_ (P3 (hon 1 zdG));refine qaT (w1 := w'.alloc (.cells #[.slice A ns.length c, .slice As noneW.length cs, .slice none 0 0] 105 (0, 0))) (v := .pointer (some ⟨w'.heap.size, 0, none⟩)) zdO rfl zdt ?_;refine hK.o _ _ ⟨As, cs, w'.heap.size, g6, i6, (.pointer (some ⟨w'.heap.size, 0, none⟩)), U4, zbM, qam t9.o _, qaA L3.o _, fun _ => Kd.qbm SG.o _, fun _ => qbz w' _, fun _ => L3.o.size, U3, l4, fun _ => rfl, nf_ (hoff 4 zdG)⟩
    refine zsteps_ rfl ?_ ?_
    ·rintro b a w' ⟨As, cs, gw, g6, i6, P9, U4, ha, U2, D2, P3, k5, F5, U3, l4, y8, Q3⟩ hb_ hon hoff K hK;have e18 : a.tmps[18]? = some (P9) := zon_ ha 3 rfl rfl hon;rw [y8 (hon 3 zdG)] at e18;replace ha := z_ ha;refine qaT (w1 := w') (v := .pointer (some ⟨gw, 0, none⟩)) zdO rfl zci ?_;refine hK.o _ _ ⟨As, cs, gw, g6, i6, P9, (.pointer (some ⟨gw, 0, none⟩)), zbN, U2, D2, P3, k5, F5, U3, l4, y8, fun _ => rfl⟩
    exact qcC
   rintro b a wA hall ⟨As, cs, gw, g6, i6, P9, U4, ha, U2, D2, P3, k5, F5, U3, l4, y8, Q3⟩;clear t9 L3;have Z4 := hall 0 zdG;have i3 := hall 1 zdG;have J4 := hall 2 zdG;have o4 := hall 3 zdG;have D4 := hall 4 zdG;subst ha;obtain rfl := U3 i3;obtain rfl := l4 J4;obtain rfl := y8 o4;obtain rfl := Q3 D4;simp only [qbH, Z4, i3, J4, o4, D4, if_true, Act.put, List.setIfInBounds_toArray, List.set_cons_zero, List.set_cons_succ];have t9 := z_ U2;clear U2;have L3 := z_ D2;clear D2;have SG := z_ (P3 i3);clear P3;have FX := z_ (k5 o4);clear k5;have EX := z_ (F5 o4);clear F5 hall Z4 i3 J4 o4 D4 t9;have yR := z_ (show WkAt w wA gw (.slice A ns.length c) (.slice As noneW.length cs) (.slice none 0 0) noneW [] from ⟨EX.o, FX.o, SG.o, Kd.qdW _ _ _ _ _⟩);clear EX FX SG
   by_cases h0 : 0 ≤ root
   ·obtain ⟨k, rfl⟩ : ∃ k : Nat, root = (k : Int) := ⟨root.toNat, zdM⟩
    have hk : k < 50 := zdd;have c2 : decide (0 ≤ (k : Int)) = true := decide_eq_true h0;have hres : lookW ns (k : Int) = walkW ns 21 (k : Int) noneW [] := zbx;have HRES := z_ hres;obtain ⟨rb, S2, P2, hlk⟩ : ∃ rb S2 P2, walkW ns 21 (k : Int) noneW [] = (rb, S2, P2) := ⟨_, _, _, rfl⟩
    have hw := qjj ns w A c HR.o HL.o HBD.o 21 k 0 noneW [] wA gw _ _ hk zdM zdM qf7 L3.o yR.o;rw [hlk] at hw hres;have HLK := z_ hres;have HCW := z_ hw;clear hlk hres hw h0
    go_wp2_with fail
    refine HCW.o.mono ?_;rintro e w3 ⟨rfl, hb3, _, hst⟩
    cases rb with
    | false =>
     go_wp2_with fail
     go_ret
     exact ⟨rfl, hb3⟩
    | true =>
     obtain ⟨vs3, vp3, hw3⟩ := hst rfl;obtain ⟨vpA, vpc, ev, hvc, _⟩ := Kd.qa4 hw3.2.2.2;subst ev;obtain ⟨d0, d1, d2, _⟩ := cells3 hw3.2.1;obtain ⟨ko, hko⟩ := Ev.rounds (qeX P2);have hok : qdY P2 = false := by
      have h := HNO.o;rw [qd4, HLK.o] at h
      simpa using h
     rw [hok] at hko;have HKO := z_ hko;clear hko hok hst
     go_wp2_with fail
     refine (qdk.calls (hr0 := (Kd.qbb hw3.2.2.2).2.2) (hc0 := (Kd.qbb hw3.2.2.2).2.1) (h := HKO.o)).mono ?_;rintro e w4 ⟨rfl, hb4⟩;have MA := z_ (qaa hb3 hb4);have kU := z_ (hw3.below hb4);clear hb3 hb4 hw3 d0 d1 d2
     go_wp2_with fail
     go_ret
     exact ⟨rfl, MA.o⟩
   ·have e0 : root = -1 := zdd;have h := HNO.o;rw [qd4] at h;unfold lookW at h;rw [if_pos HL.o, if_pos e0] at h;exact absurd h zdK
 ·have c1 : ((ns.length : Int) != 50) = true := bne_iff_ne.2 zdM;clear hno hl hbd
  go_enter Tryz.func62, Tryz.ntmps62
  go_wp2_with fail
  go_ret
  rw [← hw1];exact ⟨rfl, HB1.o⟩
theorem qga (ns : List S80) (root : Int) (A : Option Addr) (c : Nat) (w : World) (hr : Kd.C k80 w A ns.length ns) (hbd : qfe ns) (hno : (walkR ns root).2.2 = true) : Calls Tryz.prog 62 #[.agg #[.slice A ns.length c], .int .i64 root] w fun e w' => ∃ (g : Nat) (vs vp : Value), e = .returned (.pointer (some ⟨g, 0, none⟩)) ∧ WkAt w w' g (.slice A ns.length c) vs vp (walkR ns root).2.1 (walkR ns root).1 ∧ Below w.heap.size w w' := by
 have hu := Tryz.underlying29;have hu2 := Tryz.underlying105;have hu3 := Tryz.underlying42;have HR := z_ hr;obtain ⟨w1, hw1⟩ : ∃ w1, w1 = w.alloc (.cells #[.slice A ns.length c] 29 (0, 0)) := ⟨_, rfl⟩
 have HB1 := z_ (show Below w.heap.size w w1 from hw1 ▸ qaA (Below.refl _ w) _);have KO := z_ (show w1.heap[w.heap.size]? = some (.cells #[.slice A ns.length c] 29 (0, 0)) from hw1 ▸ qbz w _)
 by_cases hl : ns.length = 50
 ·have c1 : ((ns.length : Int) != 50) = false := by rw [hl]; rfl
  have hin := qgT root (-1) 49
  cases hr : inB root (-1) 49 with
  | false =>
   rw [qlD hr] at hno
   cases hno
  | true =>
   have hrg : -1 ≤ root ∧ root ≤ 49 := by unfold inB at hr; simpa using hr
   rw [hr] at hin;have HIN := z_ hin;have HRG := z_ hrg;have HL := z_ hl;have HBD := z_ hbd;have HNO := z_ hno;clear hno hl hbd hin hr hrg
   go_enter Tryz.func62, Tryz.ntmps62
   go_wp2_with fail
   refine (qb2.calls _ _ _ _ _ HIN.o).mono ?_;rintro e w2 ⟨rfl, hdr⟩;rw [← hw1] at hdr;have HB2 := z_ (qaa HB1.o hdr.below);have kQ := z_ (qab KO.o hdr.below);clear hdr hw1 HB1 KO
   go_upto_region 3 with fail
   have t9 := z_ (qaq kQ.o);have L3 := z_ (qba HB2.o);clear HB2 kQ c1;refine qdv (n := 5) (S := fun w' => True) (ds := []) #[false, false, false, false, false] zdG rfl rfl trivial (fun hHeld => ?_);refine qbU qfi.tab3 qfi.bits3 (fun E2 r8 => ?_);generalize w2.drew = wd at t9 L3 ⊢;refine qer [0, 1, 2, 3, 4] (fun TE b a w' => ∃ (As : Option Addr) (cs : Nat) (gw : Nat) (g6 : Value) (i6 : Value) (P9 : Value) (U4 : Value), a = qbH TE b [(0, 15, .agg #[.slice A ns.length c]), (1, 16, g6), (2, 17, i6), (3, 18, P9), (4, 5, U4)] ∧ (w'.heap[w.heap.size]? = some (.cells #[.slice A ns.length c] 29 (0, 0))) ∧ (Below w.heap.size w w') ∧ (b 1 = true → Kd.R Kd.bool 4 w' w.heap.size (fun _ => True) (.slice As noneW.length cs) noneW) ∧ (b 3 = true → w'.heap[gw]? = some (.cells #[.slice A ns.length c, .slice As noneW.length cs, .slice none 0 0] 105 (0, 0))) ∧ (b 3 = true → w.heap.size ≤ gw) ∧ (b 1 = true → (g6 : Value) = .slice As noneW.length cs) ∧ (b 2 = true → (i6 : Value) = .agg #[.slice A ns.length c, .slice As noneW.length cs, .slice none 0 0]) ∧ (b 3 = true → (P9 : Value) = .pointer (some ⟨gw, 0, none⟩)) ∧ (b 4 = true → (U4 : Value) = .pointer (some ⟨gw, 0, none⟩))) E2.o r8.o zdG zdG ?_ ?_ ?_
   ·exact ⟨none, 0, 0, .bool false, .bool false, .bool false, .bool false, zbB, t9.o, L3.o, fun h_ => absurd h_ zdK, fun h_ => absurd h_ zdK, fun h_ => absurd h_ zdK, fun h_ => absurd h_ zdK, fun h_ => absurd h_ zdK, fun h_ => absurd h_ zdK, fun h_ => absurd h_ zdK⟩
   ·skip;clear t9 L3;refine zsteps_ rfl ?_ ?_
    ·rintro b a w' ⟨As, cs, gw, g6, i6, P9, U4, ha, QT⟩ hb_ hon hoff K hK;have e2 : a.tmps[2]? = some (.pointer (some ⟨w.heap.size, 0, none⟩)) := zcj;replace ha := z_ ha;have t9 := z_ QT.1;have yF : w'.cell? ⟨w.heap.size, 0, none⟩ = some (.slice A ns.length c) := qac t9.o 0;refine qaT (w1 := w') (v := .agg #[.slice A ns.length c]) zdO rfl zci ?_;refine hK.o _ _ ⟨As, cs, gw, g6, i6, P9, U4, zbJ, QT⟩
    refine zsteps_ rfl ?_ ?_
    ·rintro b a w' ⟨As, cs, gw, g6, i6, P9, U4, ha, U2, D2, P3, k5, F5, U3, l4, y8, Q3⟩ hb_ hon hoff K hK;replace ha := z_ ha;have t9 := z_ U2;have L3 := z_ D2;refine Kd.qfm Kd.bool (w0 := w) w.heap.size 4 zdO (N := 16) zdO 42 _ _ zdO 50 zdO zdO Tryz.underlying42 (.bool false) 1 info4 rfl zdK zdM false (ok := fun _ => True) (okp := fun _ => True) rfl (fun _ hk => hk) trivial zdM zdK L3.o L3.o.size ?_;intro v1 w1 ho1 hb1 hg1 hn1;have ho2 : Kd.R Kd.bool 4 w1 w.heap.size (fun _ => True) v1 noneW := ho1;obtain ⟨JY, lB, bH, _, _⟩ := Kd.qa4 ho2;subst bH;refine hK.o _ _ ⟨JY, lB, gw, (.slice JY noneW.length lB), i6, P9, U4, zbK, qbe t9.o hg1 zdN, hb1, fun _ => ho2, nf_ (hoff 3 zdG), nf_ (hoff 3 zdG), fun _ => rfl, nf_ (hoff 2 zdG), nf_ (hoff 3 zdG), nf_ (hoff 4 zdG)⟩
    refine zsteps_ rfl ?_ ?_
    ·rintro b a w' ⟨As, cs, gw, g6, i6, P9, U4, ha, U2, D2, P3, k5, F5, U3, l4, y8, Q3⟩ hb_ hon hoff K hK;have e15 : a.tmps[15]? = some (.agg #[.slice A ns.length c]) := zon_ ha 0 rfl rfl hon;have e16 : a.tmps[16]? = some (g6) := zon_ ha 1 rfl rfl hon;rw [U3 (hon 1 zdG)] at e16;replace ha := z_ ha;refine qaT (w1 := w') (v := .agg #[.slice A ns.length c, .slice As noneW.length cs, .slice none 0 0]) zdO rfl zci ?_;refine hK.o _ _ ⟨As, cs, gw, g6, (.agg #[.slice A ns.length c, .slice As noneW.length cs, .slice none 0 0]), P9, U4, zbL, U2, D2, P3, nf_ (hoff 3 zdG), nf_ (hoff 3 zdG), U3, fun _ => rfl, nf_ (hoff 3 zdG), nf_ (hoff 4 zdG)⟩
    refine zsteps_ rfl ?_ ?_
    ·rintro b a w' ⟨As, cs, gw, g6, i6, P9, U4, ha, U2, D2, P3, k5, F5, U3, l4, y8, Q3⟩ hb_ hon hoff K hK;have e17 : a.tmps[17]? = some (i6) := zon_ ha 2 rfl rfl hon;rw [l4 (hon 2 zdG)] at e17;replace ha := z_ ha;have t9 := z_ U2;have L3 := z_ D2;have SG := z_ (P3 (hon 1 zdG));refine qaT (w1 := w'.alloc (.cells #[.slice A ns.length c, .slice As noneW.length cs, .slice none 0 0] 105 (0, 0))) (v := .pointer (some ⟨w'.heap.size, 0, none⟩)) zdO rfl zdt ?_;refine hK.o _ _ ⟨As, cs, w'.heap.size, g6, i6, (.pointer (some ⟨w'.heap.size, 0, none⟩)), U4, zbM, qam t9.o _, qaA L3.o _, fun _ => Kd.qbm SG.o _, fun _ => qbz w' _, fun _ => L3.o.size, U3, l4, fun _ => rfl, nf_ (hoff 4 zdG)⟩
    refine zsteps_ rfl ?_ ?_
    ·rintro b a w' ⟨As, cs, gw, g6, i6, P9, U4, ha, U2, D2, P3, k5, F5, U3, l4, y8, Q3⟩ hb_ hon hoff K hK;have e18 : a.tmps[18]? = some (P9) := zon_ ha 3 rfl rfl hon;rw [y8 (hon 3 zdG)] at e18;replace ha := z_ ha;refine qaT (w1 := w') (v := .pointer (some ⟨gw, 0, none⟩)) zdO rfl zci ?_;refine hK.o _ _ ⟨As, cs, gw, g6, i6, P9, (.pointer (some ⟨gw, 0, none⟩)), zbN, U2, D2, P3, k5, F5, U3, l4, y8, fun _ => rfl⟩
    exact qcC
   rintro b a wA hall ⟨As, cs, gw, g6, i6, P9, U4, ha, U2, D2, P3, k5, F5, U3, l4, y8, Q3⟩;clear t9 L3;have Z4 := hall 0 zdG;have i3 := hall 1 zdG;have J4 := hall 2 zdG;have o4 := hall 3 zdG;have D4 := hall 4 zdG;subst ha;obtain rfl := U3 i3;obtain rfl := l4 J4;obtain rfl := y8 o4;obtain rfl := Q3 D4;simp only [qbH, Z4, i3, J4, o4, D4, if_true, Act.put, List.setIfInBounds_toArray, List.set_cons_zero, List.set_cons_succ];have t9 := z_ U2;clear U2;have L3 := z_ D2;clear D2;have SG := z_ (P3 i3);clear P3;have FX := z_ (k5 o4);clear k5;have EX := z_ (F5 o4);clear F5 hall Z4 i3 J4 o4 D4 t9;have yR := z_ (show WkAt w wA gw (.slice A ns.length c) (.slice As noneW.length cs) (.slice none 0 0) noneW [] from ⟨EX.o, FX.o, SG.o, Kd.qdW _ _ _ _ _⟩);clear EX FX SG
   by_cases h0 : 0 ≤ root
   ·obtain ⟨k, rfl⟩ : ∃ k : Nat, root = (k : Int) := ⟨root.toNat, zdM⟩
    have hk : k < 50 := zdd;have c2 : decide (0 ≤ (k : Int)) = true := decide_eq_true h0;have hres : lookW ns (k : Int) = walkW ns 21 (k : Int) noneW [] := zbx;have HRES := z_ hres;obtain ⟨rb, S2, P2, hlk⟩ : ∃ rb S2 P2, walkW ns 21 (k : Int) noneW [] = (rb, S2, P2) := ⟨_, _, _, rfl⟩
    have hw := qjj ns w A c HR.o HL.o HBD.o 21 k 0 noneW [] wA gw _ _ hk zdM zdM qf7 L3.o yR.o;rw [hlk] at hw hres;have HLK := z_ hres;have HCW := z_ hw;clear hlk hres hw h0
    go_wp2_with fail
    refine HCW.o.mono ?_;rintro e w3 ⟨rfl, hb3, _, hst⟩
    cases rb with
    | false =>
     have h := HNO.o;rw [qd4, HLK.o] at h
     cases h
    | true =>
     obtain ⟨vs3, vp3, hw3⟩ := hst rfl;obtain ⟨vpA, vpc, ev, hvc, _⟩ := Kd.qa4 hw3.2.2.2;subst ev;obtain ⟨d0, d1, d2, _⟩ := cells3 hw3.2.1;obtain ⟨ko, hko⟩ := Ev.rounds (qeX P2);have hok : qdY P2 = true := by
      have h := HNO.o;rw [qd4, HLK.o] at h
      simpa using h
     rw [hok] at hko;have HKO := z_ hko;clear hko hok hst
     go_wp2_with fail
     refine (qdk.calls (hr0 := (Kd.qbb hw3.2.2.2).2.2) (hc0 := (Kd.qbb hw3.2.2.2).2.1) (h := HKO.o)).mono ?_;rintro e w4 ⟨rfl, hb4⟩;have MA := z_ (qaa hb3 hb4);have kU := z_ (hw3.below hb4);clear hb3 hb4 hw3 d0 d1 d2
     go_wp2_with fail
     go_ret
     have h1 : (walkR ns (k : Int)).2.1 = S2 := zcO;have h2 : (walkR ns (k : Int)).1 = P2 := zcO;rw [h1, h2];exact ⟨gw, _, _, rfl, kU.o, MA.o⟩
   ·have e0 : root = -1 := zdd;subst e0;have hlk : lookW ns (-1) = (true, noneW, []) := by unfold lookW; rw [if_pos HL.o, if_pos rfl]
    have HLK := z_ hlk;obtain ⟨ko, hko⟩ := Ev.rounds (qeX ([] : List S61));rw [show qdY ([] : List S61) = true from rfl] at hko;have HKO := z_ hko;obtain ⟨d0, d1, d2, _⟩ := cells3 yR.o.2.1;clear hko hlk h0
    go_wp2_with fail
    have HN := z_ (show Kd.C k61 wA none ([] : List S61).length [] from (Kd.qbb yR.o.2.2.2).2.2);refine (qdk.calls ko none 0 [] true wA HN.o (Nat.le_refl _) HKO.o).mono ?_;rintro e w4 ⟨rfl, hb4⟩;have MA := z_ (qaa L3.o hb4);have kU := z_ (yR.o.below hb4);clear hb4 d0 d1 d2
    go_wp2_with fail
    go_ret
    have h1 : (walkR ns (-1)).2.1 = noneW := zcO;have h2 : (walkR ns (-1)).1 = [] := zcO;rw [h1, h2];exact ⟨gw, _, _, rfl, kU.o, MA.o⟩
 ·rw [qfw hl] at hno
  cases hno
def orTo (a b : List Bool) (j : Nat) : List Bool := (List.range 50).map fun (i : Nat) => rdOf false a (i : Int) || (decide (i < j) && rdOf false b (i : Int))
def orW (a b : List Bool) : List Bool := orTo a b 50
def qbx (ns : List S80) (rs : List Int) : List Bool := rs.foldl (fun o r => orW o (walkR ns r).2.1) noneW
theorem qc8 (a b : List Bool) (j : Nat) : (orTo a b j).length = 50 := by unfold orTo; simp
theorem qfO {l : List Bool} {i : Nat} (h : i < l.length) : rdOf false l (i : Int) = l[i] := by
 unfold rdOf;rw [Int.toNat_natCast];simp [List.getD_eq_getElem?_getD, h]
theorem qfa (a b : List Bool) (j i : Nat) (h : i < 50) : rdOf false (orTo a b j) (i : Int) = (rdOf false a (i : Int) || (decide (i < j) && rdOf false b (i : Int))) := by
 rw [qfO (by rw [qc8]; exact h)];unfold orTo;simp
theorem qjk (a b : List Bool) (h : a.length = 50) : orTo a b 0 = a := by
 refine List.ext_getElem (by rw [qc8, h]) fun i h1 h2 => ?_
 rw [← qfO h1, qfa a b 0 i zdM, qfO zdM];simp
theorem qjl (a b : List Bool) (j : Nat) (h : j < 50) : (orTo a b j).set j (rdOf false a (j : Int) || rdOf false b (j : Int)) = orTo a b (j + 1) := by
 refine List.ext_getElem (by rw [List.length_set, qc8, qc8]) fun i h1 h2 => ?_
 rw [qc8] at h2;rw [← qfO (l := orTo a b (j + 1)) (by rw [qc8]; exact h2), qfa a b (j + 1) i h2]
 by_cases e : i = j
 ·subst e;rw [List.getElem_set_self];simp
 ·rw [List.getElem_set_ne (fun h => e h.symm), ← qfO (l := orTo a b j) (by rw [qc8]; exact h2), qfa a b j i h2]
  congr 2
  by_cases h3 : i < j
  ·rw [decide_eq_true h3, decide_eq_true zdM]
  ·rw [decide_eq_false h3, decide_eq_false zdM]
def qex.f (u0 : List S80) (l1 : List Int) : Option (List Bool) := if qcG u0 = true ∧ l1.length ≤ 1000000 ∧ ∀ r, r ∈ l1 → (walkR u0 r).2.2 = true then some (qbx u0 l1) else none
theorem qex.calls (I0 : Option Addr) (H0 : Nat) (u0 : List S80) (A1 : Option Addr) (c1 : Nat) (l1 : List Int) (r : List Bool) (w : World) (Z0 : Kd.C k80 w I0 u0.length u0) (Q1 : u0.length ≤ H0) (hr1 : Kd.C (Kd.int .i64) w A1 l1.length l1) (hc1 : l1.length ≤ c1) (h : qex.f u0 l1 = some r) :
  Calls Tryz.prog 101 #[.agg #[.slice I0 u0.length H0], .slice A1 l1.length c1] w fun e w' => ∃ B7 : Value, e = .returned (B7) ∧ Kd.R Kd.bool 4 w' w.heap.size (fun _ => True) B7 r ∧ Below w.heap.size w w' := by
 unfold qex.f at h;have hbd : qcG u0 = true ∧ l1.length ≤ 1000000 ∧ ∀ r, r ∈ l1 → (walkR u0 r).2.2 = true := by
  by_cases hb : qcG u0 = true ∧ l1.length ≤ 1000000 ∧ ∀ r, r ∈ l1 → (walkR u0 r).2.2 = true
  ·exact hb
  ·rw [if_neg hb] at h
   cases h
 rw [if_pos hbd] at h;have hu := Tryz.underlying29;have hu2 := Tryz.underlying105;have hu3 := Tryz.underlying42;have Z1 := z_ Z0;have HR1 := z_ hr1;have hl1 : l1.length ≤ 1000000 := hbd.2.1;have HBD := z_ (And.intro (qew.1 hbd.1) hbd.2.2);have HH := z_ (Option.some.inj h);obtain ⟨w1, hw1⟩ : ∃ w1, w1 = w.alloc (.cells #[.slice I0 u0.length H0] 29 (0, 0)) := ⟨_, rfl⟩
 have HB1 := z_ (show Below w.heap.size w w1 from hw1 ▸ qaA (Below.refl _ w) _);have KO := z_ (show w1.heap[w.heap.size]? = some (.cells #[.slice I0 u0.length H0] 29 (0, 0)) from hw1 ▸ qbz w _);clear h Z0 hr1 hbd
 go_enter Tryz.func101, Tryz.ntmps101
 go_upto_region 1 with fail
 rw [← hw1];clear hw1
 go_wp2_with (first | ((with_reducible refine qaw (N := 10) rfl ?_); refine Kd.qgH Kd.bool (w0 := w) w.heap.size 4 rfl (N := 10) rfl 42 _ _ rfl 50 rfl rfl Tryz.underlying42 (.bool false) 1 info4 rfl zdK zdM false (ok := fun _ => True) (okp := fun _ => True) rfl (fun _ hk => hk) trivial zdM zdK HB1.o HB1.o.size ?_; intro v1 w2 ho1 hb1 hg1 hn1))
 have HO := z_ (show Kd.R Kd.bool 4 w2 w.heap.size (fun _ => True) v1 noneW from ho1);have HB2 := z_ hb1;have kQ := z_ (qbe KO.o hg1 zdN);clear ho1 hb1 hg1 hn1 HB1 KO;obtain ⟨go, co, ev, hgo, hgl, _⟩ := Kd.qcS HO.o zdq;subst ev;have HGO := z_ hgo;have MZ := z_ hgl;clear hgo hgl
 go_upto_region 3 with fail
 go_loopw [13] (fun v13 wr => ∃ (i : Nat) (o : List Bool), i ≤ l1.length ∧ v13 = .int .i64 (i : Int) ∧ Aside0 (o.length = 50) ∧ Aside0 (Kd.R Kd.bool 4 wr w.heap.size (fun _ => True) (.slice (some ⟨go, 0, none⟩) noneW.length co) o) ∧ Aside0 (Below w.heap.size w wr) ∧ Aside0 (wr.heap[w.heap.size]? = some (.cells #[.slice I0 u0.length H0] 29 (0, 0))) ∧ Aside0 (go < wr.heap.size) ∧ Aside0 ((l1.drop i).foldl (fun o r => orW o (walkR u0 r).2.1) o = r)) (fun v13 _ => l1.length - (intOf v13).toNat)
 case atStart => exact ⟨0, noneW, zdM, rfl, ⟨rfl⟩, HO, HB2, kQ, MZ, ⟨HH.o⟩⟩
 case round =>
  clear HO HB2 kQ;obtain ⟨i, o, hi, rfl, HOL, HO, HB, BX, HGL, HE⟩ := hrel
  by_cases hlt : i < l1.length
  ·have c5 : decide ((i : Int) < (l1.length : Int)) = true := decide_eq_true zdM;have i0 : 0 ≤ (i : Int) := zdM;have i1 : (i : Int) < (l1.length : Int) := zdM;obtain ⟨zd, e1, k1⟩ := Kd.qdu HR1.o (i : Int) i0 i1
   cases e1
   obtain ⟨rt, hrt⟩ : ∃ rt, rt = l1[i] := ⟨_, rfl⟩
   have hrd : rd l1 (i : Int) = rt := by
    rw [hrt];unfold rd;simp [List.getD_eq_getElem?_getD, hlt]
   rw [Int.toNat_natCast, hrd] at k1;replace k1 := zmove_ HB rfl k1;have hd : l1.drop i = rt :: l1.drop (i + 1) := by rw [hrt]; exact List.drop_eq_getElem_cons hlt
   have hok := HBD.o.2 rt (by rw [hrt]; exact List.getElem_mem _);have hE := HE.o;rw [hd, List.foldl_cons] at hE;have HE2 := z_ hE;have b0 := qac BX.o 0;simp only [List.getElem?_toArray, List.getElem?_cons_zero] at b0;have HOK := z_ hok;clear hE hd hok hrd hrt HE;obtain ⟨Sn, hSn⟩ : ∃ Sn, Sn = (walkR u0 rt).2.1 := ⟨_, rfl⟩
   have hsl : Sn.length = 50 := by rw [hSn]; exact qg2 _ _
   go_wp2_with fail
   refine (qga u0 rt I0 H0 _ (Kd.qar Z1.o HB.o) HBD.o.1 HOK.o).mono ?_;rintro e w3 ⟨g, vs, vp, rfl, hw, hb⟩;rw [← hSn] at hw HE2;obtain ⟨sA, sc, ev, _, _⟩ := Kd.qa4 hw.2.2.1;subst ev;obtain ⟨d0, d1, d2, _⟩ := cells3 hw.2.1;have HSN := z_ (Kd.qa3 (Kd.qaU (Kd.qb5 hw.2.2.1) (fun k hk => (show wr.heap.size ≤ k from hk.2.1))) HB.o.size);have nR := z_ (Kd.qa7 HO.o hb);have HB3 := z_ (qaa HB.o hb);have jW := z_ (qab BX.o hb);have HSZ := z_ hb.size;have HGN := HGL;have HSL := z_ hsl;clear hb hw b0 k1 hSn hsl HO HB BX;obtain ⟨N0, hN0⟩ : ∃ N0, N0 = wr.heap.size := ⟨_, rfl⟩
   rw [← hN0] at HSN HSZ HGN
   go_upto_region 6 with fail
   clear d0 d1 d2 hN0 HGL
   go_loopw [24] (fun v24 wq => ∃ (j : Nat) (q : List Bool), j ≤ 50 ∧ v24 = .int .i64 (j : Int) ∧ q = orTo o Sn j ∧ Aside0 (Kd.R Kd.bool 4 wq w.heap.size (fun _ => True) (.slice (some ⟨go, 0, none⟩) noneW.length co) q) ∧ Aside0 (Below w.heap.size w wq) ∧ Aside0 (wq.heap[w.heap.size]? = some (.cells #[.slice I0 u0.length H0] 29 (0, 0))) ∧ Aside0 (N0 ≤ wq.heap.size) ∧ Aside0 (Kd.R Kd.bool 4 wq w.heap.size (fun k => N0 ≤ k) (.slice sA Sn.length sc) Sn)) (fun v24 _ => 50 - (intOf v24).toNat)
   case atStart => exact ⟨0, o, zdM, rfl, (qjk o Sn HOL.o).symm, nR, HB3, jW, HSZ, HSN⟩
   case round =>
    clear nR HB3 jW HSZ HSN;obtain ⟨j, q, hj, rfl, hq, HQ, HBq, BXq, HSZ, HSN⟩ := hrel;have hsl := HSL.o
    by_cases hjl : j < 50
    ·have c6 : decide ((j : Int) < (Sn.length : Int)) = true := decide_eq_true zdM;have j0 : 0 ≤ (j : Int) := zdM;have j1 : (j : Int) < (Sn.length : Int) := zdM;have hnl : noneW.length = 50 := zdq;have j2 : (j : Int) < (noneW.length : Int) := zdM;obtain ⟨gs2, cs2, ev, zm, _, _⟩ := Kd.qcS HSN.o zdM;injection ev with ev1 _ ev2
     subst ev1; subst ev2;obtain ⟨x0, x1⟩ := Kd.qc9 false HSN.o (j : Int) j0 j1;obtain ⟨y0, y1⟩ := Kd.qc9 false HQ.o (j : Int) j0 j2;rw [Int.toNat_natCast] at x0 x1 y0 y1;have hqj : rdOf false q (j : Int) = rdOf false o (j : Int) := by rw [hq, qfa o Sn j j hjl]; simp
     have hP := Kd.qgJ HQ.o (j : Int) (rdOf false o (j : Int) || rdOf false Sn (j : Int));rw [Int.toNat_natCast, hq, qjl o Sn j hjl] at hP;rw [hqj] at y0;have HPP := z_ hP;have HSF := z_ (Kd.qbp HSN.o (p := ⟨go, j, none⟩) (fun k hk => by have := HGN.o; show k ≠ go; omega) (.bool (rdOf false o (j : Int) || rdOf false Sn (j : Int))));have BXF := z_ (show (wr.setCell ⟨go, j, none⟩ (.bool (rdOf false o (j : Int) || rdOf false Sn (j : Int)))).heap[w.heap.size]? = some (.cells #[.slice I0 u0.length H0] 29 (0, 0)) from by
      obtain ⟨_, _, _, _, _, cc, hcc⟩ := Kd.qcS HQ.o (by rw [hq, qc8]; omega);rename_i Yl _ _;injection Yl with e4 _ _
      injection e4 with e4
      injection e4 with e4
      subst e4;exact qbD BXq.o (qhO BXq.o hcc zdK) _)
     clear hP hqj hsl hnl;generalize rdOf false o (j : Int) = bo at *;generalize rdOf false Sn (j : Int) = bs at *
     cases bo with
     | true =>
      go_wp2_with fail
      go_roundw
      case rel => exact ⟨j + 1, _, zdM, zdL, rfl, HPP, ⟨HBq.o.setCell (p := ⟨go, j, none⟩) HGO.o _⟩, BXF, ⟨Nat.le_trans HSZ.o ((Below.refl 0 wr).setCell (p := ⟨go, j, none⟩) (Nat.zero_le _) (.bool (true || bs))).size⟩, HSF⟩
      case measure => simp [intOf]; omega
     | false =>
      go_wp2_with fail
      go_roundw
      case rel => exact ⟨j + 1, _, zdM, zdL, rfl, HPP, ⟨HBq.o.setCell (p := ⟨go, j, none⟩) HGO.o _⟩, BXF, ⟨Nat.le_trans HSZ.o ((Below.refl 0 wr).setCell (p := ⟨go, j, none⟩) (Nat.zero_le _) (.bool (false || bs))).size⟩, HSF⟩
      case measure => simp [intOf]; omega
    ·have Hj : j = 50 := zdM;have c6 : decide ((j : Int) < (Sn.length : Int)) = false := decide_eq_false zdM;have c7 : ¬ j < Sn.length := zdM;have xX := z_ (show Kd.R Kd.bool 4 wr w.heap.size (fun _ => True) (.slice (some ⟨go, 0, none⟩) noneW.length co) (orW o Sn) from zbD);clear hq HQ hsl Hj
     go_wp2_with fail
     go_roundw
     case rel => exact ⟨i + 1, orW o Sn, zdM, zdL, ⟨qc8 _ _ _⟩, xX, HBq, BXq, ⟨by have := HSZ.o; have := HGN.o; omega⟩, HE2⟩
     case measure => simp [intOf]; omega
  ·have he : i = l1.length := zdM;have c5 : decide ((i : Int) < (l1.length : Int)) = false := decide_eq_false zdM;have hE := HE.o;rw [he, List.drop_length, List.foldl_nil] at hE;have HE2 := z_ hE;clear hE he HE
   go_wp2_with fail
   go_ret
   rw [← HE2.o];exact ⟨_, rfl, HO.o, HB.o⟩
structure LocalOp (dop : List S61 → List S61) (key : ByteArray) : Prop where
 split : ∀ A B C : List S61, Rises (A ++ B ++ C) → B ≠ [] → (∀ m, A ≠ [] → qcD B = some m → Op.bytesLess key.toList m.toList = false) → (∀ m, qcD C = some m → Op.bytesLess key.toList m.toList = true) → dop (A ++ B ++ C) = A ++ dop B ++ C
 fine : ∀ l, Fine l → Fine (dop l)
 len : ∀ l, (dop l).length ≤ l.length + 1
theorem qd5 {l : List S61} (hf : Fine l) (hl : l.length ≤ 6) (b : List S80 × List Bool × Bool) (d : Nat) : qgo leafF b d (qbJ 3 l) l [] := by
 have node : ∀ c : List S61, Fine c → 1 ≤ c.length → c.length ≤ 3 → qcD c = some (leafF c).1 ∧ NodeB b d (leafF c).2 c [] := fun c h h1 h3 => by
  refine ⟨?_, (qhX h h1 h3).1, (qhX h h1 h3).2, .inl ⟨rfl, rfl, rfl⟩⟩;have hne : c ≠ [] := fun e => by rw [e] at h1; simp at h1
  have := qf8 (p := []) hne
  simpa [leafF] using this
 unfold qbJ
 split
 ·rename_i h;have e := List.take_append_drop ((l.length + 1) / 2) l;have f1 : Fine (l.take ((l.length + 1) / 2)) := qeF (a := []) (c := l.drop ((l.length + 1) / 2)) (by rw [List.nil_append, e]; exact hf);have f2 : Fine (l.drop ((l.length + 1) / 2)) := qeF (a := l.take ((l.length + 1) / 2)) (c := []) (by rw [List.append_nil, e]; exact hf);obtain ⟨a1, a2⟩ := node _ f1 zcM zcM;obtain ⟨b1, b2⟩ := node _ f2 zcL zcL;exact ⟨_, _, [], [], e.symm, rfl, a1, a2, _, [], [], [], zdN, rfl, b1, b2, rfl, rfl⟩
 ·rename_i h
  split
  ·rename_i h0;exact ⟨List.eq_nil_of_length_eq_zero h0, rfl⟩
  ·rename_i h0;obtain ⟨a1, a2⟩ := node l hf zdM zdM;exact ⟨l, [], [], [], zdN, rfl, a1, a2, rfl, rfl⟩
theorem qfP {ms : List (ByteArray × Nat)} {b : List S80 × List Bool × Bool} {d : Nat} {ps : List S61} {pg : List Nat} (h : PD (TrD b.1 d) ms ps pg) (hf : Fine ps) (hn : b.1.length = 50) (hl : ms.length ≤ 8) : qgo qbf b d (qbJ 4 ms) ps pg := by
 have kids : ∀ (ms : List (ByteArray × Nat)) (ps : List S61) (pg : List Nat), PD (TrD b.1 d) ms ps pg → ∀ m, m ∈ ms → m.2 < 50 := by
  intro ms
  induction ms with
  | nil => intro _ _ _ m hm; cases hm
  | cons a r ih =>
   intro ps pg h m hm;obtain ⟨p1, p2, g1, g2, rfl, rfl, h1, _, h3⟩ := h
   rcases List.mem_cons.1 hm with rfl | hm
   ·rw [← hn]; exact (qjS h1).2
   ·exact ih _ _ h3 m hm
 have node : ∀ (c : List (ByteArray × Nat)) (p : List S61) (g : List Nat), PD (TrD b.1 d) c p g → Fine p → 1 ≤ c.length → c.length ≤ 4 → qcD p = some (qbf c).1 ∧ NodeB b d (qbf c).2 p g := fun c p g h hf h1 h4 => by
  obtain ⟨k1, k2⟩ := PD_keys c p g h hf;obtain ⟨r1, r2, r3⟩ := qjT h1 h4 (fun m hm => ⟨(k2 m hm).1, kids c p g h m hm⟩) k1;refine ⟨?_, r1, r2, .inr ⟨rfl, by rw [r3]; exact h⟩⟩
  cases c with
  | nil => simp at h1
  | cons a r =>
   obtain ⟨p1, p2, g1, g2, rfl, rfl, _, h2, _⟩ := h
   cases p1 with
   | nil => cases h2
   | cons x q => exact h2
 unfold qbJ
 split
 ·rename_i hlt;rw [← List.take_append_drop ((ms.length + 1) / 2) ms] at h;obtain ⟨p1, p2, g1, g2, rfl, rfl, t1, t2⟩ := qkm _ _ _ _ h;have f1 : Fine p1 := qeF (a := []) (c := p2) zdx;have f2 : Fine p2 := qeF (a := p1) (c := []) zdx;obtain ⟨a1, a2⟩ := node _ _ _ t1 f1 zcM zcM;obtain ⟨b1, b2⟩ := node _ _ _ t2 f2 zcL zcL;exact ⟨p1, p2, g1, g2, rfl, rfl, a1, a2, p2, [], g2, [], zdN, zdN, b1, b2, rfl, rfl⟩
 ·split
  ·rename_i h0;rw [List.eq_nil_of_length_eq_zero h0] at h;exact h
  ·rename_i h4 h0;obtain ⟨a1, a2⟩ := node ms ps pg h hf zdM zdM;exact ⟨ps, [], pg, [], zdN, zdN, a1, a2, rfl, rfl⟩
theorem qhb {ls : List ByteArray} (key : ByteArray) (h : 0 < ls.length) : qca ls key < ls.length := by
 unfold qca;have := List.findIdx_le_length (xs := ls.drop 1) (p := fun m => Op.bytesLess key.toList m.toList);rw [List.length_drop] at this;omega
theorem qkC {ls : List ByteArray} {key : ByteArray} (h : qca ls key ≠ 0) (hl : qca ls key < ls.length) : Op.bytesLess key.toList (ls[qca ls key]).toList = false := by
 have := List.not_of_lt_findIdx (xs := ls.drop 1) (p := fun m => Op.bytesLess key.toList m.toList) (i := qca ls key - 1) (by unfold qca at h ⊢; omega);rw [List.getElem_drop] at this;simp only [show 1 + (qca ls key - 1) = qca ls key from zdM] at this
 simpa using this
theorem qfy {ls : List ByteArray} {key : ByteArray} (h : qca ls key + 1 < ls.length) : Op.bytesLess key.toList (ls[qca ls key + 1]).toList = true := by
 have := List.findIdx_getElem (xs := ls.drop 1) (p := fun m => Op.bytesLess key.toList m.toList) (w := by rw [List.length_drop]; unfold qca at h; omega);rw [List.getElem_drop] at this;have e : 1 + (ls.drop 1).findIdx (fun m => Op.bytesLess key.toList m.toList) = qca ls key + 1 := by unfold qca; omega
 simp only [e] at this;exact this
theorem qdC (dop : List S61 → List S61) (key : ByteArray) : ∀ (n k : Nat) (b : List S80 × List Bool × Bool), BG b (qbk dop key n k b).2 := by
 intro n
 induction n with
 | zero => intro k b; exact BG.refl b
 | succ n ih =>
  intro k b;unfold qbk
  split
  ·exact qdj _ _ _
  ·exact (ih _ b).trans (qdj _ _ _)
theorem PD_head {T : Nat → List S61 → List Nat → Prop} {m : ByteArray × Nat} {r : List (ByteArray × Nat)} {ps : List S61} {pg : List Nat} (h : PD T (m :: r) ps pg) : qcD ps = some m.1 := by
 obtain ⟨p1, p2, g1, g2, rfl, rfl, _, h2, _⟩ := h
 cases p1 with
 | nil => cases h2
 | cons x q => exact h2
theorem qfb {dop : List S61 → List S61} {key : ByteArray} (hop : LocalOp dop key) : ∀ (n k : Nat) (b : List S80 × List Bool × Bool) (ps : List S61) (pg : List Nat), b.1.length = 50 → b.2.1.length = 50 → TrD b.1 n k ps pg → pg.Nodup → (∀ i, i ∈ pg → qa5 b.2.1 i) → Fine ps → (qbk dop key n k b).2.2.2 = false →
  ((qbk dop key n k b).1.length ≤ 2 ∧ ((∀ l, (dop l).length ≤ l.length) → (qbk dop key n k b).1.length ≤ 1)) ∧ ∃ pg', PD (TrD (qbk dop key n k b).2.1 n) (qbk dop key n k b).1 (dop ps) pg' ∧ pg'.Nodup ∧ (∀ i, i ∈ pg' → qa5 (qbk dop key n k b).2.2.1 i) ∧ (∀ i, i ∈ pg' → i ∈ pg ∨ ¬ qa5 b.2.1 i) := by
 intro n
 induction n with
 | zero => intro k b ps pg _ _ h; exact h.elim
 | succ n ih =>
  intro k b ps pg hl1 hl2 h hn hu hf hful;obtain ⟨x, hx, hb, hfr, h⟩ := h;have hget : b.1.getD k z80 = x := by rw [List.getD_eq_getElem?_getD, hx]; rfl
  unfold qbk at hful ⊢;rw [hget] at hful ⊢
  rcases h with ⟨hlf, rfl, rfl⟩ | ⟨hlf, pg', rfl, hp⟩
  ·rw [if_pos hlf] at hful ⊢;obtain ⟨_, _, _, h3, _⟩ := qdK hb hfr hlf;have hlen := hop.len x.f1;have hfd := hop.fine x.f1 hf;unfold qbA at hful ⊢;obtain ⟨pg', t, nd, us, or⟩ := qev leafF n (qbJ 3 (dop x.f1)) b (dop x.f1) [] zdM (qd5 hfd zdM b n) List.nodup_nil (fun i hi => zdI) hful;refine ⟨⟨by rw [qcX]; exact (qcY 3 _).1, fun hs => by rw [qcX]; exact (qcY 3 _).2 (by have := hs x.f1; omega)⟩, pg', t, nd, us, fun i hi => ?_⟩
   rcases or i hi with h | h
   ·cases h
   ·exact .inr h
  ·rw [if_neg (by rw [hlf]; decide)] at hful ⊢;obtain ⟨e3, e2, elen, _⟩ := qcW hb hfr hlf;obtain ⟨_, k1, k4, klen, _⟩ := qdi hb hfr hlf;have hat := qhb (ls := x.f2) key zdM;have kR : qca x.f2 key < (partsOf x).length := zdM;have hlow := fun h => qkC (ls := x.f2) (key := key) h hat
   have hhigh := fun h => qfy (ls := x.f2) (key := key) h
   have hkey : ∀ (j : Nat) (h1 : j < x.f2.length) (h2 : j < (partsOf x).length), x.f2[j] = (partsOf x)[j].1 := fun j h1 h2 => by
    have : x.f2[j]? = ((partsOf x).map (·.1))[j]? := by rw [← e2]
    rw [List.getElem?_map, List.getElem?_eq_getElem h1, List.getElem?_eq_getElem h2] at this;exact Option.some.inj this
   generalize qca x.f2 key = at_ at *;have hgd : (partsOf x).getD at_ (ByteArray.empty, 0) = (partsOf x)[at_] := by rw [List.getD_eq_getElem?_getD, List.getElem?_eq_getElem kR]; rfl
   rw [hgd] at hful ⊢;have hsp : partsOf x = (partsOf x).take at_ ++ ((partsOf x)[at_] :: (partsOf x).drop (at_ + 1)) := by
    rw [← List.drop_eq_getElem_cons kR, List.take_append_drop]
   rw [hsp] at hp;obtain ⟨pA, pR, gA, gR, rfl, rfl, tA, tR⟩ := qkm _ _ _ _ hp;obtain ⟨pB, pC, gB, gC, rfl, rfl, tB, hB, tC⟩ := tR;have hn1 := List.nodup_cons.1 hn;have hnA := List.nodup_append.1 hn1.2;have hnB := List.nodup_append.1 hnA.2.1;have uA : ∀ i, i ∈ gA → qa5 b.2.1 i := fun i hi => hu i (List.mem_cons_of_mem _ (List.mem_append_left _ hi))
   have uB : ∀ i, i ∈ gB → qa5 b.2.1 i := fun i hi => hu i (List.mem_cons_of_mem _ (List.mem_append_right _ (List.mem_append_left _ hi)))
   have uC : ∀ i, i ∈ gC → qa5 b.2.1 i := fun i hi => hu i (List.mem_cons_of_mem _ (List.mem_append_right _ (List.mem_append_right _ hi)))
   have hf' : Fine (pA ++ pB ++ pC) := by rw [List.append_assoc]; exact hf
   have hbg := qdC dop key n (partsOf x)[at_].2 b;have rh := (qdj qbf (qbJ 4 ((partsOf x).take at_ ++ (qbk dop key n (partsOf x)[at_].2 b).1 ++ (partsOf x).drop (at_ + 1))) (qbk dop key n (partsOf x)[at_].2 b).2).qf9 hful;obtain ⟨⟨l2, l1⟩, gM, tM, nM, uM, oM⟩ := ih (partsOf x)[at_].2 b pB gB hl1 hl2 tB hnB.1 uB (qeF hf') rh;have hBne : pB ≠ [] := fun e => by rw [e] at hB; cases hB
   have hdo : dop (pA ++ (pB ++ pC)) = pA ++ dop pB ++ pC := by
    rw [← List.append_assoc];refine hop.split pA pB pC hf'.2 hBne (fun m hA hm => ?_) (fun m hm => ?_)
    ·have hm2 : m = (partsOf x)[at_].1 := Option.some.inj (hm.symm.trans hB);have h0 : at_ ≠ 0 := fun e => by
      rw [e, List.take_zero] at tA;exact hA tA.1
     rw [hm2, ← hkey at_ hat kR];exact hlow h0
    ·cases hd : (partsOf x).drop (at_ + 1) with
     | nil => rw [hd] at tC; rw [tC.1] at hm; cases hm
     | cons y r =>
      rw [hd] at tC;have hlt : at_ + 1 < (partsOf x).length := by
       have := congrArg List.length hd;rw [List.length_drop, List.length_cons] at this;omega
      have hy : y = (partsOf x)[at_ + 1] := by
       have := List.drop_eq_getElem_cons hlt;rw [hd] at this;injection this with h1 _
      have hm2 : m = y.1 := Option.some.inj (hm.symm.trans (PD_head tC));rw [hm2, hy, ← hkey (at_ + 1) zdM hlt];exact hhigh zdM
   have hfd : Fine (pA ++ dop pB ++ pC) := by rw [← hdo]; exact hop.fine _ hf
   generalize hbq : qbk dop key n (partsOf x)[at_].2 b = q at *;have up : ∀ (ms : List (ByteArray × Nat)) (p : List S61) (g : List Nat), PD (TrD b.1 n) ms p g → (∀ i, i ∈ g → qa5 b.2.1 i) → PD (TrD q.2.1 n) ms p g := fun ms p g t u => qiq _ _ _ (fun k p g' hg ht => qdZ _ _ _ _ (fun i hi => (hbg.stay i (u i (hg i hi))).2) ht) t
   have hdis : ∀ i, i ∈ gM → i ∈ gB ∨ ¬ qa5 b.2.1 i := oM
   have ndall : (gA ++ gM ++ gC).Nodup := by
    refine List.nodup_append.2 ⟨List.nodup_append.2 ⟨hnA.1, nM, fun a ha c hc e => ?_⟩, hnB.2.1, fun a ha c hc e => ?_⟩
    ·subst e
     rcases hdis a hc with h | h
     ·exact hnA.2.2 a ha a (List.mem_append_left _ h) rfl
     ·exact h (uA a ha)
    ·subst e
     rcases List.mem_append.1 ha with ha | ha
     ·exact hnA.2.2 a ha a (List.mem_append_right _ hc) rfl
     ·rcases hdis a ha with h | h
      ·exact hnB.2.2 a h a hc rfl
      ·exact h (uC a hc)
   have usall : ∀ i, i ∈ gA ++ gM ++ gC → qa5 q.2.2.1 i := fun i hi => by
    rcases List.mem_append.1 hi with hi | hi
    ·rcases List.mem_append.1 hi with hi | hi
     ·exact (hbg.stay i (uA i hi)).1
     ·exact uM i hi
    ·exact (hbg.stay i (uC i hi)).1
   have hPD := qjd _ _ _ _ _ _ (qjd _ _ _ _ _ _ (up _ _ _ tA uA) tM) (up _ _ _ tC uC);have hmlen : ((partsOf x).take at_ ++ q.1 ++ (partsOf x).drop (at_ + 1)).length + 1 = (partsOf x).length + q.1.length := by
    rw [List.length_append, List.length_append, List.length_take, List.length_drop];omega
   unfold qbP at hful ⊢;obtain ⟨pg', t, nd, us, or⟩ := qev qbf n (qbJ 4 ((partsOf x).take at_ ++ q.1 ++ (partsOf x).drop (at_ + 1))) q.2 (pA ++ dop pB ++ pC) (gA ++ gM ++ gC) (by rw [hbg.len, hbg.lenu]; omega) (qfP hPD hfd (by rw [hbg.len]; exact hl1) zdM) ndall usall hful;refine ⟨⟨by rw [qcX]; exact (qcY 4 _).1, fun hs => by rw [qcX]; exact (qcY 4 _).2 (by have := l1 hs; omega)⟩, pg', by rw [hdo]; exact t, nd, us, fun i hi => ?_⟩
   rcases or i hi with h | h
   ·rcases List.mem_append.1 h with h | h
    ·rcases List.mem_append.1 h with h | h
     ·exact .inl (List.mem_cons_of_mem _ (List.mem_append_left _ h))
     ·rcases hdis i h with h | h
      ·exact .inl (List.mem_cons_of_mem _ (List.mem_append_right _ (List.mem_append_left _ h)))
      ·exact .inr h
    ·exact .inl (List.mem_cons_of_mem _ (List.mem_append_right _ (List.mem_append_right _ h)))
   ·exact .inr fun hh => h (hbg.stay i hh).1
theorem qhG {a b c : List UInt8} (h : Op.bytesLess a b = true) (k : Op.bytesLess c b = false) : Op.bytesLess a c = true := by
 cases e : Op.bytesLess a c with
 | true => rfl
 | false =>
  cases f : Op.bytesLess c a with
  | true => rw [qcs f h] at k; cases k
  | false => rw [qgU e f, k] at h; cases h
theorem qh0 {A B C : List S61} {key : ByteArray} (hr : Rises (A ++ B ++ C)) (hB : B ≠ []) (h1 : ∀ m, A ≠ [] → qcD B = some m → Op.bytesLess key.toList m.toList = false) (h2 : ∀ m, qcD C = some m → Op.bytesLess key.toList m.toList = true) : (∀ p, p ∈ A → Op.bytesLess p.f0.toList key.toList = true) ∧ (∀ p, p ∈ C → Op.bytesLess key.toList p.f0.toList = true) := by
 have hr1 := List.pairwise_append.1 hr;have hr2 := List.pairwise_append.1 hr1.1
 constructor
 ·intro p hp
  cases B with
  | nil => exact absurd rfl hB
  | cons b B' =>
   have := h1 b.f0 (fun e => by rw [e] at hp; cases hp) rfl;exact qhG (hr2.2.2 p hp b List.mem_cons_self) this
 ·intro p hp
  cases C with
  | nil => cases hp
  | cons c C' =>
   have := h2 c.f0 rfl
   rcases List.mem_cons.1 hp with rfl | hp
   ·exact this
   ·exact qcs this ((List.pairwise_cons.1 hr1.2.1).1 p hp)
theorem qjm {A B C : List S61} {key : ByteArray} (hA : ∀ p, p ∈ A → Op.bytesLess p.f0.toList key.toList = true) (hC : ∀ p, p ∈ C → Op.bytesLess key.toList p.f0.toList = true) : lowAt (A ++ B ++ C) key = A.length + lowAt B key := by
 have hle := qgA B key;refine qkk zbz (fun j hj hlt => ?_) (fun hj => ?_)
 ·by_cases h : j < A.length
  ·rw [List.getElem_append_left zcI, List.getElem_append_left h];exact hA _ (List.getElem_mem _)
  ·rw [List.getElem_append_left zcI, List.getElem_append_right zdM];exact qfL zdM zdM
 ·by_cases h : lowAt B key < B.length
  ·rw [List.getElem_append_left zcI, List.getElem_append_right zdM];have := List.findIdx_getElem (xs := B) (p := fun p : S61 => !Op.bytesLess p.f0.toList key.toList) (w := h);simp only [Nat.add_sub_cancel_left];have h9 : Op.bytesLess (B[lowAt B key]'h).f0.toList key.toList = false := by
    have h8 : (!Op.bytesLess (B[lowAt B key]'h).f0.toList key.toList) = true := this
    simpa using h8
   exact h9
  ·rw [List.getElem_append_right zcI];exact qjN (hC _ (List.getElem_mem _))
theorem qlO {A B C : List S61} {key : ByteArray} (hA : ∀ p, p ∈ A → Op.bytesLess p.f0.toList key.toList = true) (hC : ∀ p, p ∈ C → Op.bytesLess key.toList p.f0.toList = true) : hasAt (A ++ B ++ C) key = hasAt B key := by
 have hle := qgA B key;unfold hasAt;rw [qjm hA hC]
 by_cases h : lowAt B key < B.length
 ·rw [decide_eq_true (show A.length + lowAt B key < (A ++ B ++ C).length from zbz), decide_eq_true h, qgW _ _ (show A.length + lowAt B key < (A ++ B ++ C).length from zbz), qgW _ _ h];rw [List.getElem_append_left zcI, List.getElem_append_right zdM];simp only [Nat.add_sub_cancel_left]
 ·rw [decide_eq_false h, Bool.false_and]
  by_cases h2 : A.length + lowAt B key < (A ++ B ++ C).length
  ·rw [decide_eq_true h2, Bool.true_and, qgW _ _ h2, List.getElem_append_right zcI];refine decide_eq_false fun e => ?_
   have hx := hC _ (List.getElem_mem (l := C) (n := A.length + lowAt B key - (A ++ B).length) (by rw [List.length_append] at h2 ⊢; rw [List.length_append] at h2; omega));rw [e, qco] at hx
   cases hx
  ·rw [decide_eq_false h2];rfl
theorem qlP (key v : ByteArray) (hk : keyB key = true) (hv : v.size ≤ 90) : LocalOp (fun l => putP l key v) key := by
 refine ⟨fun A B C hr hB h1 h2 => ?_, fun l hl => qkl hl hk hv, fun l => by rw [qeE]; split <;> omega⟩;obtain ⟨hA, hC⟩ := qh0 hr hB h1 h2;have hle := qgA B key;unfold putP;rw [qlO hA hC, qjm hA hC]
 split
 ·rename_i h;have hlt := qem h;rw [List.append_assoc, List.set_append_right _ _ zdM, Nat.add_sub_cancel_left, List.set_append_left _ _ hlt, List.append_assoc]
 ·rw [List.append_assoc A B C, List.take_append, List.drop_append, List.take_of_length_le zdM, List.drop_eq_nil_of_le (show A.length ≤ A.length + lowAt B key from zdM), Nat.add_sub_cancel_left, List.take_append_of_le_length hle, List.drop_append_of_le_length hle];simp [List.append_assoc]
def dropF (l : List S61) (key : ByteArray) : List S61 := l.filter fun p => !decide (p.f0.toList = key.toList)
theorem qkD (key : ByteArray) : LocalOp (fun l => dropF l key) key := by
 refine ⟨fun A B C hr hB h1 h2 => ?_, fun l hl => ⟨fun p hp => hl.1 p (List.mem_filter.1 hp).1, hl.2.sublist List.filter_sublist⟩, fun l => by have := List.length_filter_le (fun p : S61 => !decide (p.f0.toList = key.toList)) l; unfold dropF; omega⟩;obtain ⟨hA, hC⟩ := qh0 hr hB h1 h2;unfold dropF;rw [List.filter_append, List.filter_append];have eA : A.filter (fun p => !decide (p.f0.toList = key.toList)) = A := List.filter_eq_self.2 fun p hp => by
  have := hA p hp;simp;intro e;rw [e, qco] at this
  cases this
 have eC : C.filter (fun p => !decide (p.f0.toList = key.toList)) = C := List.filter_eq_self.2 fun p hp => by
  have := hC p hp;simp;intro e;rw [e, qco] at this
  cases this
 rw [eA, eC]
theorem qjn (key : ByteArray) : ∀ l : List S61, (dropF l key).length ≤ l.length := fun l => List.length_filter_le _ _
def qdM (ns : List S80) (d : Nat) (r : Int) (ps : List S61) (pg : List Nat) : Prop := (r = -1 ∧ ps = [] ∧ pg = []) ∨ ∃ k : Nat, r = (k : Int) ∧ TrD ns d k ps pg ∧ pg.Nodup
theorem qfQ (i : Nat) : noneW.getD i false = false := by
 unfold noneW;rw [List.getD_eq_getElem?_getD, List.getElem?_replicate]
 split <;> rfl
theorem qfR {ns : List S80} {d : Nat} {r : Int} {ps : List S61} {pg : List Nat} (hl : ns.length = 50) (hd : d ≤ 21) (h : qdM ns d r ps pg) (hf : Fine ps) (hp : ps.length ≤ 60) : walkR ns r = (ps, markL noneW pg, true) := by
 have hlk : lookW ns r = (true, markL noneW pg, ps) := by
  unfold lookW;rw [if_pos hl]
  rcases h with ⟨rfl, rfl, rfl⟩ | ⟨k, rfl, ht, hn⟩
  ·rw [if_pos rfl]; rfl
  ·rw [if_neg zdM];have := walk_of 21 k ps pg (TrD_deep hd ht) hn noneW [] zbk (fun i _ => qfQ i);rw [List.nil_append] at this;exact this
 have hok : (walkR ns r).2.2 = true := by
  rw [qd4, hlk];simp only [Bool.true_and];exact qeV.2 ⟨hp, hf.1, hf.2⟩
 unfold walkR at hok ⊢;rw [hlk] at hok ⊢;simp only at hok ⊢;rw [hok]
theorem qiy {ns : List S80} {r : Int} (h : (walkR ns r).2.2 = true) : ns.length = 50 ∧ Fine (walkR ns r).1 ∧ (walkR ns r).1.length ≤ 60 ∧ ∃ pg, qdM ns 21 r (walkR ns r).1 pg ∧ (walkR ns r).2.1 = markL noneW pg := by
 have hp := qeV.1 (qjR h);have hl : ns.length = 50 := by
  by_cases e : ns.length = 50
  ·exact e
  ·rw [qfw e] at h; cases h
 refine ⟨hl, ⟨hp.2.1, hp.2.2⟩, hp.1, ?_⟩;rw [qd4, Bool.and_eq_true] at h;have h1 := h.1;unfold walkR;unfold lookW at h1 ⊢;rw [if_pos hl] at h1 ⊢
 by_cases e : r = -1
 ·rw [if_pos e] at h1 ⊢;exact ⟨[], .inl ⟨e, rfl, rfl⟩, rfl⟩
 ·rw [if_neg e] at h1 ⊢;obtain ⟨h0, ps, pg, ht, hn, _, he⟩ := of_walk 21 r noneW [] zbk h1;rw [he, List.nil_append];exact ⟨pg, .inr ⟨r.toNat, zdM, ht, hn⟩, rfl⟩
theorem qgr {ns ns' : List S80} {d : Nat} {r : Int} {ps : List S61} {pg : List Nat} (h : qdM ns d r ps pg) (hs : ∀ i, i ∈ pg → ns'[i]? = ns[i]?) : qdM ns' d r ps pg := by
 rcases h with h | ⟨k, e, ht, hn⟩
 ·exact .inl h
 ·exact .inr ⟨k, e, qdZ _ _ _ _ hs ht, hn⟩
def qcj (ns : List S80) : Nat → Nat → Nat
 | 0, k => k
 | n + 1, k => if (ns.getD k z80).f0 = false ∧ (ns.getD k z80).f3.length = 1 then qcj ns n (rd (ns.getD k z80).f3 0).toNat else k
theorem qjY {ns : List S80} : ∀ (n d k : Nat) (ps : List S61) (pg : List Nat), TrD ns d k ps pg → pg.Nodup → ∃ pg', TrD ns d (qcj ns n k) ps pg' ∧ pg'.Nodup ∧ (∀ i, i ∈ pg' → i ∈ pg) := by
 intro n
 induction n with
 | zero => intro d k ps pg h hn; exact ⟨pg, h, hn, fun i hi => hi⟩
 | succ n ih =>
  intro d k ps pg h hn;unfold qcj
  split
  ·rename_i hc
   cases d with
   | zero => exact h.elim
   | succ d =>
    obtain ⟨x, hx, hb, hf, h⟩ := h;have hget : ns.getD k z80 = x := by rw [List.getD_eq_getElem?_getD, hx]; rfl
    rw [hget] at hc ⊢
    rcases h with ⟨hl, _⟩ | ⟨hl, pg', rfl, hp⟩
    ·rw [hl] at hc; exact absurd hc.1 zdK
    ·obtain ⟨e3, e2, elen, _⟩ := qcW hb hf hl;obtain ⟨m, hm⟩ : ∃ m, partsOf x = [m] := by
      have h1 : (partsOf x).length = 1 := by rw [elen]; exact hc.2
      match hq : partsOf x, h1 with
      | [m], _ => exact ⟨m, rfl⟩
     rw [hm] at hp e3;rw [e3];have hk : (rd ([m].map (fun p : ByteArray × Nat => (p.2 : Int))) 0).toNat = m.2 := by
      show ((m.2 : Nat) : Int).toNat = m.2
      exact Int.toNat_natCast _
     rw [hk];obtain ⟨t, _⟩ := PD_one.1 hp;obtain ⟨g, t2, n2, s2⟩ := ih (d + 1) m.2 ps pg' (qkn _ _ _ _ t) (List.nodup_cons.1 hn).2;exact ⟨g, t2, n2, fun i hi => List.mem_cons_of_mem _ (s2 i hi)⟩
  ·exact ⟨pg, h, hn, fun i hi => hi⟩
def topsB (p : List (ByteArray × Nat) × List S80 × List Bool × Bool) : List (ByteArray × Nat) × List S80 × List Bool × Bool := if 1 < p.1.length then qbP p.1 p.2 else p
def rootOf (q : List (ByteArray × Nat) × List S80 × List Bool × Bool) : Int := match q.1 with
 | [] => -1
 | m :: _ => (qcj q.2.1 22 m.2 : Int)
def onlyN (ns : List S80) (keep : List Bool) : List S80 := (List.range 50).map fun i => if keep.getD i false = true then ns.getD i z80 else z80
theorem qdN {ns : List S80} {keep : List Bool} {i : Nat} (hl : ns.length = 50) (h : qa5 keep i) (hk : keep.length = 50) : (onlyN ns keep)[i]? = ns[i]? := by
 have hi : i < 50 := by
  rcases Nat.lt_or_ge i 50 with h1 | h1
  ·exact h1
  ·unfold qa5 at h;rw [List.getD_eq_getElem?_getD, List.getElem?_eq_none zdM] at h
   cases h
 unfold onlyN;unfold qa5 at h;rw [List.getElem?_map, List.getElem?_range hi, Option.map_some, if_pos h, List.getD_eq_getElem?_getD, List.getElem?_eq_getElem zdM];rfl
theorem qcU (ns : List S80) (keep : List Bool) : (onlyN ns keep).length = 50 := by unfold onlyN; simp
def qbC (h : List S80) (root : Int) (keep : List Bool) (dop : List S61 → List S61) (key : ByteArray) (one : List S61) : List (ByteArray × Nat) × List S80 × List Bool × Bool := topsB (if root = -1 then qbA one (onlyN h keep, keep, false) else qbk dop key 21 root.toNat (onlyN h keep, keep, false))
def qbr (h : List S80) (root : Int) (keep : List Bool) (dop : List S61 → List S61) (key : ByteArray) (one : List S61) : List S80 × Int × Bool :=
 if (qbC h root keep dop key one).2.2.2 = true then (h, root, false)
 else (onlyN (qbC h root keep dop key one).2.1 (orW keep (walkR (qbC h root keep dop key one).2.1 (rootOf (qbC h root keep dop key one))).2.1), rootOf (qbC h root keep dop key one), true)
end Go.Proofs.YtcdokcpiahbejaaGreat.X
