import Derived.Test.YtcdokcpiahbejaaGreatKFnExactTreeDrop12
set_option maxRecDepth 100000
set_option maxHeartbeats 16000000
set_option linter.unusedVariables false
set_option linter.unusedSimpArgs false
namespace Go.Proofs.YtcdokcpiahbejaaGreat.X
open Go.RowKit Go.Proofs.PW Go.Proofs.PL Go.Proofs.PM
attribute [local go_sem] qaj qak qal qaf qag qao qap qad qae qah qai
noncomputable def qfj (x : S80) (m : Int) : S80 := ⟨m % 3 == 0, qcy x.f1 (m + 1), qb4 x.f2 (m + 1 + 2 * (x.f1.length : Int)), qds x.f3 (m + 1 + 2 * (x.f1.length : Int) + (x.f2.length : Int))⟩
def costN (x : S80) : Nat := 1 + 2 * x.f1.length + x.f2.length + x.f3.length
def qcf : List S80 → Nat
 | [] => 0
 | x :: xs => costN x + qcf xs
noncomputable def qcu : List S80 → Int → List S80
 | [], _ => []
 | x :: xs, m => qfj x m :: qcu xs (m + (costN x : Int))
theorem qh5 (l : List S80) : l.length ≤ qcf l := by
 induction l with
 | nil => exact Nat.le_refl _
 | cons x l ih => rw [qcf, List.length_cons]; unfold costN; omega
theorem qdS {w : World} {α β : Type} {d : Kd α} {d' : Kd β} {e e' base : Nat} {ok ok' : Nat → Prop} {v v' : Value} {xs : List α} {ys : List β} (h : d.R e w base ok v xs) (h' : d'.R e' w base ok' v' ys) (hne : e ≠ e') : ∀ k, some k = v.ownBlock → ¬ some k = v'.ownBlock := fun k h1 h2 => by
 obtain ⟨c1, e1⟩ := Kd.qcZ h k h1.symm;obtain ⟨c2, e2⟩ := Kd.qcZ h' k h2.symm;rw [e1] at e2;injection e2 with e2
 injection e2 with _ e3 _
 exact hne e3
theorem qjy (P : Nat → Prop) (g n cap : Nat) (l : List S80) (m : Int) (w0 w : World) (hB : Below w0.heap.size w0 w) (hS : Kd.S k80 80 w w0.heap.size P (.slice (some ⟨g, 0, none⟩) n cap) l) (hm : 0 ≤ m) (hcost : m + (qcf l : Int) ≤ 4611686018427387904) :
  Calls Tryz.prog 28 #[.slice (some ⟨g, 0, none⟩) n cap, .int .i64 m] w fun e w' => e = .returned (.int .i64 (m + (qcf l : Int))) ∧ Kd.S k80 80 w' w0.heap.size P (.slice (some ⟨g, 0, none⟩) n cap) (qcu l m) ∧ Below w0.heap.size w0 w' ∧ Kept w w' P := by
 have hu := Tryz.underlying80;have hn := (Kd.qbn hS).1;have HN := z_ hn;have hnn : n ≤ 9223372036854775807 := by have := qh5 l; omega
 have HS := z_ hS;have HB := z_ hB;have HC := z_ hcost;clear hB hS hn
 go_enter Tryz.func28, Tryz.ntmps28
 go_wp2_with fail
 go_loopw [1, 5] (fun v1 v5 wr => ∃ (i : Nat) (q : Int) (ys : List S80), i ≤ n ∧ v5 = .int .i64 i ∧ v1 = .int .i64 q ∧ 0 ≤ q ∧ Aside0 (q + (qcf (l.drop i) : Int) = m + (qcf l : Int)) ∧ Aside0 (ys.drop i = l.drop i) ∧ Aside0 (ys.take i ++ qcu (l.drop i) q = qcu l m) ∧ Aside0 (Kd.S k80 80 wr w0.heap.size P (.slice (some ⟨g, 0, none⟩) n cap) ys) ∧ Aside0 (Below w0.heap.size w0 wr) ∧ Aside0 (Kept w wr P)) (fun _ v5 _ => n - (intOf v5).toNat)
 case atStart => exact ⟨0, m, l, zdM, rfl, rfl, hm, ⟨rfl⟩, ⟨rfl⟩, ⟨rfl⟩, HS, HB, ⟨Kept.refl _ _⟩⟩
 case round =>
  clear HS HB;obtain ⟨i, q, ys, hi, rfl, rfl, hq0, HQ, HD, HT, HS, HB, HK⟩ := hrel
  by_cases hlt : i < n
  ·have c1 : decide ((i : Int) < (n : Int)) = true := decide_eq_true zdM;obtain ⟨oki, c, hcl, hM, hcc, hfr, hoki, hH⟩ := Kd.qeR HS.o z80 (i : Int) zdM zdM;obtain ⟨x, hx⟩ : ∃ x, x = ys.getD (i : Int).toNat z80 := ⟨_, rfl⟩
   rw [← hx] at hM;obtain ⟨v1, v2, v3, rfl, g1, g2, g3⟩ := qeU hM;have e0 := hcc 0 _ rfl;have e1 := hcc 1 _ rfl;have e2 := hcc 2 _ rfl;have e3 := hcc 3 _ rfl;have f0 := hfr 0;rw [Int.toNat_natCast] at e0 e1 e2 e3 f0;simp only [show k80.sz = 4 from rfl, Nat.add_zero] at e0 e1 e2 e3 f0;have hyl : i < ys.length := by have := (Kd.qbn HS.o).1; omega
   have hll : i < l.length := by rw [← HN.o]; exact hlt
   have hxl : x = l[i] := by
    have e5 : ys[i] = l[i] := by
     have h0 := congrArg (fun z => z[0]?) HD.o;simp only [List.getElem?_drop, Nat.add_zero] at h0;rw [List.getElem?_eq_getElem hyl, List.getElem?_eq_getElem hll] at h0;exact Option.some.inj h0
    rw [hx, ← e5, Int.toNat_natCast];simp [List.getD_eq_getElem?_getD, hyl]
   have hdr : l.drop i = x :: l.drop (i + 1) := by rw [hxl]; exact List.drop_eq_getElem_cons hll
   have hq2 : q + (costN x : Int) + (qcf (l.drop (i + 1)) : Int) = m + (qcf l : Int) := by
    have h := HQ.o;rw [hdr, qcf] at h;omega
   have xX := z_ hq2;have HDR := z_ hdr;have HYL := z_ hyl;have hsum : q + (costN x : Int) ≤ 4611686018427387904 := zdM;clear hxl hq2 hdr hll;have w1 : IntKind.i64.wrap (q + 1) = q + 1 := zcK;have w2 : IntKind.i64.wrap ((i : Int) + 1) = (i : Int) + 1 := zcK;have p1 : 0 ≤ (i : Int) := zdM;have q1 : (i : Int) < (n : Int) := zdM;obtain ⟨hH1, hg1⟩ := Kd.H_seg hH zdM zdM (seg := [.bool (q % 3 == 0)]) (j := 0) (by show 0 + 1 ≤ 4; omega) (by simp [Value.oneCell']);have HH1 := z_ (show Kd.H k80 80 (wr.setCell ⟨g, i * 4, none⟩ (.bool (q % 3 == 0))) w0.heap.size P (.slice (some ⟨g, 0, none⟩) n cap) ys (i : Int) oki [.bool (q % 3 == 0), v1, v2, v3] from hH1);have G1 := z_ g1;have G2 := z_ g2;have G3 := z_ g3;have HO := z_ hoki;have HX := z_ hx;clear hcl hcc hfr hM hH hH1 hg1 g1 g2 g3 hoki hx
   go_wp2_with fail
   have hbg : w0.heap.size ≤ g := Kd.qgf HS.o g rfl;have Pm : 1 + 2 * x.f1.length + x.f2.length + x.f3.length = costN x := rfl;have b1 := HB.o.setCell (p := ⟨g, i * 4, none⟩) hbg (.bool (q % 3 == 0));have r1 := Kd.qbp (p := ⟨g, i * 4, none⟩) (Kd.qin rfl G1.o) (fun k hk => (HO.o k hk.2).2) (.bool (q % 3 == 0));have r2 := Kd.qbp (p := ⟨g, i * 4, none⟩) (Kd.qin rfl G2.o) (fun k hk => (HO.o k hk.2).2) (.bool (q % 3 == 0));have r3 := Kd.qbp (p := ⟨g, i * 4, none⟩) (Kd.qin rfl G3.o) (fun k hk => (HO.o k hk.2).2) (.bool (q % 3 == 0));have R2 := z_ r2;have R3 := z_ r3;obtain ⟨k1, hk1⟩ := qkP x.f1 (q + 1) zdM zdM zdM;have hk1 := hk1 k1 (Nat.le_refl _);have o12 := qdS r2 r1 zdK;have o13 := qdS r3 r1 zdK;refine (qaW.calls k1 _ v1 x.f1 (q + 1) _ _ w0 _ b1 r1 hk1).mono ?_;rintro e wa ⟨rfl, ha1, hba, hka⟩;have HHa := z_ (Kd.qlf HH1.o hka (fun k _ hn h => hn h.2));have Kl := z_ (show k61.R 61 wa w0.heap.size (fun k => some k = v1.ownBlock ∧ oki k) v1 _ from Kd.qhU rfl ha1 (fun k hk => ⟨hk.symm, G1.o.1 k hk⟩));have Dj := z_ (Kd.qeS R2.o hka (fun k h2 h1 => o12 k h2.1 h1.1));have nm := z_ (Kd.qeS R3.o hka (fun k h2 h1 => o13 k h2.1 h1.1));have HBa := z_ hba;obtain ⟨ca, fa⟩ := Kd.H_at HHa.o zdM zdM;have a2 := ca 2 _ rfl;simp only [Int.toNat_natCast, show k80.sz = 4 from rfl] at a2;clear e0 e1 e2 e3 f0 b1 r1 r2 r3 ha1 hba ca fa
   go_wp2_with fail
   obtain ⟨k2, hk2⟩ := qjx x.f2 (q + 1 + 2 * (x.f1.length : Int)) zdM zdM zdM;have hk2 := hk2 k2 (Nat.le_refl _);have o21 := qdS Kl.o Dj.o zdK;have o23 := qdS nm.o Dj.o zdK;refine (qaQ.calls k2 _ v2 x.f2 (q + 1 + 2 * (x.f1.length : Int)) _ _ w0 wa HBa.o Dj.o hk2).mono ?_;rintro e wb ⟨rfl, ha2, hbb, hkb⟩;have HHb := z_ (Kd.qlf HHa.o hkb (fun k _ hn h => hn h.2));have Ul := z_ (Kd.qeS Kl.o hkb (fun k h2 h1 => o21 k h2.1 h1.1));have lm := z_ (show Kd.string.R 9 wb w0.heap.size (fun k => some k = v2.ownBlock ∧ oki k) v2 _ from Kd.qhU rfl ha2 (fun k hk => ⟨hk.symm, G2.o.1 k hk⟩));have rk := z_ (Kd.qeS nm.o hkb (fun k h2 h1 => o23 k h2.1 h1.1));have HBb := z_ hbb;obtain ⟨cb, fb⟩ := Kd.H_at HHb.o zdM zdM;have a3 := cb 3 _ rfl;simp only [Int.toNat_natCast, show k80.sz = 4 from rfl] at a3;clear a2 ha2 hbb cb fb Kl Dj nm HHa HBa
   go_wp2_with fail
   obtain ⟨k3, hk3⟩ := qjw x.f3 (q + 1 + 2 * (x.f1.length : Int) + (x.f2.length : Int)) zdM zdM zdM;have hk3 := hk3 k3 (Nat.le_refl _);have o31 := qdS Ul.o rk.o zdK;have o32 := qdS lm.o rk.o zdK;refine (qa6.calls k3 _ v3 x.f3 (q + 1 + 2 * (x.f1.length : Int) + (x.f2.length : Int)) _ _ w0 wb HBb.o rk.o hk3).mono ?_;rintro e wc ⟨rfl, ha3, hbc, hkc⟩;have HHc := z_ (Kd.qlf HHb.o hkc (fun k _ hn h => hn h.2));have RC1 := z_ (Kd.qeS Ul.o hkc (fun k h2 h1 => o31 k h2.1 h1.1));have RC2 := z_ (Kd.qeS lm.o hkc (fun k h2 h1 => o32 k h2.1 h1.1));have RC3 := z_ (show (Kd.int .i64).R 3 wc w0.heap.size (fun k => some k = v3.ownBlock ∧ oki k) v3 _ from Kd.qhU rfl ha3 (fun k hk => ⟨hk.symm, G3.o.1 k hk⟩));have HBc := z_ hbc;have HSc := z_ (show Kd.S k80 80 wc w0.heap.size P (.slice (some ⟨g, 0, none⟩) n cap) (ys.set i (qfj x q)) from Kd.H_back HHc.o (qfs wc w0.heap.size oki (qfj x q) (Kd.qaU RC1.o (fun k hk => hk.2)) (Kd.qaU RC2.o (fun k hk => hk.2)) (Kd.qaU RC3.o (fun k hk => hk.2))) (fun _ hk => hk));clear a3 ha3 hbc Ul lm rk HHb HBb HHc RC1 RC2 RC3
   go_wp2_with fail
   go_roundw
   case rel => exact ⟨i + 1, _, ys.set i (qfj x q), zdM, zdL, rfl, zdM, ⟨by have h := xX.o; omega⟩, ⟨by
    rw [List.drop_set_of_lt zdM];have h0 := congrArg (fun z => z.drop 1) HD.o
    simpa [List.drop_drop] using h0⟩, ⟨by
    rw [List.take_succ_eq_append_getElem (by rw [List.length_set]; exact HYL.o), List.take_set_of_le (Nat.le_refl _), List.getElem_set_self, ← HT.o, HDR.o, qcu, List.append_assoc, show q + (costN x : Int) = q + 1 + 2 * (x.f1.length : Int) + (x.f2.length : Int) + 1 * (x.f3.length : Int) from zdM];simp⟩, HSc, HBc, ⟨(((HK.o.setCell (p := ⟨g, i * 4, none⟩) (.inl ((Kd.S_R HS.o).1 g rfl)) _).qfZ hka (fun k h => .inl (HO.o k h.2).1)).qfZ hkb (fun k h => .inl (HO.o k h.2).1)).qfZ hkc (fun k h => .inl (HO.o k h.2).1)⟩⟩
   case measure => simp [intOf]; omega
  ·have he : i = n := zdM;have c1 : decide ((i : Int) < (n : Int)) = false := decide_eq_false zdM;have hyn : ys.length = n := ((Kd.qbn HS.o).1).symm;have HE := z_ (show ys = qcu l m from by
    have h := HT.o;rw [he, HN.o, List.drop_length, qcu, List.append_nil, ← HN.o, ← hyn, List.take_length] at h;exact h)
   have hq : q = m + (qcf l : Int) := by
    have h := HQ.o;rw [he, HN.o, List.drop_length, qcf] at h;omega
   clear he hyn
   go_wp2_with fail
   go_ret
   exact ⟨congrArg (fun z => Ending.returned (Value.int .i64 z)) hq, by rw [← HE.o]; exact HS.o, HB.o, HK.o⟩
def qaN.l0 : Nat → List Int → Int → Int → Option (Int)
 | 0, _, _, _ => none
 | k + 1, x0, x1, x5 => if x5 < (x0.length : Int) then (if 0 ≤ x5 then (if (rd x0 x5) = x1 then (qaN.l0 k x0 (wrap64 (x1 + 1)) (wrap64 (x5 + 1))) else (some (-1))) else (none)) else (some x1)
def qaN.f (k : Nat) (l0 : List Int) (a1 : Int) : Option (Int) := qaN.l0 k l0 a1 0
theorem qaN.qbl : ∀ k, (∀ y0 y1 y2, LeO (qaN.l0 k y0 y1 y2) (qaN.l0 (k + 1) y0 y1 y2))
 | 0 => fun _ _ _ r h => by simp [qaN.l0] at h
 | k + 1 => by
  have Q9 := qaN.qbl k
  ·intro y0 y1 y2;unfold qaN.l0;exact zleo_
theorem qaN.mono : ∀ a0 a1 k, LeO (qaN.f k a0 a1) (qaN.f (k + 1) a0 a1) := by
 intro a0 a1 k;have Q9 := qaN.qbl k;unfold qaN.f;exact zleo_
theorem qaN.calls (k : Nat) (A0 : Option Addr) (c0 : Nat) (l0 : List Int) (a1 : Int) (r : Int) (w : World) (hr0 : Kd.C (Kd.int .i64) w A0 l0.length l0) (hc0 : l0.length ≤ c0) (h : qaN.f k l0 a1 = some r) :
  Calls Tryz.prog 60 #[.slice A0 l0.length c0, .int .i64 a1] w fun e w' => e = .returned (.int .i64 r) ∧ qcm w w' := by
 have Z1 := z_ hr0;have kB := z_ hc0;clear hr0 hc0;have H : (qaN.l0 k l0 a1 0) = some r := h;clear h;have H' := z_ H;clear H
 go_enter Tryz.func60, Tryz.ntmps60
 go_wp2
 go_loopg [1, 5] k (fun kq v1 v5 w' => ∃ (L0 : Int) (o0 : Int), v1 = .int .i64 L0 ∧ v5 = .int .i64 o0 ∧ Aside0 (qaN.l0 kq l0 L0 o0 = some r) ∧ Aside0 (kq ≤ k) ∧ qcm w w')
 case atStart => exact ⟨(a1), (0), zcc, zcc, H', ⟨Nat.le_refl _⟩, zbh⟩
 case round =>
  clear H';obtain ⟨L0, o0, rfl, rfl, HA, I5, ⟨m1, rfl⟩⟩ := hrel
  cases gk with
  | zero => exact absurd HA.o (by simp [qaN.l0])
  | succ k1 =>
   have H := HA.o;clear HA;simp only [qaN.l0] at H
   by_cases c3 : o0 < (l0.length : Int)
   ·rw [if_pos c3] at H;have Y1 : decide (o0 < (l0.length : Int)) = true := decide_eq_true c3;clear c3
    by_cases c4 : 0 ≤ o0
    ·rw [if_pos c4] at H;have G4 : decide (0 ≤ o0) = true := decide_eq_true c4;clear c4
     by_cases c5 : (rd l0 o0) = L0
     ·rw [if_pos c5] at H;have O8 : ((rd l0 o0) == L0) = true := beq_iff_eq.mpr c5;have bL : ((rd l0 o0) != L0) = false := bne_eq_false_iff_eq.mpr c5;clear c5;have H' := z_ H;clear H;have yM : 0 ≤ (o0 : Int) := zod_;have uN : o0 < (l0.length : Int) := zod_;obtain ⟨Ye, TZ, QU⟩ := Kd.qdu Z1.o o0 yM uN
      cases TZ
      replace yM := eq_true yM;replace uN := eq_true uN
      go_wp2
      go_roundg k1
      case measure => have := I5.o; omega
      case rel => exact ⟨(wrap64 (L0 + 1)), (wrap64 (o0 + 1)), zcc, zcc, H', ⟨zcY⟩, zbh⟩
     ·rw [if_neg c5] at H;have O8 : ((rd l0 o0) == L0) = false := beq_eq_false_iff_ne.mpr c5;have bL : ((rd l0 o0) != L0) = true := bne_iff_ne.mpr c5;obtain rfl := Option.some.inj H;have yM : 0 ≤ (o0 : Int) := zod_;have uN : o0 < (l0.length : Int) := zod_;obtain ⟨Ye, TZ, QU⟩ := Kd.qdu Z1.o o0 yM uN
      cases TZ
      replace yM := eq_true yM;replace uN := eq_true uN
      go_wp2
      go_ret
      exact ⟨zcc, zbh⟩
    ·rw [if_neg c4] at H;exact absurd H zdN
   ·rw [if_neg c3] at H;have Y1 : decide (o0 < (l0.length : Int)) = false := decide_eq_false c3;clear c3;obtain rfl := Option.some.inj H
    go_wp2
    go_ret
    exact ⟨zcc, zbh⟩
theorem qhI (rest : List Int) : ∀ (pre : List Int) (m : Int), 0 ≤ m → m + 1 * (rest.length : Int) ≤ 4611686018427387904 → (pre ++ rest).length ≤ 9223372036854775807 →
  Ev (fun k => qaN.l0 k (pre ++ qds rest m) m ((pre.length : Nat) : Int)) (m + 1 * (rest.length : Int)) := by
 induction rest with
 | nil =>
  intro pre m h0 h1 hl;refine Ev.succ ?_;simp only [qaN.l0];exact Ev.neg (by simp [qds]) (Ev.is zdN)
 | cons x rest ih =>
  intro pre m h0 h1 hl;simp only [qds, List.length_cons] at h1 ⊢;have hlt : ((pre.length : Nat) : Int) < ((pre ++ ((m)) :: qds rest (m + 1)).length : Int) := zdF;have hwp : wrap64 (((pre.length : Nat) : Int) + 1) = (((pre ++ [((m))]).length : Nat) : Int) := zbn;have hrd : rd (pre ++ ((m)) :: qds rest (m + 1)) ((pre.length : Nat) : Int) = ((m)) := by simp [rd, List.getD_eq_getElem?_getD]
  have w1 : wrap64 (m + 1) = m + 1 := (qc0 zdM zdM).trans zdM;have hi := ih (pre ++ [((m))]) (m + 1) zdM zdM zdv;have e3 : pre ++ ((m)) :: qds rest (m + 1) = (pre ++ [((m))]) ++ qds rest (m + 1) := zdN;rw [← e3] at hi;refine Ev.succ ?_;simp only [qaN.l0, hrd, hwp, w1];refine Ev.pos hlt (Ev.pos zdM ?_)
  repeat (first | refine Ev.bind (qkH zdM) ?_ | refine Ev.pos trivial ?_ | refine Ev.pos rfl ?_ | refine Ev.neg zdN ?_)
  exact Ev.same hi zdM
theorem ql8 (l : List Int) (m : Int) (h0 : 0 ≤ m) (h1 : m + 1 * (l.length : Int) ≤ 4611686018427387904) (hl : l.length ≤ 9223372036854775807) : Ev (fun k => qaN.f k (qds l m) m) (m + 1 * (l.length : Int)) := by
 unfold qaN.f;have h := qhI l [] m h0 h1 zdv
 simpa using h
def qaB.l0 : Nat → List (S61) → Int → Int → Option (Int)
 | 0, _, _, _ => none
 | k + 1, x0, x1, x5 => if x5 < (x0.length : Int) then (if 0 ≤ x5 then ((qat.f k x1).bind fun rE => (if ((qan x0 x5).f0).toList = rE.toList then ((qat.f k (wrap64 (x1 + 1))).bind fun FF => (if ((qan x0 x5).f1).toList = FF.toList then (qaB.l0 k x0 (wrap64 ((wrap64 (x1 + 1)) + 1)) (wrap64 (x5 + 1))) else (some (-1)))) else (some (-1)))) else (none)) else (some x1)
def qaB.f (k : Nat) (l0 : List (S61)) (a1 : Int) : Option (Int) := qaB.l0 k l0 a1 0
theorem qaB.qbl : ∀ k, (∀ y0 y1 y2, LeO (qaB.l0 k y0 y1 y2) (qaB.l0 (k + 1) y0 y1 y2))
 | 0 => fun _ _ _ r h => by simp [qaB.l0] at h
 | k + 1 => by
  have Q9 := qaB.qbl k
  ·intro y0 y1 y2;unfold qaB.l0;have kC := @qat.mono; exact zleo_
theorem qaB.mono : ∀ a0 a1 k, LeO (qaB.f k a0 a1) (qaB.f (k + 1) a0 a1) := by
 intro a0 a1 k;have Q9 := qaB.qbl k;unfold qaB.f;have kC := @qat.mono; exact zleo_
def qaB.T4 : Bool × List (List Nat × List Nat) := (true, [([], []), ([], []), ([0, 1], [0, 1]), ([2], [2]), ([3], [3]), ([], []), ([5], [5]), ([4, 6], [4, 6])])
def qaB.B4 : List Nat := [0, 0, 3, 7, 15, 0, 32, 127]
theorem qaB.tab4 : rtab .any (opsOf Tryz.f58 4) = qaB.T4 := zdG
theorem qaB.bits4 : qbW qaB.T4.2 qaB.B4 = true := zdG
theorem qaB.calls (k : Nat) (A0 : Option Addr) (c0 : Nat) (l0 : List (S61)) (a1 : Int) (r : Int) (w : World) (hr0 : Kd.C k61 w A0 l0.length l0) (hc0 : l0.length ≤ c0) (h : qaB.f k l0 a1 = some r) :
  Calls Tryz.prog 58 #[.slice A0 l0.length c0, .int .i64 a1] w fun e w' => e = .returned (.int .i64 r) ∧ Below w.heap.size w w' := by
 have Z1 := z_ hr0;have kB := z_ hc0;clear hr0 hc0;have HB := z_ (Below.refl w.heap.size w);have H : (qaB.l0 k l0 a1 0) = some r := h;clear h;have H' := z_ H;clear H
 go_enter Tryz.func58, Tryz.ntmps58
 go_wp2
 go_loopg [1, 5] k (fun kq v1 v5 w' => ∃ (L0 : Int) (o0 : Int), v1 = .int .i64 L0 ∧ v5 = .int .i64 o0 ∧ Aside0 (qaB.l0 kq l0 L0 o0 = some r) ∧ Aside0 (kq ≤ k) ∧ Aside0 (Below w.heap.size w w'))
 case atStart => exact ⟨(a1), (0), zcc, zcc, H', ⟨Nat.le_refl _⟩, ⟨zar⟩⟩
 case round =>
  clear H';obtain ⟨L0, o0, rfl, rfl, HA, I5, HB⟩ := hrel
  cases gk with
  | zero => exact absurd HA.o (by simp [qaB.l0])
  | succ k1 =>
   have H := HA.o;clear HA;simp only [qaB.l0] at H
   by_cases c3 : o0 < (l0.length : Int)
   ·rw [if_pos c3] at H;have Y1 : decide (o0 < (l0.length : Int)) = true := decide_eq_true c3;clear c3
    by_cases c4 : 0 ≤ o0
    ·rw [if_pos c4] at H;have G4 : decide (0 ≤ o0) = true := decide_eq_true c4;clear c4;replace H := Option.bind_eq_some_iff.mp H;obtain ⟨rE, pS, H⟩ := H;try dsimp only at H
     have A5 := z_ pS;clear pS
     by_cases c6 : ((qan l0 o0).f0).toList = rE.toList
     ·rw [if_pos c6] at H;have u7 : (((qan l0 o0).f0).toList == rE.toList) = true := beq_iff_eq.mpr c6;have yG : (((qan l0 o0).f0).toList != rE.toList) = false := bne_eq_false_iff_eq.mpr c6;clear c6;replace H := Option.bind_eq_some_iff.mp H;obtain ⟨FF, RT, H⟩ := H;try dsimp only at H
      have A7 := z_ RT;clear RT
      by_cases c8 : ((qan l0 o0).f1).toList = FF.toList
      ·rw [if_pos c8] at H;have FD : (((qan l0 o0).f1).toList == FF.toList) = true := beq_iff_eq.mpr c8;have FQ : (((qan l0 o0).f1).toList != FF.toList) = false := bne_eq_false_iff_eq.mpr c8;clear c8;have H' := z_ H;clear H;try go_wp2
       have O1 := z_ (qa1 HB.o);clear HB;have HB := O1;clear O1;have LF : 0 ≤ (o0 : Int) := zod_;have MF : o0 < (l0.length : Int) := zod_;obtain ⟨Z6, MT, u4, m4⟩ := qb1 Z1.o o0 LF MF;have nC := m4;have sC := u4
       cases MT
       replace u4 := zmove_ HB rfl u4;replace m4 := zmove_ HB rfl m4;replace LF := eq_true LF;replace MF := eq_true MF;refine qbc zdG zdG ?_;have U1 := z_ (show wr.drew.cell? (Z6.add ((o0).toNat * 2)) = some (.string ((qan l0 o0).f0)) from (zcm_ HB.o sC));have M2 := z_ (show wr.drew.cell? ⟨(Z6.add ((o0).toNat * 2)).block, (Z6.add ((o0).toNat * 2)).off + 1, none⟩ = some (.string ((qan l0 o0).f1)) from (zcm_ HB.o nC));generalize wr.drew = w9 at HB u4 m4 U1 M2 ⊢;clear u4 m4;have hL0 := fun (p_ : Later w9) => Later.cell p_ U1.o
       have hL1 := fun (p_ : Later w9) => Later.cell p_ M2.o
       clear U1 M2
       repeat (first | go_big_quiet_step ((first | (go_at_call 92; exact Calls.qbv (qat.calls k1 L0 rE _ A5.o)))) | quiet_step ((first | (go_at_call 92; exact Calls.qbv (qat.calls k1 L0 rE _ A5.o)))))
       refine wpQuiet_nil ?_;rintro U8 ⟨⟨r9, hbL⟩, C6⟩;have X5 : U8 = r9 := C6;clear C6;subst X5;clear hL0 hL1;have Y2 := z_ (qaa HB.o hbL);clear HB;have HB := Y2;clear Y2 hbL;try go_wp2
       have O1 := z_ (qa1 HB.o);clear HB;have HB := O1;clear O1;have eM : 0 ≤ (o0 : Int) := zod_;have EM : o0 < (l0.length : Int) := zod_;obtain ⟨WR, Za, f7, m7⟩ := qb1 Z1.o o0 eM EM;have jI := m7;have LI := f7;obtain rfl : Z6 = WR := (by injection Za);replace f7 := zmove_ HB rfl f7;replace m7 := zmove_ HB rfl m7;replace eM := eq_true eM;replace EM := eq_true EM;refine qbc zdG zdG ?_;have U1 := z_ (show U8.drew.cell? (Z6.add ((o0).toNat * 2)) = some (.string ((qan l0 o0).f0)) from (zcm_ HB.o LI));have M2 := z_ (show U8.drew.cell? ⟨(Z6.add ((o0).toNat * 2)).block, (Z6.add ((o0).toNat * 2)).off + 1, none⟩ = some (.string ((qan l0 o0).f1)) from (zcm_ HB.o jI));generalize U8.drew = s9 at HB f7 m7 U1 M2 ⊢;clear f7 m7;have hL0 := fun (p_ : Later s9) => Later.cell p_ U1.o
       have hL1 := fun (p_ : Later s9) => Later.cell p_ M2.o
       clear U1 M2
       repeat (first | go_big_quiet_step ((first | (go_at_call 92; exact Calls.qbv (qat.calls k1 (wrap64 (L0 + 1)) FF _ A7.o)))) | quiet_step ((first | (go_at_call 92; exact Calls.qbv (qat.calls k1 (wrap64 (L0 + 1)) FF _ A7.o)))))
       refine wpQuiet_nil ?_;rintro JB ⟨⟨r9, hbL⟩, C6⟩;have X5 : JB = r9 := C6;clear C6;subst X5;clear hL0 hL1;have Y2 := z_ (qaa HB.o hbL);clear HB;have HB := Y2;clear Y2 hbL;try go_wp2
       go_roundg k1
       case measure => have := I5.o; omega
       case rel => exact ⟨(wrap64 ((wrap64 (L0 + 1)) + 1)), (wrap64 (o0 + 1)), zcc, zcc, H', ⟨zcY⟩, ⟨zar⟩⟩
      ·rw [if_neg c8] at H;have FD : (((qan l0 o0).f1).toList == FF.toList) = false := beq_eq_false_iff_ne.mpr c8;have FQ : (((qan l0 o0).f1).toList != FF.toList) = true := bne_iff_ne.mpr c8;obtain rfl := Option.some.inj H;try go_wp2
       have O1 := z_ (qa1 HB.o);clear HB;have HB := O1;clear O1;have LF : 0 ≤ (o0 : Int) := zod_;have MF : o0 < (l0.length : Int) := zod_;obtain ⟨Z6, MT, u4, m4⟩ := qb1 Z1.o o0 LF MF;have nC := m4;have sC := u4
       cases MT
       replace u4 := zmove_ HB rfl u4;replace m4 := zmove_ HB rfl m4;replace LF := eq_true LF;replace MF := eq_true MF;refine qbc zdG zdG ?_;have U1 := z_ (show wr.drew.cell? (Z6.add ((o0).toNat * 2)) = some (.string ((qan l0 o0).f0)) from (zcm_ HB.o sC));have M2 := z_ (show wr.drew.cell? ⟨(Z6.add ((o0).toNat * 2)).block, (Z6.add ((o0).toNat * 2)).off + 1, none⟩ = some (.string ((qan l0 o0).f1)) from (zcm_ HB.o nC));generalize wr.drew = NE at HB u4 m4 U1 M2 ⊢;clear u4 m4;have hL0 := fun (p_ : Later NE) => Later.cell p_ U1.o
       have hL1 := fun (p_ : Later NE) => Later.cell p_ M2.o
       clear U1 M2
       repeat (first | go_big_quiet_step ((first | (go_at_call 92; exact Calls.qbv (qat.calls k1 L0 rE _ A5.o)))) | quiet_step ((first | (go_at_call 92; exact Calls.qbv (qat.calls k1 L0 rE _ A5.o)))))
       refine wpQuiet_nil ?_;rintro oH ⟨⟨r9, hbL⟩, C6⟩;have X5 : oH = r9 := C6;clear C6;subst X5;clear hL0 hL1;have Y2 := z_ (qaa HB.o hbL);clear HB;have HB := Y2;clear Y2 hbL;try go_wp2
       have O1 := z_ (qa1 HB.o);clear HB;have HB := O1;clear O1;have eM : 0 ≤ (o0 : Int) := zod_;have EM : o0 < (l0.length : Int) := zod_;obtain ⟨WR, Za, f7, m7⟩ := qb1 Z1.o o0 eM EM;have jI := m7;have LI := f7;obtain rfl : Z6 = WR := (by injection Za);replace f7 := zmove_ HB rfl f7;replace m7 := zmove_ HB rfl m7;replace eM := eq_true eM;replace EM := eq_true EM;refine qbc zdG zdG ?_;have U1 := z_ (show oH.drew.cell? (Z6.add ((o0).toNat * 2)) = some (.string ((qan l0 o0).f0)) from (zcm_ HB.o LI));have M2 := z_ (show oH.drew.cell? ⟨(Z6.add ((o0).toNat * 2)).block, (Z6.add ((o0).toNat * 2)).off + 1, none⟩ = some (.string ((qan l0 o0).f1)) from (zcm_ HB.o jI));generalize oH.drew = bC at HB f7 m7 U1 M2 ⊢;clear f7 m7;have hL0 := fun (p_ : Later bC) => Later.cell p_ U1.o
       have hL1 := fun (p_ : Later bC) => Later.cell p_ M2.o
       clear U1 M2
       repeat (first | go_big_quiet_step ((first | (go_at_call 92; exact Calls.qbv (qat.calls k1 (wrap64 (L0 + 1)) FF _ A7.o)))) | quiet_step ((first | (go_at_call 92; exact Calls.qbv (qat.calls k1 (wrap64 (L0 + 1)) FF _ A7.o)))))
       refine wpQuiet_nil ?_;rintro w16 ⟨⟨r9, hbL⟩, C6⟩;have X5 : w16 = r9 := C6;clear C6;subst X5;clear hL0 hL1;have Y2 := z_ (qaa HB.o hbL);clear HB;have HB := Y2;clear Y2 hbL;try go_wp2
       go_ret
       exact ⟨zaM, zar⟩
     ·rw [if_neg c6] at H;have u7 : (((qan l0 o0).f0).toList == rE.toList) = false := beq_eq_false_iff_ne.mpr c6;have yG : (((qan l0 o0).f0).toList != rE.toList) = true := bne_iff_ne.mpr c6;obtain rfl := Option.some.inj H;try go_wp2
      have O1 := z_ (qa1 HB.o);clear HB;have HB := O1;clear O1;have LF : 0 ≤ (o0 : Int) := zod_;have MF : o0 < (l0.length : Int) := zod_;obtain ⟨Z6, MT, u4, m4⟩ := qb1 Z1.o o0 LF MF;have nC := m4;have sC := u4
      cases MT
      replace u4 := zmove_ HB rfl u4;replace m4 := zmove_ HB rfl m4;replace LF := eq_true LF;replace MF := eq_true MF;refine qbc zdG zdG ?_;have U1 := z_ (show wr.drew.cell? (Z6.add ((o0).toNat * 2)) = some (.string ((qan l0 o0).f0)) from (zcm_ HB.o sC));have M2 := z_ (show wr.drew.cell? ⟨(Z6.add ((o0).toNat * 2)).block, (Z6.add ((o0).toNat * 2)).off + 1, none⟩ = some (.string ((qan l0 o0).f1)) from (zcm_ HB.o nC));generalize wr.drew = oJ at HB u4 m4 U1 M2 ⊢;clear u4 m4;have hL0 := fun (p_ : Later oJ) => Later.cell p_ U1.o
      have hL1 := fun (p_ : Later oJ) => Later.cell p_ M2.o
      clear U1 M2
      repeat (first | go_big_quiet_step ((first | (go_at_call 92; exact Calls.qbv (qat.calls k1 L0 rE _ A5.o)))) | quiet_step ((first | (go_at_call 92; exact Calls.qbv (qat.calls k1 L0 rE _ A5.o)))))
      refine wpQuiet_nil ?_;rintro ZU ⟨⟨r9, hbL⟩, C6⟩;have X5 : ZU = r9 := C6;clear C6;subst X5;clear hL0 hL1;have Y2 := z_ (qaa HB.o hbL);clear HB;have HB := Y2;clear Y2 hbL;try go_wp2
      go_ret
      exact ⟨zaM, zar⟩
    ·rw [if_neg c4] at H;exact absurd H zdN
   ·rw [if_neg c3] at H;have Y1 : decide (o0 < (l0.length : Int)) = false := decide_eq_false c3;clear c3;obtain rfl := Option.some.inj H
    go_wp2
    go_ret
    exact ⟨zaM, zar⟩
theorem qhq (rest : List S61) : ∀ (pre : List S61) (m : Int), 0 ≤ m → m + 2 * (rest.length : Int) ≤ 4611686018427387904 → (pre ++ rest).length ≤ 9223372036854775807 →
  Ev (fun k => qaB.l0 k (pre ++ qcy rest m) m ((pre.length : Nat) : Int)) (m + 2 * (rest.length : Int)) := by
 induction rest with
 | nil =>
  intro pre m h0 h1 hl;refine Ev.succ ?_;simp only [qaB.l0];exact Ev.neg (by simp [qcy]) (Ev.is zdN)
 | cons x rest ih =>
  intro pre m h0 h1 hl;simp only [qcy, List.length_cons] at h1 ⊢;have hlt : ((pre.length : Nat) : Int) < ((pre ++ (⟨mt m, mt (m + 1)⟩ : S61) :: qcy rest (m + 2)).length : Int) := zdF;have hwp : wrap64 (((pre.length : Nat) : Int) + 1) = (((pre ++ [(⟨mt m, mt (m + 1)⟩ : S61)]).length : Nat) : Int) := zbn;have hrd : qan (pre ++ (⟨mt m, mt (m + 1)⟩ : S61) :: qcy rest (m + 2)) ((pre.length : Nat) : Int) = (⟨mt m, mt (m + 1)⟩ : S61) := by simp [qan, List.getD_eq_getElem?_getD]
  have w1 : wrap64 (m + 1) = m + 1 := (qc0 zdM zdM).trans zdM;have w2 : wrap64 ((m + 1) + 1) = m + 2 := (qc0 zdM zdM).trans zdM;have hi := ih (pre ++ [(⟨mt m, mt (m + 1)⟩ : S61)]) (m + 2) zdM zdM zdv;have e3 : pre ++ (⟨mt m, mt (m + 1)⟩ : S61) :: qcy rest (m + 2) = (pre ++ [(⟨mt m, mt (m + 1)⟩ : S61)]) ++ qcy rest (m + 2) := zdN;rw [← e3] at hi;refine Ev.succ ?_;simp only [qaB.l0, hrd, hwp, w1, w2];refine Ev.pos hlt (Ev.pos zdM ?_)
  repeat (first | refine Ev.bind (qkH zdM) ?_ | refine Ev.pos trivial ?_ | refine Ev.pos rfl ?_ | refine Ev.neg zdN ?_)
  exact Ev.same hi zdM
theorem qkQ (l : List S61) (m : Int) (h0 : 0 ≤ m) (h1 : m + 2 * (l.length : Int) ≤ 4611686018427387904) (hl : l.length ≤ 9223372036854775807) : Ev (fun k => qaB.f k (qcy l m) m) (m + 2 * (l.length : Int)) := by
 unfold qaB.f;have h := qhq l [] m h0 h1 zdv
 simpa using h
def qaF.l0 : Nat → List ByteArray → Int → Int → Option (Int)
 | 0, _, _, _ => none
 | k + 1, x0, x1, x5 => if x5 < (x0.length : Int) then (if 0 ≤ x5 then ((qat.f k x1).bind fun wG => (if (rdOf ByteArray.empty x0 x5).toList = wG.toList then (qaF.l0 k x0 (wrap64 (x1 + 1)) (wrap64 (x5 + 1))) else (some (-1)))) else (none)) else (some x1)
def qaF.f (k : Nat) (l0 : List ByteArray) (a1 : Int) : Option (Int) := qaF.l0 k l0 a1 0
theorem qaF.qbl : ∀ k, (∀ y0 y1 y2, LeO (qaF.l0 k y0 y1 y2) (qaF.l0 (k + 1) y0 y1 y2))
 | 0 => fun _ _ _ r h => by simp [qaF.l0] at h
 | k + 1 => by
  have Q9 := qaF.qbl k
  ·intro y0 y1 y2;unfold qaF.l0;have kC := @qat.mono; exact zleo_
theorem qaF.mono : ∀ a0 a1 k, LeO (qaF.f k a0 a1) (qaF.f (k + 1) a0 a1) := by
 intro a0 a1 k;have Q9 := qaF.qbl k;unfold qaF.f;have kC := @qat.mono; exact zleo_
theorem qaF.calls (k : Nat) (A0 : Option Addr) (c0 : Nat) (l0 : List ByteArray) (a1 : Int) (r : Int) (w : World) (hr0 : Kd.C Kd.string w A0 l0.length l0) (hc0 : l0.length ≤ c0) (h : qaF.f k l0 a1 = some r) :
  Calls Tryz.prog 59 #[.slice A0 l0.length c0, .int .i64 a1] w fun e w' => e = .returned (.int .i64 r) ∧ Below w.heap.size w w' := by
 have Z1 := z_ hr0;have kB := z_ hc0;clear hr0 hc0;have HB := z_ (Below.refl w.heap.size w);have H : (qaF.l0 k l0 a1 0) = some r := h;clear h;have H' := z_ H;clear H
 go_enter Tryz.func59, Tryz.ntmps59
 go_wp2
 go_loopg [1, 5] k (fun kq v1 v5 w' => ∃ (L0 : Int) (o0 : Int), v1 = .int .i64 L0 ∧ v5 = .int .i64 o0 ∧ Aside0 (qaF.l0 kq l0 L0 o0 = some r) ∧ Aside0 (kq ≤ k) ∧ Aside0 (Below w.heap.size w w'))
 case atStart => exact ⟨(a1), (0), zcc, zcc, H', ⟨Nat.le_refl _⟩, ⟨zar⟩⟩
 case round =>
  clear H';obtain ⟨L0, o0, rfl, rfl, HA, I5, HB⟩ := hrel
  cases gk with
  | zero => exact absurd HA.o (by simp [qaF.l0])
  | succ k1 =>
   have H := HA.o;clear HA;simp only [qaF.l0] at H
   by_cases c3 : o0 < (l0.length : Int)
   ·rw [if_pos c3] at H;have Y1 : decide (o0 < (l0.length : Int)) = true := decide_eq_true c3;clear c3
    by_cases c4 : 0 ≤ o0
    ·rw [if_pos c4] at H;have G4 : decide (0 ≤ o0) = true := decide_eq_true c4;clear c4;replace H := Option.bind_eq_some_iff.mp H;obtain ⟨wG, pS, H⟩ := H;try dsimp only at H
     have A5 := z_ pS;clear pS
     by_cases c6 : (rdOf ByteArray.empty l0 o0).toList = wG.toList
     ·rw [if_pos c6] at H;have u7 : ((rdOf ByteArray.empty l0 o0).toList == wG.toList) = true := beq_iff_eq.mpr c6;have yG : ((rdOf ByteArray.empty l0 o0).toList != wG.toList) = false := bne_eq_false_iff_eq.mpr c6;clear c6;have H' := z_ H;clear H;try go_wp2
      have O1 := z_ (qa1 HB.o);clear HB;have HB := O1;clear O1;have gN : 0 ≤ (o0 : Int) := zod_;have CM : o0 < (l0.length : Int) := zod_;obtain ⟨RS, RY, k7⟩ := Kd.qbX Z1.o o0 gN CM;have rI := k7
      cases RY
      replace k7 := zmove_ HB rfl k7;replace gN := eq_true gN;replace CM := eq_true CM;refine qbc zdG zdG ?_;have U1 := z_ (show wr.drew.cell? (RS.add (o0).toNat) = some (.string (rdOf ByteArray.empty l0 o0)) from ((zcm_ HB.o rI)));generalize wr.drew = w7 at HB k7 U1 ⊢;clear k7;have hL0 := fun (p_ : Later w7) => Later.cell p_ U1.o
      clear U1
      repeat (first | go_big_quiet_step ((first | (go_at_call 92; exact Calls.qbv (qat.calls k1 L0 wG _ A5.o)))) | quiet_step ((first | (go_at_call 92; exact Calls.qbv (qat.calls k1 L0 wG _ A5.o)))))
      refine wpQuiet_nil ?_;rintro w8 ⟨⟨r9, hbL⟩, C6⟩;have X5 : w8 = r9 := C6;clear C6;subst X5;clear hL0;have Y2 := z_ (qaa HB.o hbL);clear HB;have HB := Y2;clear Y2 hbL;try go_wp2
      go_roundg k1
      case measure => have := I5.o; omega
      case rel => exact ⟨(wrap64 (L0 + 1)), (wrap64 (o0 + 1)), zcc, zcc, H', ⟨zcY⟩, ⟨zar⟩⟩
     ·rw [if_neg c6] at H;have u7 : ((rdOf ByteArray.empty l0 o0).toList == wG.toList) = false := beq_eq_false_iff_ne.mpr c6;have yG : ((rdOf ByteArray.empty l0 o0).toList != wG.toList) = true := bne_iff_ne.mpr c6;obtain rfl := Option.some.inj H;try go_wp2
      have O1 := z_ (qa1 HB.o);clear HB;have HB := O1;clear O1;have gN : 0 ≤ (o0 : Int) := zod_;have CM : o0 < (l0.length : Int) := zod_;obtain ⟨RS, RY, k7⟩ := Kd.qbX Z1.o o0 gN CM;have rI := k7
      cases RY
      replace k7 := zmove_ HB rfl k7;replace gN := eq_true gN;replace CM := eq_true CM;refine qbc zdG zdG ?_;have U1 := z_ (show wr.drew.cell? (RS.add (o0).toNat) = some (.string (rdOf ByteArray.empty l0 o0)) from ((zcm_ HB.o rI)));generalize wr.drew = w9 at HB k7 U1 ⊢;clear k7;have hL0 := fun (p_ : Later w9) => Later.cell p_ U1.o
      clear U1
      repeat (first | go_big_quiet_step ((first | (go_at_call 92; exact Calls.qbv (qat.calls k1 L0 wG _ A5.o)))) | quiet_step ((first | (go_at_call 92; exact Calls.qbv (qat.calls k1 L0 wG _ A5.o)))))
      refine wpQuiet_nil ?_;rintro U8 ⟨⟨r9, hbL⟩, C6⟩;have X5 : U8 = r9 := C6;clear C6;subst X5;clear hL0;have Y2 := z_ (qaa HB.o hbL);clear HB;have HB := Y2;clear Y2 hbL;try go_wp2
      go_ret
      exact ⟨zaM, zar⟩
    ·rw [if_neg c4] at H;exact absurd H zdN
   ·rw [if_neg c3] at H;have Y1 : decide (o0 < (l0.length : Int)) = false := decide_eq_false c3;clear c3;obtain rfl := Option.some.inj H
    go_wp2
    go_ret
    exact ⟨zaM, zar⟩
theorem qgc (rest : List ByteArray) : ∀ (pre : List ByteArray) (m : Int), 0 ≤ m → m + 1 * (rest.length : Int) ≤ 4611686018427387904 → (pre ++ rest).length ≤ 9223372036854775807 →
  Ev (fun k => qaF.l0 k (pre ++ qb4 rest m) m ((pre.length : Nat) : Int)) (m + 1 * (rest.length : Int)) := by
 induction rest with
 | nil =>
  intro pre m h0 h1 hl;refine Ev.succ ?_;simp only [qaF.l0];exact Ev.neg (by simp [qb4]) (Ev.is zdN)
 | cons x rest ih =>
  intro pre m h0 h1 hl;simp only [qb4, List.length_cons] at h1 ⊢;have hlt : ((pre.length : Nat) : Int) < ((pre ++ (mt m) :: qb4 rest (m + 1)).length : Int) := zdF;have hwp : wrap64 (((pre.length : Nat) : Int) + 1) = (((pre ++ [(mt m)]).length : Nat) : Int) := zbn;have hrd : rdOf ByteArray.empty (pre ++ (mt m) :: qb4 rest (m + 1)) ((pre.length : Nat) : Int) = (mt m) := by simp [rdOf, List.getD_eq_getElem?_getD]
  have w1 : wrap64 (m + 1) = m + 1 := (qc0 zdM zdM).trans zdM;have hi := ih (pre ++ [(mt m)]) (m + 1) zdM zdM zdv;have e3 : pre ++ (mt m) :: qb4 rest (m + 1) = (pre ++ [(mt m)]) ++ qb4 rest (m + 1) := zdN;rw [← e3] at hi;refine Ev.succ ?_;simp only [qaF.l0, hrd, hwp, w1];refine Ev.pos hlt (Ev.pos zdM ?_)
  repeat (first | refine Ev.bind (qkH zdM) ?_ | refine Ev.pos trivial ?_ | refine Ev.pos rfl ?_ | refine Ev.neg zdN ?_)
  exact Ev.same hi zdM
theorem qjz (l : List ByteArray) (m : Int) (h0 : 0 ≤ m) (h1 : m + 1 * (l.length : Int) ≤ 4611686018427387904) (hl : l.length ≤ 9223372036854775807) : Ev (fun k => qaF.f k (qb4 l m) m) (m + 1 * (l.length : Int)) := by
 unfold qaF.f;have h := qgc l [] m h0 h1 zdv
 simpa using h
def qaS.l0 : Nat → List (S80) → Int → Int → Option (Int)
 | 0, _, _, _ => none
 | k + 1, x0, x1, x5 => if x5 < (x0.length : Int) then (if 0 ≤ x5 then (if (((qaC x0 x5).f0) != ((Int.tmod x1 3) == 0)) = true then (some (-1)) else ((qaB.f k ((qaC x0 x5).f1) (wrap64 (x1 + 1))).bind fun mB => (if mB < 0 then (some (-1)) else ((qaF.f k ((qaC x0 x5).f2) mB).bind fun vE => (if vE < 0 then (some (-1)) else ((qaN.f k ((qaC x0 x5).f3) vE).bind fun iI => (if iI < 0 then (some (-1)) else (qaS.l0 k x0 iI (wrap64 (x5 + 1)))))))))) else (none)) else (some x1)
def qaS.f (k : Nat) (l0 : List (S80)) (a1 : Int) : Option (Int) := qaS.l0 k l0 a1 0
theorem qaS.qbl : ∀ k, (∀ y0 y1 y2, LeO (qaS.l0 k y0 y1 y2) (qaS.l0 (k + 1) y0 y1 y2))
 | 0 => fun _ _ _ r h => by simp [qaS.l0] at h
 | k + 1 => by
  have Q9 := qaS.qbl k
  ·intro y0 y1 y2;unfold qaS.l0;have kC := @qaN.mono; have dT := @qaB.mono; have iW := @qaF.mono; exact zleo_
theorem qaS.calls (k : Nat) (A0 : Option Addr) (c0 : Nat) (l0 : List (S80)) (a1 : Int) (r : Int) (w : World) (hr0 : Kd.C k80 w A0 l0.length l0) (hc0 : l0.length ≤ c0) (h : qaS.f k l0 a1 = some r) :
  Calls Tryz.prog 29 #[.slice A0 l0.length c0, .int .i64 a1] w fun e w' => e = .returned (.int .i64 r) ∧ Below w.heap.size w w' := by
 have Z1 := z_ hr0;have kB := z_ hc0;clear hr0 hc0;have HB := z_ (Below.refl w.heap.size w);have H : (qaS.l0 k l0 a1 0) = some r := h;clear h;have H' := z_ H;clear H
 go_enter Tryz.func29, Tryz.ntmps29
 go_wp2
 go_loopg [1, 5] k (fun kq v1 v5 w' => ∃ (L0 : Int) (o0 : Int), v1 = .int .i64 L0 ∧ v5 = .int .i64 o0 ∧ Aside0 (qaS.l0 kq l0 L0 o0 = some r) ∧ Aside0 (kq ≤ k) ∧ Aside0 (Below w.heap.size w w'))
 case atStart => exact ⟨(a1), (0), zcc, zcc, H', ⟨Nat.le_refl _⟩, ⟨zar⟩⟩
 case round =>
  clear H';obtain ⟨L0, o0, rfl, rfl, HA, I5, HB⟩ := hrel
  cases gk with
  | zero => exact absurd HA.o (by simp [qaS.l0])
  | succ k1 =>
   have H := HA.o;clear HA;simp only [qaS.l0] at H
   by_cases c3 : o0 < (l0.length : Int)
   ·rw [if_pos c3] at H;have Y1 : decide (o0 < (l0.length : Int)) = true := decide_eq_true c3;clear c3
    by_cases c4 : 0 ≤ o0
    ·rw [if_pos c4] at H;have G4 : decide (0 ≤ o0) = true := decide_eq_true c4;clear c4
     by_cases c5 : (((qaC l0 o0).f0) != ((Int.tmod L0 3) == 0)) = true
     ·rw [if_pos c5] at H;have O8 : (((qaC l0 o0).f0) != ((Int.tmod L0 3) == 0)) = true := c5
      (try (have bL : decide (((qaC l0 o0).f0) = ((Int.tmod L0 3) == 0)) = false := zdw))
      (try (have Gb : (((qaC l0 o0).f0) == ((Int.tmod L0 3) == 0)) = false := zdw))
      (try (have c5b3 : ¬ (((qaC l0 o0).f0) = ((Int.tmod L0 3) == 0)) := zdw))
      clear c5;obtain rfl := Option.some.inj H;have dA : 0 ≤ (o0 : Int) := zod_;have lA : o0 < (l0.length : Int) := zod_;obtain ⟨O9, LA, UA, JH, nJ, pI, zI, hJ, n5, Y3, X3, Z3, r5, G5, j5, D5, E5, H5⟩ := qdq Z1.o o0 dA lA
      cases hJ
      replace n5 := zmove_ HB rfl n5;replace Y3 := zmove_ HB rfl Y3;replace X3 := zmove_ HB rfl X3;replace Z3 := zmove_ HB rfl Z3;have cF := z_ G5;have xF := z_ r5;clear G5 r5;have kF := z_ D5;have fF := z_ j5;clear D5 j5;have pF := z_ H5;have CF := z_ E5;clear H5 E5;replace dA := eq_true dA;replace lA := eq_true lA
      go_wp2
      go_ret
      exact ⟨zaM, zar⟩
     ·rw [if_neg c5] at H;have O8 : (((qaC l0 o0).f0) != ((Int.tmod L0 3) == 0)) = false := zdw
      (try (have bL : decide (((qaC l0 o0).f0) = ((Int.tmod L0 3) == 0)) = true := zdw))
      (try (have Gb : (((qaC l0 o0).f0) == ((Int.tmod L0 3) == 0)) = true := zdw))
      clear c5;replace H := Option.bind_eq_some_iff.mp H;obtain ⟨mB, AT, H⟩ := H;try dsimp only at H
      have A6 := z_ AT;clear AT
      by_cases c7 : mB < 0
      ·rw [if_pos c7] at H;have QA : decide (mB < 0) = true := decide_eq_true c7;clear c7;obtain rfl := Option.some.inj H;have dA : 0 ≤ (o0 : Int) := zod_;have lA : o0 < (l0.length : Int) := zod_;obtain ⟨O9, LA, UA, JH, nJ, pI, zI, hJ, n5, Y3, X3, Z3, r5, G5, j5, D5, E5, H5⟩ := qdq Z1.o o0 dA lA
       cases hJ
       replace n5 := zmove_ HB rfl n5;replace Y3 := zmove_ HB rfl Y3;replace X3 := zmove_ HB rfl X3;replace Z3 := zmove_ HB rfl Z3;have cF := z_ G5;have xF := z_ r5;clear G5 r5;have kF := z_ D5;have fF := z_ j5;clear D5 j5;have pF := z_ H5;have CF := z_ E5;clear H5 E5;replace dA := eq_true dA;replace lA := eq_true lA;have MB : 0 ≤ (o0 : Int) := zod_;have VB : o0 < (l0.length : Int) := zod_;obtain ⟨JF, aM, zN, OL, fM, rM, IL, nL, E6, Q4, R4, S4, V6, Y6, M6, g7, I6, Q6⟩ := qdq Z1.o o0 MB VB;obtain rfl : O9 = JF := (by injection nL);replace E6 := zmove_ HB rfl E6;replace Q4 := zmove_ HB rfl Q4;replace R4 := zmove_ HB rfl R4;replace S4 := zmove_ HB rfl S4;have iA := z_ Y6;have U9 := z_ V6;clear Y6 V6;have MH := z_ g7;have wI := z_ M6;clear g7 M6;have FI := z_ Q6;have JI := z_ I6;clear Q6 I6;replace MB := eq_true MB;replace VB := eq_true VB;have O4 := Option.some.inj (Y3.symm.trans Q4);injection O4 with O4 en_ ec_
       subst O4;subst ec_;clear en_;have O4 := Option.some.inj (X3.symm.trans R4);injection O4 with O4 en_ ec_
       subst O4;subst ec_;clear en_;have O4 := Option.some.inj (Z3.symm.trans S4);injection O4 with O4 en_ ec_
       subst O4;subst ec_;clear en_
       go_wp2_with (first | ((with_reducible refine qax (f := 58) rfl ?_); refine qbq (some 29) rfl rfl Tryz.func58 zdG rfl #[.slice LA ((qaC l0 o0).f1).length UA, .int .i64 (wrap64 (L0 + 1))] rfl zaq ?_; (with_reducible refine (qaB.calls k1 _ _ ((qaC l0 o0).f1) (wrap64 (L0 + 1)) mB _ ?side1 ?side2 A6.o).mono ?_); (case side1 => exact zae (Kd.qar iA.o HB.o)); (case side2 => exact U9.o); rintro e w8 ⟨rfl, hb⟩; refine ⟨_, rfl, ?_⟩; replace HB := z_ (qaa zar hb); (try clear hb)))
       go_ret
       exact ⟨zaM, zar⟩
      ·rw [if_neg c7] at H;have QA : decide (mB < 0) = false := decide_eq_false c7;clear c7;replace H := Option.bind_eq_some_iff.mp H;obtain ⟨vE, oe, H⟩ := H;try dsimp only at H
       have A9 := z_ oe;clear oe
       by_cases c10 : vE < 0
       ·rw [if_pos c10] at H;have kK : decide (vE < 0) = true := decide_eq_true c10;clear c10;obtain rfl := Option.some.inj H;have dA : 0 ≤ (o0 : Int) := zod_;have lA : o0 < (l0.length : Int) := zod_;obtain ⟨O9, LA, UA, JH, nJ, pI, zI, hJ, n5, Y3, X3, Z3, r5, G5, j5, D5, E5, H5⟩ := qdq Z1.o o0 dA lA
        cases hJ
        replace n5 := zmove_ HB rfl n5;replace Y3 := zmove_ HB rfl Y3;replace X3 := zmove_ HB rfl X3;replace Z3 := zmove_ HB rfl Z3;have cF := z_ G5;have xF := z_ r5;clear G5 r5;have kF := z_ D5;have fF := z_ j5;clear D5 j5;have pF := z_ H5;have CF := z_ E5;clear H5 E5;replace dA := eq_true dA;replace lA := eq_true lA;have MB : 0 ≤ (o0 : Int) := zod_;have VB : o0 < (l0.length : Int) := zod_;obtain ⟨JF, aM, zN, OL, fM, rM, IL, nL, E6, Q4, R4, S4, V6, Y6, M6, g7, I6, Q6⟩ := qdq Z1.o o0 MB VB;obtain rfl : O9 = JF := (by injection nL);replace E6 := zmove_ HB rfl E6;replace Q4 := zmove_ HB rfl Q4;replace R4 := zmove_ HB rfl R4;replace S4 := zmove_ HB rfl S4;have iA := z_ Y6;have U9 := z_ V6;clear Y6 V6;have MH := z_ g7;have wI := z_ M6;clear g7 M6;have FI := z_ Q6;have JI := z_ I6;clear Q6 I6;replace MB := eq_true MB;replace VB := eq_true VB;have O4 := Option.some.inj (Y3.symm.trans Q4);injection O4 with O4 en_ ec_
        subst O4;subst ec_;clear en_;have O4 := Option.some.inj (X3.symm.trans R4);injection O4 with O4 en_ ec_
        subst O4;subst ec_;clear en_;have O4 := Option.some.inj (Z3.symm.trans S4);injection O4 with O4 en_ ec_
        subst O4;subst ec_;clear en_
        go_wp2_with (first | ((with_reducible refine qax (f := 58) rfl ?_); refine qbq (some 29) rfl rfl Tryz.func58 zdG rfl #[.slice LA ((qaC l0 o0).f1).length UA, .int .i64 (wrap64 (L0 + 1))] rfl zaq ?_; (with_reducible refine (qaB.calls k1 _ _ ((qaC l0 o0).f1) (wrap64 (L0 + 1)) mB _ ?side1 ?side2 A6.o).mono ?_); (case side1 => exact zae (Kd.qar iA.o HB.o)); (case side2 => exact U9.o); rintro e s9 ⟨rfl, hb⟩; refine ⟨_, rfl, ?_⟩; replace HB := z_ (qaa zar hb); (try clear hb); have QF : 0 ≤ (o0 : Int) := zod_; have tG : o0 < (l0.length : Int) := zod_; obtain ⟨DJ, PS, NR, aG, DG, SS, gU, YT, j9, i9, Y8, m9, X8, d9, V8, S8, g9, T8⟩ := qdq Z1.o o0 QF tG; obtain rfl : O9 = DJ := (by injection YT); replace j9 := zmove_ HB rfl j9; replace i9 := zmove_ HB rfl i9; replace Y8 := zmove_ HB rfl Y8; replace m9 := zmove_ HB rfl m9; have ZP := z_ d9; have OO := z_ X8; clear d9 X8; have lD := z_ S8; have MC := z_ V8; clear S8 V8; have PN := z_ T8; have jO := z_ g9; clear T8 g9; replace QF := eq_true QF; replace tG := eq_true tG) | ((with_reducible refine qax (f := 59) rfl ?_); refine qbq (some 38) rfl rfl Tryz.func59 zdG rfl #[.slice aG ((qaC l0 o0).f2).length DG, .int .i64 mB] rfl zaq ?_; (with_reducible refine (qaF.calls k1 _ _ ((qaC l0 o0).f2) mB vE _ ?side1 ?side2 A9.o).mono ?_); (case side1 => exact zae (Kd.qar lD.o HB.o)); (case side2 => exact MC.o); rintro e JB ⟨rfl, hb⟩; refine ⟨_, rfl, ?_⟩; replace HB := z_ (qaa zar hb); (try clear hb)))
        go_ret
        exact ⟨zaM, zar⟩
       ·rw [if_neg c10] at H;have kK : decide (vE < 0) = false := decide_eq_false c10;clear c10;replace H := Option.bind_eq_some_iff.mp H;obtain ⟨iI, gG, H⟩ := H;try dsimp only at H
        have lU := z_ gG;clear gG
        by_cases c14 : iI < 0
        ·rw [if_pos c14] at H;have yf : decide (iI < 0) = true := decide_eq_true c14;clear c14;obtain rfl := Option.some.inj H;have dA : 0 ≤ (o0 : Int) := zod_;have lA : o0 < (l0.length : Int) := zod_;obtain ⟨O9, LA, UA, JH, nJ, pI, zI, hJ, n5, Y3, X3, Z3, r5, G5, j5, D5, E5, H5⟩ := qdq Z1.o o0 dA lA
         cases hJ
         replace n5 := zmove_ HB rfl n5;replace Y3 := zmove_ HB rfl Y3;replace X3 := zmove_ HB rfl X3;replace Z3 := zmove_ HB rfl Z3;have cF := z_ G5;have xF := z_ r5;clear G5 r5;have kF := z_ D5;have fF := z_ j5;clear D5 j5;have pF := z_ H5;have CF := z_ E5;clear H5 E5;replace dA := eq_true dA;replace lA := eq_true lA;have MB : 0 ≤ (o0 : Int) := zod_;have VB : o0 < (l0.length : Int) := zod_;obtain ⟨JF, aM, zN, OL, fM, rM, IL, nL, E6, Q4, R4, S4, V6, Y6, M6, g7, I6, Q6⟩ := qdq Z1.o o0 MB VB;obtain rfl : O9 = JF := (by injection nL);replace E6 := zmove_ HB rfl E6;replace Q4 := zmove_ HB rfl Q4;replace R4 := zmove_ HB rfl R4;replace S4 := zmove_ HB rfl S4;have iA := z_ Y6;have U9 := z_ V6;clear Y6 V6;have MH := z_ g7;have wI := z_ M6;clear g7 M6;have FI := z_ Q6;have JI := z_ I6;clear Q6 I6;replace MB := eq_true MB;replace VB := eq_true VB;have O4 := Option.some.inj (Y3.symm.trans Q4);injection O4 with O4 en_ ec_
         subst O4;subst ec_;clear en_;have O4 := Option.some.inj (X3.symm.trans R4);injection O4 with O4 en_ ec_
         subst O4;subst ec_;clear en_;have O4 := Option.some.inj (Z3.symm.trans S4);injection O4 with O4 en_ ec_
         subst O4;subst ec_;clear en_
         go_wp2_with (first | ((with_reducible refine qax (f := 58) rfl ?_); refine qbq (some 29) rfl rfl Tryz.func58 zdG rfl #[.slice LA ((qaC l0 o0).f1).length UA, .int .i64 (wrap64 (L0 + 1))] rfl zaq ?_; (with_reducible refine (qaB.calls k1 _ _ ((qaC l0 o0).f1) (wrap64 (L0 + 1)) mB _ ?side1 ?side2 A6.o).mono ?_); (case side1 => exact zae (Kd.qar iA.o HB.o)); (case side2 => exact U9.o); rintro e bC ⟨rfl, hb⟩; refine ⟨_, rfl, ?_⟩; replace HB := z_ (qaa zar hb); (try clear hb); have QF : 0 ≤ (o0 : Int) := zod_; have tG : o0 < (l0.length : Int) := zod_; obtain ⟨DJ, PS, NR, aG, DG, SS, gU, YT, j9, i9, Y8, m9, X8, d9, V8, S8, g9, T8⟩ := qdq Z1.o o0 QF tG; obtain rfl : O9 = DJ := (by injection YT); replace j9 := zmove_ HB rfl j9; replace i9 := zmove_ HB rfl i9; replace Y8 := zmove_ HB rfl Y8; replace m9 := zmove_ HB rfl m9; have ZP := z_ d9; have OO := z_ X8; clear d9 X8; have lD := z_ S8; have MC := z_ V8; clear S8 V8; have PN := z_ T8; have jO := z_ g9; clear T8 g9; replace QF := eq_true QF; replace tG := eq_true tG) | ((with_reducible refine qax (f := 59) rfl ?_); refine qbq (some 38) rfl rfl Tryz.func59 zdG rfl #[.slice aG ((qaC l0 o0).f2).length DG, .int .i64 mB] rfl zaq ?_; (with_reducible refine (qaF.calls k1 _ _ ((qaC l0 o0).f2) mB vE _ ?side1 ?side2 A9.o).mono ?_); (case side1 => exact zae (Kd.qar lD.o HB.o)); (case side2 => exact MC.o); rintro e w16 ⟨rfl, hb⟩; refine ⟨_, rfl, ?_⟩; replace HB := z_ (qaa zar hb); (try clear hb); have rN : 0 ≤ (o0 : Int) := zod_; have ZK : o0 < (l0.length : Int) := zod_; obtain ⟨sS, Jb, sa, Vb, Ha, uL, gL, Mb, ND, wC, JC, lC, fD, SD, KD, qD, WC, FC⟩ := qdq Z1.o o0 rN ZK; obtain rfl : O9 = sS := (by injection Mb); replace ND := zmove_ HB rfl ND; replace wC := zmove_ HB rfl wC; replace JC := zmove_ HB rfl JC; replace lC := zmove_ HB rfl lC; have uW := z_ SD; have CW := z_ fD; clear SD fD; have KU := z_ qD; have LU := z_ KD; clear qD KD; have MI := z_ FC; have LH := z_ WC; clear FC WC; replace rN := eq_true rN; replace ZK := eq_true ZK) | ((with_reducible refine qax (f := 60) rfl ?_); refine qbq (some 47) rfl rfl Tryz.func60 zdG rfl #[.slice uL ((qaC l0 o0).f3).length gL, .int .i64 vE] rfl zaq ?_; (with_reducible refine (qaN.calls k1 _ _ ((qaC l0 o0).f3) vE iI _ ?side1 ?side2 lU.o).mono ?_); (case side1 => exact zae (Kd.qar MI.o HB.o)); (case side2 => exact LH.o); rintro e w' ⟨rfl, ⟨nd, rfl⟩⟩; refine ⟨_, rfl, ?_⟩))
         go_ret
         exact ⟨zaM, zar⟩
        ·rw [if_neg c14] at H;have yf : decide (iI < 0) = false := decide_eq_false c14;clear c14;have H' := z_ H;clear H;have dA : 0 ≤ (o0 : Int) := zod_;have lA : o0 < (l0.length : Int) := zod_;obtain ⟨O9, LA, UA, JH, nJ, pI, zI, hJ, n5, Y3, X3, Z3, r5, G5, j5, D5, E5, H5⟩ := qdq Z1.o o0 dA lA
         cases hJ
         replace n5 := zmove_ HB rfl n5;replace Y3 := zmove_ HB rfl Y3;replace X3 := zmove_ HB rfl X3;replace Z3 := zmove_ HB rfl Z3;have cF := z_ G5;have xF := z_ r5;clear G5 r5;have kF := z_ D5;have fF := z_ j5;clear D5 j5;have pF := z_ H5;have CF := z_ E5;clear H5 E5;replace dA := eq_true dA;replace lA := eq_true lA;have MB : 0 ≤ (o0 : Int) := zod_;have VB : o0 < (l0.length : Int) := zod_;obtain ⟨JF, aM, zN, OL, fM, rM, IL, nL, E6, Q4, R4, S4, V6, Y6, M6, g7, I6, Q6⟩ := qdq Z1.o o0 MB VB;obtain rfl : O9 = JF := (by injection nL);replace E6 := zmove_ HB rfl E6;replace Q4 := zmove_ HB rfl Q4;replace R4 := zmove_ HB rfl R4;replace S4 := zmove_ HB rfl S4;have iA := z_ Y6;have U9 := z_ V6;clear Y6 V6;have MH := z_ g7;have wI := z_ M6;clear g7 M6;have FI := z_ Q6;have JI := z_ I6;clear Q6 I6;replace MB := eq_true MB;replace VB := eq_true VB;have O4 := Option.some.inj (Y3.symm.trans Q4);injection O4 with O4 en_ ec_
         subst O4;subst ec_;clear en_;have O4 := Option.some.inj (X3.symm.trans R4);injection O4 with O4 en_ ec_
         subst O4;subst ec_;clear en_;have O4 := Option.some.inj (Z3.symm.trans S4);injection O4 with O4 en_ ec_
         subst O4;subst ec_;clear en_
         go_wp2_with (first | ((with_reducible refine qax (f := 58) rfl ?_); refine qbq (some 29) rfl rfl Tryz.func58 zdG rfl #[.slice LA ((qaC l0 o0).f1).length UA, .int .i64 (wrap64 (L0 + 1))] rfl zaq ?_; (with_reducible refine (qaB.calls k1 _ _ ((qaC l0 o0).f1) (wrap64 (L0 + 1)) mB _ ?side1 ?side2 A6.o).mono ?_); (case side1 => exact zae (Kd.qar iA.o HB.o)); (case side2 => exact U9.o); rintro e oJ ⟨rfl, hb⟩; refine ⟨_, rfl, ?_⟩; replace HB := z_ (qaa zar hb); (try clear hb); have QF : 0 ≤ (o0 : Int) := zod_; have tG : o0 < (l0.length : Int) := zod_; obtain ⟨DJ, PS, NR, aG, DG, SS, gU, YT, j9, i9, Y8, m9, X8, d9, V8, S8, g9, T8⟩ := qdq Z1.o o0 QF tG; obtain rfl : O9 = DJ := (by injection YT); replace j9 := zmove_ HB rfl j9; replace i9 := zmove_ HB rfl i9; replace Y8 := zmove_ HB rfl Y8; replace m9 := zmove_ HB rfl m9; have ZP := z_ d9; have OO := z_ X8; clear d9 X8; have lD := z_ S8; have MC := z_ V8; clear S8 V8; have PN := z_ T8; have jO := z_ g9; clear T8 g9; replace QF := eq_true QF; replace tG := eq_true tG) | ((with_reducible refine qax (f := 59) rfl ?_); refine qbq (some 38) rfl rfl Tryz.func59 zdG rfl #[.slice aG ((qaC l0 o0).f2).length DG, .int .i64 mB] rfl zaq ?_; (with_reducible refine (qaF.calls k1 _ _ ((qaC l0 o0).f2) mB vE _ ?side1 ?side2 A9.o).mono ?_); (case side1 => exact zae (Kd.qar lD.o HB.o)); (case side2 => exact MC.o); rintro e ZU ⟨rfl, hb⟩; refine ⟨_, rfl, ?_⟩; replace HB := z_ (qaa zar hb); (try clear hb); have rN : 0 ≤ (o0 : Int) := zod_; have ZK : o0 < (l0.length : Int) := zod_; obtain ⟨sS, Jb, sa, Vb, Ha, uL, gL, Mb, ND, wC, JC, lC, fD, SD, KD, qD, WC, FC⟩ := qdq Z1.o o0 rN ZK; obtain rfl : O9 = sS := (by injection Mb); replace ND := zmove_ HB rfl ND; replace wC := zmove_ HB rfl wC; replace JC := zmove_ HB rfl JC; replace lC := zmove_ HB rfl lC; have uW := z_ SD; have CW := z_ fD; clear SD fD; have KU := z_ qD; have LU := z_ KD; clear qD KD; have MI := z_ FC; have LH := z_ WC; clear FC WC; replace rN := eq_true rN; replace ZK := eq_true ZK) | ((with_reducible refine qax (f := 60) rfl ?_); refine qbq (some 47) rfl rfl Tryz.func60 zdG rfl #[.slice uL ((qaC l0 o0).f3).length gL, .int .i64 vE] rfl zaq ?_; (with_reducible refine (qaN.calls k1 _ _ ((qaC l0 o0).f3) vE iI _ ?side1 ?side2 lU.o).mono ?_); (case side1 => exact zae (Kd.qar MI.o HB.o)); (case side2 => exact LH.o); rintro e w' ⟨rfl, ⟨nd, rfl⟩⟩; refine ⟨_, rfl, ?_⟩))
         go_roundg k1
         case measure => have := I5.o; omega
         case rel => exact ⟨(iI), (wrap64 (o0 + 1)), zcc, zcc, H', ⟨zcY⟩, ⟨zar⟩⟩
    ·rw [if_neg c4] at H;exact absurd H zdN
   ·rw [if_neg c3] at H;have Y1 : decide (o0 < (l0.length : Int)) = false := decide_eq_false c3;clear c3;obtain rfl := Option.some.inj H
    go_wp2
    go_ret
    exact ⟨zaM, zar⟩
theorem qhJ (l : List S80) : ∀ m, (qcu l m).length = l.length := by
 induction l with
 | nil => intro m; rfl
 | cons x l ih => intro m; simp [qcu, ih]
theorem qhr (rest : List S80) : ∀ (pre : List S80) (m : Int), 0 ≤ m → m + (qcf rest : Int) ≤ 4611686018427387904 → (pre ++ rest).length ≤ 4611686018427387904 →
  Ev (fun k => qaS.l0 k (pre ++ qcu rest m) m ((pre.length : Nat) : Int)) (m + (qcf rest : Int)) := by
 induction rest with
 | nil =>
  intro pre m h0 h1 hl;refine Ev.succ ?_;simp only [qaS.l0];exact Ev.neg (by simp [qcu]) (Ev.is (by simp [qcf]))
 | cons x rest ih =>
  intro pre m h0 h1 hl;have hml := qhJ rest (m + (costN x : Int));simp only [qcu, qcf, List.length_cons, List.length_append] at h1 hl ⊢;have hc : costN x = 1 + 2 * x.f1.length + x.f2.length + x.f3.length := rfl;have hx : qaC (pre ++ qfj x m :: qcu rest (m + (costN x : Int))) ((pre.length : Nat) : Int) = qfj x m := by simp [qaC, List.getD_eq_getElem?_getD]
  have hlt : ((pre.length : Nat) : Int) < (pre.length : Int) + ((qcu rest (m + (costN x : Int))).length + 1 : Int) := zdM;have hi := ih (pre ++ [qfj x m]) (m + (costN x : Int)) zdM zdM zaR;rw [← qek] at hi;have e3 : pre ++ qfj x m :: qcu rest (m + (costN x : Int)) = (pre ++ [qfj x m]) ++ qcu rest (m + (costN x : Int)) := zdN;rw [← e3] at hi;have g1 := qkQ x.f1 (m + 1) zdM zdM zdM;have g2 := Ev.same (qjz x.f2 (m + 1 + 2 * (x.f1.length : Int)) zdM zdM zdM) (show _ = m + 1 + 2 * (x.f1.length : Int) + (x.f2.length : Int) from zdM);have g3 := Ev.same (ql8 x.f3 (m + 1 + 2 * (x.f1.length : Int) + (x.f2.length : Int)) zdM zdM zdM) (show _ = m + (costN x : Int) from zdM);have hb : ¬ ((qfj x m).f0 != (Int.tmod m 3 == 0)) = true := by
   show ¬ ((m % 3 == 0) != (Int.tmod m 3 == 0)) = true
   rw [Int.tmod_eq_emod_of_nonneg h0];simp
  refine Ev.succ ?_;simp only [qaS.l0, hx, qft (n := pre.length) zdM, qc0 (x := m + 1) zdM zdM];refine Ev.pos zdF (Ev.pos zdM (Ev.neg hb (Ev.bind g1 (Ev.neg zdM (Ev.bind g2 (Ev.neg zdM (Ev.bind g3 (Ev.neg zdM (Ev.same hi zdM)))))))))
theorem qkR (l : List S80) (m : Int) (h0 : 0 ≤ m) (h1 : m + (qcf l : Int) ≤ 4611686018427387904) : Ev (fun k => qaS.f k (qcu l m) m) (m + (qcf l : Int)) := by
 unfold qaS.f;have hl := qh5 l;have h := qhr l [] m h0 h1 (by simp only [List.nil_append]; omega)
 simpa using h
theorem qj8 (P : Nat → Prop) (g n cap : Nat) (l : List S80) (m : Int) (w0 w : World) (hB : Below w0.heap.size w0 w) (hS : Kd.S k80 80 w w0.heap.size P (.slice (some ⟨g, 0, none⟩) n cap) l) (hm : 0 ≤ m) (hcost : m + (qcf l : Int) ≤ 4611686018427387904) :
  Calls Tryz.prog 12 #[.agg #[.slice (some ⟨g, 0, none⟩) n cap], .int .i64 m] w fun e w' => e = .returned (.int .i64 (m + (qcf l : Int))) ∧ Kd.S k80 80 w' w0.heap.size P (.slice (some ⟨g, 0, none⟩) n cap) (qcu l m) ∧ Below w0.heap.size w0 w' ∧ Kept w w' P := by
 have hu := Tryz.underlying29;have HB := z_ hB;have HS := z_ hS;clear hB hS
 go_enter Tryz.func12, Tryz.ntmps12
 go_wp2_with fail
 refine (qjy P g n cap l m w0 _ (HB.o.alloc HB.o.size (.cells #[.slice (some ⟨g, 0, none⟩) n cap] 29 (0, 0))) (Kd.qcK HS.o _) hm hcost).mono ?_;rintro e w1 ⟨rfl, h1, h2, h3⟩;have h3 := ((Kept.refl w P).alloc (.cells #[.slice (some ⟨g, 0, none⟩) n cap] 29 (0, 0))).qfZ h3 (fun k h => .inl h)
 go_wp2_with fail
 go_ret
 exact ⟨rfl, h1, h2, h3⟩
theorem qhK (A : Option Addr) (cap : Nat) (m : Int) (w : World) : Calls Tryz.prog 28 #[.slice A 0 cap, .int .i64 m] w fun e w' => e = .returned (.int .i64 m) ∧ Below w.heap.size w w' := by
 have hu := Tryz.underlying80;have HB := z_ (Below.refl w.heap.size w)
 go_enter Tryz.func28, Tryz.ntmps28
 go_wp2_with fail
 go_loopw [1, 5] (fun v1 v5 wr => v5 = .int .i64 0 ∧ v1 = .int .i64 m ∧ Aside0 (Below w.heap.size w wr)) (fun _ v5 _ => 0)
 case atStart => exact ⟨rfl, rfl, HB⟩
 case round =>
  clear HB;obtain ⟨rfl, rfl, HB⟩ := hrel;have c1 : decide ((0 : Int) < ((0 : Nat) : Int)) = false := rfl
  go_wp2_with fail
  go_ret
  exact ⟨rfl, HB.o⟩
theorem qiD (A : Option Addr) (cap : Nat) (m : Int) (w : World) : Calls Tryz.prog 12 #[.agg #[.slice A 0 cap], .int .i64 m] w fun e w' => e = .returned (.int .i64 m) ∧ Below w.heap.size w w' := by
 have hu := Tryz.underlying29;have HB := z_ (qaA (Below.refl w.heap.size w) (.cells #[.slice A 0 cap] 29 (0, 0)))
 go_enter Tryz.func12, Tryz.ntmps12
 go_wp2_with fail
 refine (qhK A cap m _).mono ?_;rintro e w1 ⟨rfl, hb⟩;have HB1 := z_ (qaa HB.o hb);clear hb HB
 go_wp2_with fail
 go_ret
 exact ⟨rfl, HB1.o⟩
theorem qgv (P : Nat → Prop) (A : Option Addr) (n cap : Nat) (l : List S80) (m : Int) (w0 w : World) (hB : Below w0.heap.size w0 w) (hS : Kd.S k80 80 w w0.heap.size P (.slice A n cap) l) (hm : 0 ≤ m) (hcost : m + (qcf l : Int) ≤ 4611686018427387904) :
  Calls Tryz.prog 12 #[.agg #[.slice A n cap], .int .i64 m] w fun e w' => e = .returned (.int .i64 (m + (qcf l : Int))) ∧ Kd.S k80 80 w' w0.heap.size P (.slice A n cap) (qcu l m) ∧ Below w0.heap.size w0 w' ∧ Kept w w' P := by
 rcases Nat.eq_zero_or_pos l.length with h0 | h0
 ·have hn := (Kd.qbn hS).1;obtain rfl := List.eq_nil_of_length_eq_zero h0;rw [List.length_nil] at hn;subst hn;refine (qiD A cap m w).mono ?_;rintro e w' ⟨rfl, hb⟩;refine ⟨?_, Kd.qaO hS hb, qaa hB hb, hb.size, fun k hk _ => hb.block k hk⟩
  show Ending.returned (.int .i64 m) = .returned (.int .i64 (m + ((0 : Nat) : Int)))
  rw [show m + ((0 : Nat) : Int) = m from zdM]
 ·obtain ⟨g, c, he, _⟩ := Kd.qiZ hS h0;injection he with h1 h2 h3
  subst h1; subst h2; subst h3;exact qj8 P g _ _ l m w0 w hB hS hm hcost
theorem qhT {α : Type} {d : Kd α} {e : Nat} {w w1 : World} {base : Nat} {ok P : Nat → Prop} {v : Value} {xs : List α} (h : Kd.S d e w base ok v xs) (hk : Kept w w1 P) (hno : ∀ k, ok k → ¬ P k) : Kd.S d e w1 base ok v xs :=
 Kd.qiY h (fun k ho hlt => hk.2 k hlt (hno k ho))
theorem qjA {c : Nat} (l : List S80) (h : ∀ x, x ∈ l → costN x ≤ c) : qcf l ≤ l.length * c := by
 induction l with
 | nil => exact Nat.zero_le _
 | cons x l ih =>
  have h1 := h x List.mem_cons_self;have h2 := ih fun y hy => h y (List.mem_cons_of_mem _ hy)
  show costN x + qcf l ≤ (l.length + 1) * c
  rw [Nat.add_mul, Nat.one_mul];omega
def qa0.l0 : Nat → List Int → List Int → Int → Option (Bool)
 | 0, _, _, _ => none
 | k + 1, x0, x1, x5 => if x5 < (x0.length : Int) then (if 0 ≤ x5 then (if x5 < (x1.length : Int) then (if (rd x0 x5) = (rd x1 x5) then (qa0.l0 k x0 x1 (wrap64 (x5 + 1))) else (some false)) else (none)) else (none)) else (some true)
def qa0.f (k : Nat) (l0 : List Int) (l1 : List Int) : Option (Bool) := if (l0.length : Int) = (l1.length : Int) then (qa0.l0 k l0 l1 0) else (some false)
theorem qa0.qbl : ∀ k, (∀ y0 y1 y2, LeO (qa0.l0 k y0 y1 y2) (qa0.l0 (k + 1) y0 y1 y2))
 | 0 => fun _ _ _ r h => by simp [qa0.l0] at h
 | k + 1 => by
  have Q9 := qa0.qbl k
  ·intro y0 y1 y2;unfold qa0.l0;exact zleo_
theorem qa0.mono : ∀ a0 a1 k, LeO (qa0.f k a0 a1) (qa0.f (k + 1) a0 a1) := by
 intro a0 a1 k;have Q9 := qa0.qbl k;unfold qa0.f;exact zleo_
theorem qa0.calls (k : Nat) (A0 : Option Addr) (c0 : Nat) (l0 : List Int) (A1 : Option Addr) (c1 : Nat) (l1 : List Int) (r : Bool) (w : World) (hr0 : Kd.C (Kd.int .i64) w A0 l0.length l0) (hc0 : l0.length ≤ c0) (hr1 : Kd.C (Kd.int .i64) w A1 l1.length l1) (hc1 : l1.length ≤ c1) (h : qa0.f k l0 l1 = some r) :
  Calls Tryz.prog 11 #[.slice A0 l0.length c0, .slice A1 l1.length c1] w fun e w' => e = .returned (.bool r) ∧ qcm w w' := by
 have Z1 := z_ hr0;have kB := z_ hc0;clear hr0 hc0;have HR1 := z_ hr1;have cG := z_ hc1;clear hr1 hc1;have H : (if (l0.length : Int) = (l1.length : Int) then (qa0.l0 k l0 l1 0) else (some false)) = some r := h;clear h
 by_cases c3 : (l0.length : Int) = (l1.length : Int)
 ·rw [if_pos c3] at H;have Y1 : ((l0.length : Int) == (l1.length : Int)) = true := beq_iff_eq.mpr c3;have r6 : ((l0.length : Int) != (l1.length : Int)) = false := bne_eq_false_iff_eq.mpr c3;have QB : (l0.length == l1.length) = true := zbW;clear c3;have H' := z_ H;clear H
  go_enter Tryz.func11, Tryz.ntmps11
  go_wp2
  repeat (go_quiet (fail); try go_wp2)
  go_loopg [5] k (fun kq v5 w' => ∃ (o0 : Int), v5 = .int .i64 o0 ∧ Aside0 (qa0.l0 kq l0 l1 o0 = some r) ∧ Aside0 (kq ≤ k) ∧ qcm w w')
  case atStart => exact ⟨(0), zcc, H', ⟨Nat.le_refl _⟩, zbh⟩
  case round =>
   clear H';try clear c3
   try clear Y1
   try clear r6
   try clear QB
   obtain ⟨o0, rfl, HA, I5, ⟨m1, rfl⟩⟩ := hrel
   cases gk with
   | zero => exact absurd HA.o (by simp [qa0.l0])
   | succ k1 =>
    have H := HA.o;clear HA;simp only [qa0.l0] at H
    by_cases c4 : o0 < (l0.length : Int)
    ·rw [if_pos c4] at H;have G4 : decide (o0 < (l0.length : Int)) = true := decide_eq_true c4;clear c4
     by_cases c5 : 0 ≤ o0
     ·rw [if_pos c5] at H;have O8 : decide (0 ≤ o0) = true := decide_eq_true c5;clear c5
      by_cases c6 : o0 < (l1.length : Int)
      ·rw [if_pos c6] at H;have u7 : decide (o0 < (l1.length : Int)) = true := decide_eq_true c6;clear c6
       by_cases c7 : (rd l0 o0) = (rd l1 o0)
       ·rw [if_pos c7] at H;have QA : ((rd l0 o0) == (rd l1 o0)) = true := beq_iff_eq.mpr c7;have rT : ((rd l0 o0) != (rd l1 o0)) = false := bne_eq_false_iff_eq.mpr c7;clear c7;have H' := z_ H;clear H;have YL : 0 ≤ (o0 : Int) := zod_;have xM : o0 < (l0.length : Int) := zod_;obtain ⟨Bh, Yc, fV⟩ := Kd.qdu Z1.o o0 YL xM
        cases Yc
        replace YL := eq_true YL;replace xM := eq_true xM;have YK : 0 ≤ (o0 : Int) := zod_;have JL : o0 < (l1.length : Int) := zod_;obtain ⟨ne, Aa, IW⟩ := Kd.qdu HR1.o o0 YK JL
        cases Aa
        replace YK := eq_true YK;replace JL := eq_true JL
        go_wp2
        repeat (go_quiet (fail); try go_wp2)
        go_roundg k1
        case measure => have := I5.o; omega
        case rel => exact ⟨(wrap64 (o0 + 1)), zcc, H', ⟨zcY⟩, zbh⟩
       ·rw [if_neg c7] at H;have QA : ((rd l0 o0) == (rd l1 o0)) = false := beq_eq_false_iff_ne.mpr c7;have rT : ((rd l0 o0) != (rd l1 o0)) = true := bne_iff_ne.mpr c7;obtain rfl := Option.some.inj H;have YL : 0 ≤ (o0 : Int) := zod_;have xM : o0 < (l0.length : Int) := zod_;obtain ⟨Bh, Yc, fV⟩ := Kd.qdu Z1.o o0 YL xM
        cases Yc
        replace YL := eq_true YL;replace xM := eq_true xM;have YK : 0 ≤ (o0 : Int) := zod_;have JL : o0 < (l1.length : Int) := zod_;obtain ⟨ne, Aa, IW⟩ := Kd.qdu HR1.o o0 YK JL
        cases Aa
        replace YK := eq_true YK;replace JL := eq_true JL
        go_wp2
        repeat (go_quiet (fail); try go_wp2)
        go_ret
        exact ⟨zcc, zbh⟩
      ·rw [if_neg c6] at H;exact absurd H zdN
     ·rw [if_neg c5] at H;exact absurd H zdN
    ·rw [if_neg c4] at H;have G4 : decide (o0 < (l0.length : Int)) = false := decide_eq_false c4;clear c4;obtain rfl := Option.some.inj H
     go_wp2
     repeat (go_quiet (fail); try go_wp2)
     go_ret
     exact ⟨zcc, zbh⟩
 ·rw [if_neg c3] at H;have Y1 : ((l0.length : Int) == (l1.length : Int)) = false := beq_eq_false_iff_ne.mpr c3;have r6 : ((l0.length : Int) != (l1.length : Int)) = true := bne_iff_ne.mpr c3;have QB : (l0.length == l1.length) = false := zbW;obtain rfl := Option.some.inj H
  go_enter Tryz.func11, Tryz.ntmps11
  go_wp2
  repeat (go_quiet (fail); try go_wp2)
  go_ret
  exact ⟨zcc, zbh⟩
theorem qjB (rest : List Int) : ∀ (pre : List Int), (pre ++ rest).length ≤ 9223372036854775807 → (True) → Ev (fun k => qa0.l0 k (pre ++ rest) (pre ++ rest) ((pre.length : Nat) : Int)) true := by
 induction rest with
 | nil =>
  intro pre hl hs;refine Ev.succ ?_;simp only [qa0.l0];exact Ev.neg zdN (Ev.is rfl)
 | cons x rest ih =>
  intro pre hl hs;have hx : rd (pre ++ x :: rest) ((pre.length : Nat) : Int) = x := by simp [rd, List.getD_eq_getElem?_getD]
  have hlt : ((pre.length : Nat) : Int) < ((pre ++ x :: rest).length : Int) := zdF;have hwp : wrap64 (((pre.length : Nat) : Int) + 1) = (((pre ++ [x]).length : Nat) : Int) := zbn;have e1 : pre ++ x :: rest = (pre ++ [x]) ++ rest := zdN;have hi := ih (pre ++ [x]) zdo trivial;rw [← e1] at hi;refine Ev.succ ?_;simp only [qa0.l0, hx, hwp];exact Ev.pos hlt (Ev.pos zdM (Ev.pos hlt (Ev.pos (by first | trivial | rfl) hi)))
theorem ql9 (l : List Int) (h : l.length ≤ 9223372036854775807) : Ev (fun k => qa0.f k l l) true := by
 unfold qa0.f;have hh := qjB l [] zdB trivial;exact Ev.pos rfl (by simpa using hh)
def qcP.f (B0 : ByteArray) (I2 : ByteArray) (J5 : ByteArray) (cE : ByteArray) : Option (Bool) := if B0.toList = J5.toList then (if I2.toList = cE.toList then (some true) else (some false)) else (some false)
theorem qcP.calls (B0 : ByteArray) (I2 : ByteArray) (J5 : ByteArray) (cE : ByteArray) (r : Bool) (w : World) (h : qcP.f B0 I2 J5 cE = some r) :
  Calls Tryz.prog 108 #[.agg #[.string B0, .string I2], .agg #[.string J5, .string cE]] w fun e w' => e = .returned (.bool r) ∧ Below w.heap.size w w' := by
 have SK := Tryz.underlying61;have HB := z_ (Below.refl w.heap.size w);have H : (if B0.toList = J5.toList then (if I2.toList = cE.toList then (some true) else (some false)) else (some false)) = some r := h;clear h
 by_cases c3 : B0.toList = J5.toList
 ·rw [if_pos c3] at H;have Y1 : (B0.toList == J5.toList) = true := beq_iff_eq.mpr c3;have r6 : (B0.toList != J5.toList) = false := bne_eq_false_iff_eq.mpr c3;clear c3
  by_cases c4 : I2.toList = cE.toList
  ·rw [if_pos c4] at H;have G4 : (I2.toList == cE.toList) = true := beq_iff_eq.mpr c4;have tg : (I2.toList != cE.toList) = false := bne_eq_false_iff_eq.mpr c4;clear c4;obtain rfl := Option.some.inj H
   go_enter Tryz.func108, Tryz.ntmps108
   go_wp2_with (first | ((with_reducible refine qaw (N := 2) rfl ?_); refine qaH zdO (N := 2) zdO (cs := #[.string B0, .string I2]) (t := 61) zcm ?_; intro j7 hg w5 hbox hb; have M9 := z_ (hbox); have FY := z_ ((zao : w.heap.size ≤ j7)); have oD := z_ ((zao : w.heap.size ≤ j7)); replace HB := z_ (qaa zar hb); clear hb hbox hg) | ((with_reducible refine qaw (N := 3) rfl ?_); refine qaH zdO (N := 3) zdO (cs := #[.string J5, .string cE]) (t := 61) zcm ?_; intro a9 hg w6 hbox hb; have BJ := z_ (hbox); have zX := z_ ((zcg : w.heap.size ≤ a9)); have CJ := z_ ((zcg : w.heap.size ≤ a9)); have G9 := z_ ((zaB : j7 ≠ a9)); have E9 := z_ ((zaC : a9 ≠ j7)); replace M9 := z_ (qab (g := j7) (o := .cells #[.string B0, .string I2] 61 (0, 0)) (zac M9.o) hb); replace HB := z_ (qaa (zab oD.o) hb); clear hb hbox hg; have mg := G9.o; have ki := E9.o; obtain ⟨dE, fJ, ZD, BI⟩ := zcells2 M9.o; obtain ⟨SH, sb, iJ, Ma⟩ := zcells2 BJ.o))
   go_ret
   exact ⟨zaM, zaf oD.o CJ.o⟩
  ·rw [if_neg c4] at H;have G4 : (I2.toList == cE.toList) = false := beq_eq_false_iff_ne.mpr c4;have tg : (I2.toList != cE.toList) = true := bne_iff_ne.mpr c4;obtain rfl := Option.some.inj H
   go_enter Tryz.func108, Tryz.ntmps108
   go_wp2_with (first | ((with_reducible refine qaw (N := 2) rfl ?_); refine qaH zdO (N := 2) zdO (cs := #[.string B0, .string I2]) (t := 61) zcm ?_; intro j7 hg U8 hbox hb; have M9 := z_ (hbox); have FY := z_ ((zao : w.heap.size ≤ j7)); have oD := z_ ((zao : w.heap.size ≤ j7)); replace HB := z_ (qaa zar hb); clear hb hbox hg) | ((with_reducible refine qaw (N := 3) rfl ?_); refine qaH zdO (N := 3) zdO (cs := #[.string J5, .string cE]) (t := 61) zcm ?_; intro a9 hg s9 hbox hb; have BJ := z_ (hbox); have zX := z_ ((zcg : w.heap.size ≤ a9)); have CJ := z_ ((zcg : w.heap.size ≤ a9)); have G9 := z_ ((zaB : j7 ≠ a9)); have E9 := z_ ((zaC : a9 ≠ j7)); replace M9 := z_ (qab (g := j7) (o := .cells #[.string B0, .string I2] 61 (0, 0)) (zac M9.o) hb); replace HB := z_ (qaa (zab oD.o) hb); clear hb hbox hg; have hnb12 := G9.o; have hnc12 := E9.o; obtain ⟨rF, VH, gF, YI⟩ := zcells2 M9.o; obtain ⟨xI, XO, AI, sP⟩ := zcells2 BJ.o))
   go_ret
   exact ⟨zaM, zaf oD.o CJ.o⟩
 ·rw [if_neg c3] at H;have Y1 : (B0.toList == J5.toList) = false := beq_eq_false_iff_ne.mpr c3;have r6 : (B0.toList != J5.toList) = true := bne_iff_ne.mpr c3;obtain rfl := Option.some.inj H
  go_enter Tryz.func108, Tryz.ntmps108
  go_wp2_with (first | ((with_reducible refine qaw (N := 2) rfl ?_); refine qaH zdO (N := 2) zdO (cs := #[.string B0, .string I2]) (t := 61) zcm ?_; intro j7 hg bC hbox hb; have M9 := z_ (hbox); have FY := z_ ((zao : w.heap.size ≤ j7)); have oD := z_ ((zao : w.heap.size ≤ j7)); replace HB := z_ (qaa zar hb); clear hb hbox hg) | ((with_reducible refine qaw (N := 3) rfl ?_); refine qaH zdO (N := 3) zdO (cs := #[.string J5, .string cE]) (t := 61) zcm ?_; intro a9 hg w16 hbox hb; have BJ := z_ (hbox); have zX := z_ ((zcg : w.heap.size ≤ a9)); have CJ := z_ ((zcg : w.heap.size ≤ a9)); have G9 := z_ ((zaB : j7 ≠ a9)); have E9 := z_ ((zaC : a9 ≠ j7)); replace M9 := z_ (qab (g := j7) (o := .cells #[.string B0, .string I2] 61 (0, 0)) (zac M9.o) hb); replace HB := z_ (qaa (zab oD.o) hb); clear hb hbox hg; have bh := G9.o; have qi := E9.o; obtain ⟨kI, bQ, TH, ZO⟩ := zcells2 M9.o; obtain ⟨jF, BF, nF, eF⟩ := zcells2 BJ.o))
  go_ret
  exact ⟨zaM, zaf oD.o CJ.o⟩
def len61 (x : S61) : Prop := True ∧ True
theorem eq_Pair (x : S61) (h : len61 x) : Ev (fun k => qcP.f (x.f0) (x.f1) (x.f0) (x.f1)) true := by
 unfold qcP.f;exact Ev.pos rfl (Ev.pos rfl (Ev.is rfl))
def qaJ.l0 : Nat → List (S61) → List (S61) → Int → Option (Bool)
 | 0, _, _, _ => none
 | k + 1, x0, x1, x5 => if x5 < (x0.length : Int) then (if 0 ≤ x5 then (if x5 < (x1.length : Int) then ((qcP.f ((qan x0 x5).f0) ((qan x0 x5).f1) ((qan x1 x5).f0) ((qan x1 x5).f1)).bind fun oa => (if oa = true then (qaJ.l0 k x0 x1 (wrap64 (x5 + 1))) else (some false))) else (none)) else (none)) else (some true)
def qaJ.f (k : Nat) (l0 : List (S61)) (l1 : List (S61)) : Option (Bool) := if (l0.length : Int) = (l1.length : Int) then (qaJ.l0 k l0 l1 0) else (some false)
theorem qaJ.qbl : ∀ k, (∀ y0 y1 y2, LeO (qaJ.l0 k y0 y1 y2) (qaJ.l0 (k + 1) y0 y1 y2))
 | 0 => fun _ _ _ r h => by simp [qaJ.l0] at h
 | k + 1 => by
  have Q9 := qaJ.qbl k
  ·intro y0 y1 y2;unfold qaJ.l0;exact zleo_
theorem qaJ.mono : ∀ a0 a1 k, LeO (qaJ.f k a0 a1) (qaJ.f (k + 1) a0 a1) := by
 intro a0 a1 k;have Q9 := qaJ.qbl k;unfold qaJ.f;exact zleo_
def qaJ.T6 : Bool × List (List Nat × List Nat) := (true, [([], []), ([], []), ([0, 1], [0, 1]), ([2], [2]), ([], []), ([], []), ([4, 5], [4, 5]), ([6], [6]), ([3, 7], [3, 7]), ([8], [8])])
def qaJ.B6 : List Nat := [0, 0, 3, 7, 0, 0, 48, 112, 255, 511]
theorem qaJ.tab6 : rtab .any (opsOf Tryz.f90 6) = qaJ.T6 := zdG
theorem qaJ.bits6 : qbW qaJ.T6.2 qaJ.B6 = true := zdG
theorem qaJ.calls (k : Nat) (A0 : Option Addr) (c0 : Nat) (l0 : List (S61)) (A1 : Option Addr) (c1 : Nat) (l1 : List (S61)) (r : Bool) (w : World) (hr0 : Kd.C k61 w A0 l0.length l0) (hc0 : l0.length ≤ c0) (hr1 : Kd.C k61 w A1 l1.length l1) (hc1 : l1.length ≤ c1) (h : qaJ.f k l0 l1 = some r) :
  Calls Tryz.prog 90 #[.slice A0 l0.length c0, .slice A1 l1.length c1] w fun e w' => e = .returned (.bool r) ∧ Below w.heap.size w w' := by
 have SK := Tryz.underlying61;have Z1 := z_ hr0;have kB := z_ hc0;clear hr0 hc0;have HR1 := z_ hr1;have cG := z_ hc1;clear hr1 hc1;have HB := z_ (Below.refl w.heap.size w);have H : (if (l0.length : Int) = (l1.length : Int) then (qaJ.l0 k l0 l1 0) else (some false)) = some r := h;clear h
 by_cases c3 : (l0.length : Int) = (l1.length : Int)
 ·rw [if_pos c3] at H;have Y1 : ((l0.length : Int) == (l1.length : Int)) = true := beq_iff_eq.mpr c3;have r6 : ((l0.length : Int) != (l1.length : Int)) = false := bne_eq_false_iff_eq.mpr c3;have QB : (l0.length == l1.length) = true := zbW;clear c3;have H' := z_ H;clear H
  go_enter Tryz.func90, Tryz.ntmps90
  go_wp2
  go_loopg [5] k (fun kq v5 w' => ∃ (o0 : Int), v5 = .int .i64 o0 ∧ Aside0 (qaJ.l0 kq l0 l1 o0 = some r) ∧ Aside0 (kq ≤ k) ∧ Aside0 (Below w.heap.size w w'))
  case atStart => exact ⟨(0), zcc, H', ⟨Nat.le_refl _⟩, ⟨zar⟩⟩
  case round =>
   clear H';try clear c3
   try clear Y1
   try clear r6
   try clear QB
   obtain ⟨o0, rfl, HA, I5, HB⟩ := hrel
   cases gk with
   | zero => exact absurd HA.o (by simp [qaJ.l0])
   | succ k1 =>
    have H := HA.o;clear HA;simp only [qaJ.l0] at H
    by_cases c4 : o0 < (l0.length : Int)
    ·rw [if_pos c4] at H;have G4 : decide (o0 < (l0.length : Int)) = true := decide_eq_true c4;clear c4
     by_cases c5 : 0 ≤ o0
     ·rw [if_pos c5] at H;have O8 : decide (0 ≤ o0) = true := decide_eq_true c5;clear c5
      by_cases c6 : o0 < (l1.length : Int)
      ·rw [if_pos c6] at H;have u7 : decide (o0 < (l1.length : Int)) = true := decide_eq_true c6;clear c6;replace H := Option.bind_eq_some_iff.mp H;obtain ⟨oa, RT, H⟩ := H;try dsimp only at H
       have A7 := z_ RT;clear RT
       by_cases c8 : oa = true
       ·subst c8;rw [if_pos rfl] at H;have H' := z_ H;clear H;try go_wp2
        have O1 := z_ (qa1 HB.o);clear HB;have HB := O1;clear O1;have BN : 0 ≤ (o0 : Int) := zod_;have qL : o0 < (l0.length : Int) := zod_;obtain ⟨eG, wZ, N6, b7⟩ := qb1 Z1.o o0 BN qL;have DI := b7;have RI := N6
        cases wZ
        replace N6 := zmove_ HB rfl N6;replace b7 := zmove_ HB rfl b7;replace BN := eq_true BN;replace qL := eq_true qL;have JM : 0 ≤ (o0 : Int) := zod_;have cM : o0 < (l1.length : Int) := zod_;obtain ⟨RF, ob, d7, R6⟩ := qb1 HR1.o o0 JM cM;have PI := R6;have UI := d7
        cases ob
        replace d7 := zmove_ HB rfl d7;replace R6 := zmove_ HB rfl R6;replace JM := eq_true JM;replace cM := eq_true cM;refine qbc zdG zdG ?_;have U1 := z_ (show wr.drew.cell? (eG.add ((o0).toNat * 2)) = some (.string ((qan l0 o0).f0)) from (zcm_ HB.o RI));have M2 := z_ (show wr.drew.cell? ⟨(eG.add ((o0).toNat * 2)).block, (eG.add ((o0).toNat * 2)).off + 1, none⟩ = some (.string ((qan l0 o0).f1)) from (zcm_ HB.o DI));have P8 := z_ (show wr.drew.cell? (RF.add ((o0).toNat * 2)) = some (.string ((qan l1 o0).f0)) from (zcm_ HB.o UI));have F8 := z_ (show wr.drew.cell? ⟨(RF.add ((o0).toNat * 2)).block, (RF.add ((o0).toNat * 2)).off + 1, none⟩ = some (.string ((qan l1 o0).f1)) from (zcm_ HB.o PI));generalize wr.drew = w9 at HB N6 b7 d7 R6 U1 M2 P8 F8 ⊢;clear N6 b7 d7 R6;have hL0 := fun (p_ : Later w9) => Later.cell p_ U1.o
        have hL1 := fun (p_ : Later w9) => Later.cell p_ M2.o
        have hL2 := fun (p_ : Later w9) => Later.cell p_ P8.o
        have hL3 := fun (p_ : Later w9) => Later.cell p_ F8.o
        clear U1 M2 P8 F8
        repeat (first | go_big_quiet_step ((first | (go_at_call 108; exact Calls.qbv (qcP.calls ((qan l0 o0).f0) ((qan l0 o0).f1) ((qan l1 o0).f0) ((qan l1 o0).f1) true _ A7.o)))) | quiet_step ((first | (go_at_call 108; exact Calls.qbv (qcP.calls ((qan l0 o0).f0) ((qan l0 o0).f1) ((qan l1 o0).f0) ((qan l1 o0).f1) true _ A7.o)))))
        refine wpQuiet_nil ?_;rintro U8 ⟨⟨r9, hbL⟩, C6⟩;have X5 : U8 = r9 := C6;clear C6;subst X5;clear hL0 hL1 hL2 hL3;have Y2 := z_ (qaa HB.o hbL);clear HB;have HB := Y2;clear Y2 hbL;try go_wp2
        go_roundg k1
        case measure => have := I5.o; omega
        case rel => exact ⟨(wrap64 (o0 + 1)), zcc, H', ⟨zcY⟩, ⟨zar⟩⟩
       ·replace c8 := Bool.eq_false_iff.mpr c8;subst c8;rw [if_neg zft_] at H;obtain rfl := Option.some.inj H;try go_wp2
        have O1 := z_ (qa1 HB.o);clear HB;have HB := O1;clear O1;have BN : 0 ≤ (o0 : Int) := zod_;have qL : o0 < (l0.length : Int) := zod_;obtain ⟨eG, wZ, N6, b7⟩ := qb1 Z1.o o0 BN qL;have DI := b7;have RI := N6
        cases wZ
        replace N6 := zmove_ HB rfl N6;replace b7 := zmove_ HB rfl b7;replace BN := eq_true BN;replace qL := eq_true qL;have JM : 0 ≤ (o0 : Int) := zod_;have cM : o0 < (l1.length : Int) := zod_;obtain ⟨RF, ob, d7, R6⟩ := qb1 HR1.o o0 JM cM;have PI := R6;have UI := d7
        cases ob
        replace d7 := zmove_ HB rfl d7;replace R6 := zmove_ HB rfl R6;replace JM := eq_true JM;replace cM := eq_true cM;refine qbc zdG zdG ?_;have U1 := z_ (show wr.drew.cell? (eG.add ((o0).toNat * 2)) = some (.string ((qan l0 o0).f0)) from (zcm_ HB.o RI));have M2 := z_ (show wr.drew.cell? ⟨(eG.add ((o0).toNat * 2)).block, (eG.add ((o0).toNat * 2)).off + 1, none⟩ = some (.string ((qan l0 o0).f1)) from (zcm_ HB.o DI));have P8 := z_ (show wr.drew.cell? (RF.add ((o0).toNat * 2)) = some (.string ((qan l1 o0).f0)) from (zcm_ HB.o UI));have F8 := z_ (show wr.drew.cell? ⟨(RF.add ((o0).toNat * 2)).block, (RF.add ((o0).toNat * 2)).off + 1, none⟩ = some (.string ((qan l1 o0).f1)) from (zcm_ HB.o PI));generalize wr.drew = s9 at HB N6 b7 d7 R6 U1 M2 P8 F8 ⊢;clear N6 b7 d7 R6;have hL0 := fun (p_ : Later s9) => Later.cell p_ U1.o
        have hL1 := fun (p_ : Later s9) => Later.cell p_ M2.o
        have hL2 := fun (p_ : Later s9) => Later.cell p_ P8.o
        have hL3 := fun (p_ : Later s9) => Later.cell p_ F8.o
        clear U1 M2 P8 F8
        repeat (first | go_big_quiet_step ((first | (go_at_call 108; exact Calls.qbv (qcP.calls ((qan l0 o0).f0) ((qan l0 o0).f1) ((qan l1 o0).f0) ((qan l1 o0).f1) false _ A7.o)))) | quiet_step ((first | (go_at_call 108; exact Calls.qbv (qcP.calls ((qan l0 o0).f0) ((qan l0 o0).f1) ((qan l1 o0).f0) ((qan l1 o0).f1) false _ A7.o)))))
        refine wpQuiet_nil ?_;rintro JB ⟨⟨r9, hbL⟩, C6⟩;have X5 : JB = r9 := C6;clear C6;subst X5;clear hL0 hL1 hL2 hL3;have Y2 := z_ (qaa HB.o hbL);clear HB;have HB := Y2;clear Y2 hbL;try go_wp2
        go_ret
        exact ⟨zaM, zar⟩
      ·rw [if_neg c6] at H;exact absurd H zdN
     ·rw [if_neg c5] at H;exact absurd H zdN
    ·rw [if_neg c4] at H;have G4 : decide (o0 < (l0.length : Int)) = false := decide_eq_false c4;clear c4;obtain rfl := Option.some.inj H
     go_wp2
     go_ret
     exact ⟨zaM, zar⟩
 ·rw [if_neg c3] at H;have Y1 : ((l0.length : Int) == (l1.length : Int)) = false := beq_eq_false_iff_ne.mpr c3;have r6 : ((l0.length : Int) != (l1.length : Int)) = true := bne_iff_ne.mpr c3;have QB : (l0.length == l1.length) = false := zbW;obtain rfl := Option.some.inj H
  go_enter Tryz.func90, Tryz.ntmps90
  go_wp2
  go_ret
  exact ⟨zaM, zar⟩
theorem qiE (rest : List S61) : ∀ (pre : List S61), (pre ++ rest).length ≤ 9223372036854775807 → (∀ y ∈ rest, len61 y) → Ev (fun k => qaJ.l0 k (pre ++ rest) (pre ++ rest) ((pre.length : Nat) : Int)) true := by
 induction rest with
 | nil =>
  intro pre hl hs;refine Ev.succ ?_;simp only [qaJ.l0];exact Ev.neg zdN (Ev.is rfl)
 | cons x rest ih =>
  intro pre hl hs;have hx : qan (pre ++ x :: rest) ((pre.length : Nat) : Int) = x := by simp [qan, List.getD_eq_getElem?_getD]
  have hlt : ((pre.length : Nat) : Int) < ((pre ++ x :: rest).length : Int) := zdF;have hwp : wrap64 (((pre.length : Nat) : Int) + 1) = (((pre ++ [x]).length : Nat) : Int) := zbn;have e1 : pre ++ x :: rest = (pre ++ [x]) ++ rest := zdN;have hi := ih (pre ++ [x]) zdo (fun y hy => hs y (List.mem_cons_of_mem _ hy));rw [← e1] at hi;refine Ev.succ ?_;simp only [qaJ.l0, hx, hwp];exact Ev.pos hlt (Ev.pos zdM (Ev.pos hlt (Ev.bind (eq_Pair x (hs x List.mem_cons_self)) (Ev.pos rfl hi))))
theorem eq_PairS (l : List S61) (h : l.length ≤ 9223372036854775807 ∧ ∀ y ∈ l, len61 y) : Ev (fun k => qaJ.f k l l) true := by
 unfold qaJ.f;have hh := qiE l [] (by simpa using h.1) h.2;exact Ev.pos rfl (by simpa using hh)
def qaK.l0 : Nat → List ByteArray → List ByteArray → Int → Option (Bool)
 | 0, _, _, _ => none
 | k + 1, x0, x1, x5 => if x5 < (x0.length : Int) then (if 0 ≤ x5 then (if x5 < (x1.length : Int) then (if (rdOf ByteArray.empty x0 x5).toList = (rdOf ByteArray.empty x1 x5).toList then (qaK.l0 k x0 x1 (wrap64 (x5 + 1))) else (some false)) else (none)) else (none)) else (some true)
def qaK.f (k : Nat) (l0 : List ByteArray) (l1 : List ByteArray) : Option (Bool) := if (l0.length : Int) = (l1.length : Int) then (qaK.l0 k l0 l1 0) else (some false)
theorem qaK.qbl : ∀ k, (∀ y0 y1 y2, LeO (qaK.l0 k y0 y1 y2) (qaK.l0 (k + 1) y0 y1 y2))
 | 0 => fun _ _ _ r h => by simp [qaK.l0] at h
 | k + 1 => by
  have Q9 := qaK.qbl k
  ·intro y0 y1 y2;unfold qaK.l0;exact zleo_
theorem qaK.mono : ∀ a0 a1 k, LeO (qaK.f k a0 a1) (qaK.f (k + 1) a0 a1) := by
 intro a0 a1 k;have Q9 := qaK.qbl k;unfold qaK.f;exact zleo_
theorem qaK.calls (k : Nat) (A0 : Option Addr) (c0 : Nat) (l0 : List ByteArray) (A1 : Option Addr) (c1 : Nat) (l1 : List ByteArray) (r : Bool) (w : World) (hr0 : Kd.C Kd.string w A0 l0.length l0) (hc0 : l0.length ≤ c0) (hr1 : Kd.C Kd.string w A1 l1.length l1) (hc1 : l1.length ≤ c1) (h : qaK.f k l0 l1 = some r) :
  Calls Tryz.prog 91 #[.slice A0 l0.length c0, .slice A1 l1.length c1] w fun e w' => e = .returned (.bool r) ∧ qcm w w' := by
 have Z1 := z_ hr0;have kB := z_ hc0;clear hr0 hc0;have HR1 := z_ hr1;have cG := z_ hc1;clear hr1 hc1;have H : (if (l0.length : Int) = (l1.length : Int) then (qaK.l0 k l0 l1 0) else (some false)) = some r := h;clear h
 by_cases c3 : (l0.length : Int) = (l1.length : Int)
 ·rw [if_pos c3] at H;have Y1 : ((l0.length : Int) == (l1.length : Int)) = true := beq_iff_eq.mpr c3;have r6 : ((l0.length : Int) != (l1.length : Int)) = false := bne_eq_false_iff_eq.mpr c3;have QB : (l0.length == l1.length) = true := zbW;clear c3;have H' := z_ H;clear H
  go_enter Tryz.func91, Tryz.ntmps91
  go_wp2
  repeat (go_quiet (fail); try go_wp2)
  go_loopg [5] k (fun kq v5 w' => ∃ (o0 : Int), v5 = .int .i64 o0 ∧ Aside0 (qaK.l0 kq l0 l1 o0 = some r) ∧ Aside0 (kq ≤ k) ∧ qcm w w')
  case atStart => exact ⟨(0), zcc, H', ⟨Nat.le_refl _⟩, zbh⟩
  case round =>
   clear H';try clear c3
   try clear Y1
   try clear r6
   try clear QB
   obtain ⟨o0, rfl, HA, I5, ⟨m1, rfl⟩⟩ := hrel
   cases gk with
   | zero => exact absurd HA.o (by simp [qaK.l0])
   | succ k1 =>
    have H := HA.o;clear HA;simp only [qaK.l0] at H
    by_cases c4 : o0 < (l0.length : Int)
    ·rw [if_pos c4] at H;have G4 : decide (o0 < (l0.length : Int)) = true := decide_eq_true c4;clear c4
     by_cases c5 : 0 ≤ o0
     ·rw [if_pos c5] at H;have O8 : decide (0 ≤ o0) = true := decide_eq_true c5;clear c5
      by_cases c6 : o0 < (l1.length : Int)
      ·rw [if_pos c6] at H;have u7 : decide (o0 < (l1.length : Int)) = true := decide_eq_true c6;clear c6
       by_cases c7 : (rdOf ByteArray.empty l0 o0).toList = (rdOf ByteArray.empty l1 o0).toList
       ·rw [if_pos c7] at H;have QA : ((rdOf ByteArray.empty l0 o0).toList == (rdOf ByteArray.empty l1 o0).toList) = true := beq_iff_eq.mpr c7;have rT : ((rdOf ByteArray.empty l0 o0).toList != (rdOf ByteArray.empty l1 o0).toList) = false := bne_eq_false_iff_eq.mpr c7;clear c7;have H' := z_ H;clear H;have mN : 0 ≤ (o0 : Int) := zod_;have sN : o0 < (l0.length : Int) := zod_;obtain ⟨kf, gZ, cV⟩ := Kd.qbX Z1.o o0 mN sN
        cases gZ
        replace mN := eq_true mN;replace sN := eq_true sN;have lN : 0 ≤ (o0 : Int) := zod_;have pM : o0 < (l1.length : Int) := zod_;obtain ⟨jh, Fc, NU⟩ := Kd.qbX HR1.o o0 lN pM
        cases Fc
        replace lN := eq_true lN;replace pM := eq_true pM
        go_wp2
        repeat (go_quiet (fail); try go_wp2)
        go_roundg k1
        case measure => have := I5.o; omega
        case rel => exact ⟨(wrap64 (o0 + 1)), zcc, H', ⟨zcY⟩, zbh⟩
       ·rw [if_neg c7] at H;have QA : ((rdOf ByteArray.empty l0 o0).toList == (rdOf ByteArray.empty l1 o0).toList) = false := beq_eq_false_iff_ne.mpr c7;have rT : ((rdOf ByteArray.empty l0 o0).toList != (rdOf ByteArray.empty l1 o0).toList) = true := bne_iff_ne.mpr c7;obtain rfl := Option.some.inj H;have mN : 0 ≤ (o0 : Int) := zod_;have sN : o0 < (l0.length : Int) := zod_;obtain ⟨kf, gZ, cV⟩ := Kd.qbX Z1.o o0 mN sN
        cases gZ
        replace mN := eq_true mN;replace sN := eq_true sN;have lN : 0 ≤ (o0 : Int) := zod_;have pM : o0 < (l1.length : Int) := zod_;obtain ⟨jh, Fc, NU⟩ := Kd.qbX HR1.o o0 lN pM
        cases Fc
        replace lN := eq_true lN;replace pM := eq_true pM
        go_wp2
        repeat (go_quiet (fail); try go_wp2)
        go_ret
        exact ⟨zcc, zbh⟩
      ·rw [if_neg c6] at H;exact absurd H zdN
     ·rw [if_neg c5] at H;exact absurd H zdN
    ·rw [if_neg c4] at H;have G4 : decide (o0 < (l0.length : Int)) = false := decide_eq_false c4;clear c4;obtain rfl := Option.some.inj H
     go_wp2
     repeat (go_quiet (fail); try go_wp2)
     go_ret
     exact ⟨zcc, zbh⟩
 ·rw [if_neg c3] at H;have Y1 : ((l0.length : Int) == (l1.length : Int)) = false := beq_eq_false_iff_ne.mpr c3;have r6 : ((l0.length : Int) != (l1.length : Int)) = true := bne_iff_ne.mpr c3;have QB : (l0.length == l1.length) = false := zbW;obtain rfl := Option.some.inj H
  go_enter Tryz.func91, Tryz.ntmps91
  go_wp2
  repeat (go_quiet (fail); try go_wp2)
  go_ret
  exact ⟨zcc, zbh⟩
theorem qhs (rest : List ByteArray) : ∀ (pre : List ByteArray), (pre ++ rest).length ≤ 9223372036854775807 → (True) → Ev (fun k => qaK.l0 k (pre ++ rest) (pre ++ rest) ((pre.length : Nat) : Int)) true := by
 induction rest with
 | nil =>
  intro pre hl hs;refine Ev.succ ?_;simp only [qaK.l0];exact Ev.neg zdN (Ev.is rfl)
 | cons x rest ih =>
  intro pre hl hs;have hx : rdOf ByteArray.empty (pre ++ x :: rest) ((pre.length : Nat) : Int) = x := by simp [rdOf, List.getD_eq_getElem?_getD]
  have hlt : ((pre.length : Nat) : Int) < ((pre ++ x :: rest).length : Int) := zdF;have hwp : wrap64 (((pre.length : Nat) : Int) + 1) = (((pre ++ [x]).length : Nat) : Int) := zbn;have e1 : pre ++ x :: rest = (pre ++ [x]) ++ rest := zdN;have hi := ih (pre ++ [x]) zdo trivial;rw [← e1] at hi;refine Ev.succ ?_;simp only [qaK.l0, hx, hwp];exact Ev.pos hlt (Ev.pos zdM (Ev.pos hlt (Ev.pos (by first | trivial | rfl) hi)))
theorem qkS (l : List ByteArray) (h : l.length ≤ 9223372036854775807) : Ev (fun k => qaK.f k l l) true := by
 unfold qaK.f;have hh := qhs l [] zdB trivial;exact Ev.pos rfl (by simpa using hh)
def qcb.f (k : Nat) (B0 : Bool) (D0 : List (S61)) (C0 : List ByteArray) (E0 : List Int) (J5 : Bool) (P7 : List (S61)) (s8 : List ByteArray) (o9 : List Int) : Option (Bool) := if (B0 != J5) = true then (some false) else ((qaJ.f k D0 P7).bind fun ET => (if ET = true then ((qaK.f k C0 s8).bind fun VS => (if VS = true then ((qa0.f k E0 o9).bind fun eU => (if eU = true then (some true) else (some false))) else (some false))) else (some false)))
theorem qcb.mono : ∀ a0 a1 a2 a3 a4 a5 a6 a7 k, LeO (qcb.f k a0 a1 a2 a3 a4 a5 a6 a7) (qcb.f (k + 1) a0 a1 a2 a3 a4 a5 a6 a7) := by
 intro a0 a1 a2 a3 a4 a5 a6 a7 k;unfold qcb.f;have kC := @qa0.mono; have dT := @qaJ.mono; have iW := @qaK.mono; exact zleo_
theorem qcb.calls (k : Nat) (B0 : Bool) (P0 : Option Addr) (O0 : Nat) (D0 : List (S61)) (R0 : Option Addr) (T0 : Nat) (C0 : List ByteArray) (U0 : Option Addr) (Q0 : Nat) (E0 : List Int) (J5 : Bool) (LB : Option Addr) (WB : Nat) (P7 : List (S61)) (zC : Option Addr) (bD : Nat) (s8 : List ByteArray) (aE : Option Addr) (eE : Nat) (o9 : List Int) (r : Bool) (w : World) (J3 : Kd.C k61 w P0 D0.length D0) (I3 : D0.length ≤ O0) (V2 : Kd.C Kd.string w R0 C0.length C0) (F3 : C0.length ≤ T0) (u3 : Kd.C (Kd.int .i64) w U0 E0.length E0) (D3 : E0.length ≤ Q0) (CY : Kd.C k61 w LB P7.length P7) (NY : P7.length ≤ WB) (nY : Kd.C Kd.string w zC s8.length s8) (CX : s8.length ≤ bD) (tX : Kd.C (Kd.int .i64) w aE o9.length o9) (AX : o9.length ≤ eE) (h : qcb.f k B0 D0 C0 E0 J5 P7 s8 o9 = some r) :
  Calls Tryz.prog 55 #[.agg #[.bool B0, .slice P0 D0.length O0, .slice R0 C0.length T0, .slice U0 E0.length Q0], .agg #[.bool J5, .slice LB P7.length WB, .slice zC s8.length bD, .slice aE o9.length eE]] w fun e w' => e = .returned (.bool r) ∧ Below w.heap.size w w' := by
 have lI := Tryz.underlying80;have M7 := z_ J3;have Y7 := z_ I3;clear J3 I3;have I8 := z_ V2;have Z8 := z_ F3;clear V2 F3;have D9 := z_ u3;have oA := z_ D3;clear u3 D3;have NN := z_ CY;have PO := z_ NY;clear CY NY;have yS := z_ nY;have fU := z_ CX;clear nY CX;have LX := z_ tX;have VX := z_ AX;clear tX AX;have HB := z_ (Below.refl w.heap.size w);have H : (if (B0 != J5) = true then (some false) else ((qaJ.f k D0 P7).bind fun ET => (if ET = true then ((qaK.f k C0 s8).bind fun VS => (if VS = true then ((qa0.f k E0 o9).bind fun eU => (if eU = true then (some true) else (some false))) else (some false))) else (some false)))) = some r := h;clear h
 by_cases c3 : (B0 != J5) = true
 ·rw [if_pos c3] at H;have Y1 : (B0 != J5) = true := c3
  (try (have r6 : decide (B0 = J5) = false := zdz))
  (try (have QB : (B0 == J5) = false := zdz))
  (try (have c3b3 : ¬ (B0 = J5) := zdz))
  clear c3;obtain rfl := Option.some.inj H
  go_enter Tryz.func55, Tryz.ntmps55
  go_wp2_with (first | ((with_reducible refine qaw (N := 2) rfl ?_); refine qaH zdO (N := 2) zdO (cs := #[.bool B0, .slice P0 D0.length O0, .slice R0 C0.length T0, .slice U0 E0.length Q0]) (t := 80) zcm ?_; intro T2 hg w4 hbox hb; have E3 := z_ (hbox); have vP := z_ ((zao : w.heap.size ≤ T2)); have L5 := z_ ((zao : w.heap.size ≤ T2)); replace HB := z_ (qaa zar hb); clear hb hbox hg) | ((with_reducible refine qaw (N := 3) rfl ?_); refine qaH zdO (N := 3) zdO (cs := #[.bool J5, .slice LB P7.length WB, .slice zC s8.length bD, .slice aE o9.length eE]) (t := 80) zcm ?_; intro F4 hg w5 hbox hb; have n6 := z_ (hbox); have NO := z_ ((zcf : w.heap.size ≤ F4)); have J7 := z_ ((zcf : w.heap.size ≤ F4)); have N5 := z_ ((zaj : T2 ≠ F4)); have O5 := z_ ((zak : F4 ≠ T2)); replace E3 := z_ (qab (g := T2) (o := .cells #[.bool B0, .slice P0 D0.length O0, .slice R0 C0.length T0, .slice U0 E0.length Q0] 80 (0, 0)) (zac E3.o) hb); replace HB := z_ (qaa (zab L5.o) hb); clear hb hbox hg; have Df := N5.o; have qh := O5.o; obtain ⟨FM, pL, sn, dm, bN, ZL, bm, ym⟩ := zcells4 E3.o; obtain ⟨dE, fJ, TT, XR, ZD, BI, US, ZT⟩ := zcells4 n6.o))
  go_ret
  exact ⟨zaM, zaf L5.o J7.o⟩
 ·rw [if_neg c3] at H;have Y1 : (B0 != J5) = false := zdz
  (try (have r6 : decide (B0 = J5) = true := zdz))
  (try (have QB : (B0 == J5) = true := zdz))
  clear c3;replace H := Option.bind_eq_some_iff.mp H;obtain ⟨ET, oe, H⟩ := H;try dsimp only at H
  have A9 := z_ oe;clear oe
  by_cases c10 : ET = true
  ·subst c10;rw [if_pos rfl] at H;replace H := Option.bind_eq_some_iff.mp H;obtain ⟨VS, Mf, H⟩ := H;try dsimp only at H
   have Jm := z_ Mf;clear Mf
   by_cases c12 : VS = true
   ·subst c12;rw [if_pos rfl] at H;replace H := Option.bind_eq_some_iff.mp H;obtain ⟨eU, gG, H⟩ := H;try dsimp only at H
    have lU := z_ gG;clear gG
    by_cases c14 : eU = true
    ·subst c14;rw [if_pos rfl] at H;obtain rfl := Option.some.inj H
     go_enter Tryz.func55, Tryz.ntmps55
     go_wp2_with (first | ((with_reducible refine qaw (N := 2) rfl ?_); refine qaH zdO (N := 2) zdO (cs := #[.bool B0, .slice P0 D0.length O0, .slice R0 C0.length T0, .slice U0 E0.length Q0]) (t := 80) zcm ?_; intro T2 hg bC hbox hb; have E3 := z_ (hbox); have vP := z_ ((zao : w.heap.size ≤ T2)); have L5 := z_ ((zao : w.heap.size ≤ T2)); replace HB := z_ (qaa zar hb); clear hb hbox hg) | ((with_reducible refine qaw (N := 3) rfl ?_); refine qaH zdO (N := 3) zdO (cs := #[.bool J5, .slice LB P7.length WB, .slice zC s8.length bD, .slice aE o9.length eE]) (t := 80) zcm ?_; intro F4 hg w16 hbox hb; have n6 := z_ (hbox); have NO := z_ ((zcf : w.heap.size ≤ F4)); have J7 := z_ ((zcf : w.heap.size ≤ F4)); have N5 := z_ ((zaj : T2 ≠ F4)); have O5 := z_ ((zak : F4 ≠ T2)); replace E3 := z_ (qab (g := T2) (o := .cells #[.bool B0, .slice P0 D0.length O0, .slice R0 C0.length T0, .slice U0 E0.length Q0] 80 (0, 0)) (zac E3.o) hb); replace HB := z_ (qaa (zab L5.o) hb); clear hb hbox hg; have bh := N5.o; have qi := O5.o; obtain ⟨kI, bQ, Si, ul, TH, ZO, sj, Tj⟩ := zcells4 E3.o; obtain ⟨jF, BF, aJ, NI, nF, eF, NH, TI⟩ := zcells4 n6.o) | ((with_reducible refine qax (f := 90) rfl ?_); refine qbq (some 14) rfl rfl Tryz.func90 zdG rfl #[.slice P0 D0.length O0, .slice LB P7.length WB] rfl zaq ?_; (with_reducible refine (qaJ.calls k _ _ D0 _ _ P7 true _ ?side1 ?side2 ?side3 ?side4 A9.o).mono ?_); (case side1 => exact zae (Kd.qar M7.o HB.o)); (case side2 => exact Y7.o); (case side3 => exact zae (Kd.qar NN.o HB.o)); (case side4 => exact PO.o); rintro e tF ⟨rfl, hb⟩; refine ⟨_, rfl, ?_⟩; replace E3 := z_ (qab (g := T2) (o := .cells #[.bool B0, .slice P0 D0.length O0, .slice R0 C0.length T0, .slice U0 E0.length Q0] 80 (0, 0)) (zac E3.o) hb); replace n6 := z_ (qab (g := F4) (o := .cells #[.bool J5, .slice LB P7.length WB, .slice zC s8.length bD, .slice aE o9.length eE] 80 (0, 0)) (zac n6.o) hb); replace HB := z_ (qaa (zaf L5.o J7.o) hb); (try clear hb); obtain ⟨nW, rV, rX, yV, bV, mV, XU, tV⟩ := zcells4 E3.o; obtain ⟨YW, xV, DU, MW, DW, qV, qX, aX⟩ := zcells4 n6.o) | ((with_reducible refine qax (f := 91) rfl ?_); refine qbq (some 20) rfl rfl Tryz.func91 zdG rfl #[.slice R0 C0.length T0, .slice zC s8.length bD] rfl zaq ?_; (with_reducible refine (qaK.calls k _ _ C0 _ _ s8 true _ ?side1 ?side2 ?side3 ?side4 Jm.o).mono ?_); (case side1 => exact zae (Kd.qar I8.o HB.o)); (case side2 => exact Z8.o); (case side3 => exact zae (Kd.qar yS.o HB.o)); (case side4 => exact fU.o); rintro e w' ⟨rfl, ⟨nd, rfl⟩⟩; refine ⟨_, rfl, ?_⟩) | ((with_reducible refine qax (f := 11) rfl ?_); refine qbq (some 26) rfl rfl Tryz.func11 zdG rfl #[.slice U0 E0.length Q0, .slice aE o9.length eE] rfl zaq ?_; (with_reducible refine (qa0.calls k _ _ E0 _ _ o9 true _ ?side1 ?side2 ?side3 ?side4 lU.o).mono ?_); (case side1 => repeat (first | exact (Kd.qar D9.o (zaf L5.o J7.o)) | (with_reducible refine Kd.qeM ?_ _) | (with_reducible refine Kd.qfl ?_ _) | (with_reducible refine Kd.qeN ?_))); (case side2 => exact oA.o); (case side3 => repeat (first | exact (Kd.qar LX.o (zaf L5.o J7.o)) | (with_reducible refine Kd.qeM ?_ _) | (with_reducible refine Kd.qfl ?_ _) | (with_reducible refine Kd.qeN ?_))); (case side4 => exact VX.o); rintro e w' ⟨rfl, ⟨nd, rfl⟩⟩; refine ⟨_, rfl, ?_⟩))
     go_ret
     exact ⟨zaM, zaf L5.o J7.o⟩
    ·replace c14 := Bool.eq_false_iff.mpr c14;subst c14;rw [if_neg zft_] at H;obtain rfl := Option.some.inj H
     go_enter Tryz.func55, Tryz.ntmps55
     go_wp2_with (first | ((with_reducible refine qaw (N := 2) rfl ?_); refine qaH zdO (N := 2) zdO (cs := #[.bool B0, .slice P0 D0.length O0, .slice R0 C0.length T0, .slice U0 E0.length Q0]) (t := 80) zcm ?_; intro T2 hg YR hbox hb; have E3 := z_ (hbox); have vP := z_ ((zao : w.heap.size ≤ T2)); have L5 := z_ ((zao : w.heap.size ≤ T2)); replace HB := z_ (qaa zar hb); clear hb hbox hg) | ((with_reducible refine qaw (N := 3) rfl ?_); refine qaH zdO (N := 3) zdO (cs := #[.bool J5, .slice LB P7.length WB, .slice zC s8.length bD, .slice aE o9.length eE]) (t := 80) zcm ?_; intro F4 hg dR hbox hb; have n6 := z_ (hbox); have NO := z_ ((zcf : w.heap.size ≤ F4)); have J7 := z_ ((zcf : w.heap.size ≤ F4)); have N5 := z_ ((zaj : T2 ≠ F4)); have O5 := z_ ((zak : F4 ≠ T2)); replace E3 := z_ (qab (g := T2) (o := .cells #[.bool B0, .slice P0 D0.length O0, .slice R0 C0.length T0, .slice U0 E0.length Q0] 80 (0, 0)) (zac E3.o) hb); replace HB := z_ (qaa (zab L5.o) hb); clear hb hbox hg; have hnb25 := N5.o; have hnc25 := O5.o; obtain ⟨zV, CV, FW, VV, VU, bW, AV, fW⟩ := zcells4 E3.o; obtain ⟨Nk, ak, dj, aj, Wj, Cj, Ji, Ej⟩ := zcells4 n6.o) | ((with_reducible refine qax (f := 90) rfl ?_); refine qbq (some 14) rfl rfl Tryz.func90 zdG rfl #[.slice P0 D0.length O0, .slice LB P7.length WB] rfl zaq ?_; (with_reducible refine (qaJ.calls k _ _ D0 _ _ P7 true _ ?side1 ?side2 ?side3 ?side4 A9.o).mono ?_); (case side1 => exact zae (Kd.qar M7.o HB.o)); (case side2 => exact Y7.o); (case side3 => exact zae (Kd.qar NN.o HB.o)); (case side4 => exact PO.o); rintro e Lm ⟨rfl, hb⟩; refine ⟨_, rfl, ?_⟩; replace E3 := z_ (qab (g := T2) (o := .cells #[.bool B0, .slice P0 D0.length O0, .slice R0 C0.length T0, .slice U0 E0.length Q0] 80 (0, 0)) (zac E3.o) hb); replace n6 := z_ (qab (g := F4) (o := .cells #[.bool J5, .slice LB P7.length WB, .slice zC s8.length bD, .slice aE o9.length eE] 80 (0, 0)) (zac n6.o) hb); replace HB := z_ (qaa (zaf L5.o J7.o) hb); (try clear hb); obtain ⟨jV, NW, TW, BV, GV, vV, gV, zU⟩ := zcells4 E3.o; obtain ⟨BP, lV, LW, AU, JN, SU, cX, FU⟩ := zcells4 n6.o) | ((with_reducible refine qax (f := 91) rfl ?_); refine qbq (some 20) rfl rfl Tryz.func91 zdG rfl #[.slice R0 C0.length T0, .slice zC s8.length bD] rfl zaq ?_; (with_reducible refine (qaK.calls k _ _ C0 _ _ s8 true _ ?side1 ?side2 ?side3 ?side4 Jm.o).mono ?_); (case side1 => exact zae (Kd.qar I8.o HB.o)); (case side2 => exact Z8.o); (case side3 => exact zae (Kd.qar yS.o HB.o)); (case side4 => exact fU.o); rintro e w' ⟨rfl, ⟨nd, rfl⟩⟩; refine ⟨_, rfl, ?_⟩) | ((with_reducible refine qax (f := 11) rfl ?_); refine qbq (some 26) rfl rfl Tryz.func11 zdG rfl #[.slice U0 E0.length Q0, .slice aE o9.length eE] rfl zaq ?_; (with_reducible refine (qa0.calls k _ _ E0 _ _ o9 false _ ?side1 ?side2 ?side3 ?side4 lU.o).mono ?_); (case side1 => repeat (first | exact (Kd.qar D9.o (zaf L5.o J7.o)) | (with_reducible refine Kd.qeM ?_ _) | (with_reducible refine Kd.qfl ?_ _) | (with_reducible refine Kd.qeN ?_))); (case side2 => exact oA.o); (case side3 => repeat (first | exact (Kd.qar LX.o (zaf L5.o J7.o)) | (with_reducible refine Kd.qeM ?_ _) | (with_reducible refine Kd.qfl ?_ _) | (with_reducible refine Kd.qeN ?_))); (case side4 => exact VX.o); rintro e w' ⟨rfl, ⟨nd, rfl⟩⟩; refine ⟨_, rfl, ?_⟩))
     go_ret
     exact ⟨zaM, zaf L5.o J7.o⟩
   ·replace c12 := Bool.eq_false_iff.mpr c12;subst c12;rw [if_neg zft_] at H;obtain rfl := Option.some.inj H
    go_enter Tryz.func55, Tryz.ntmps55
    go_wp2_with (first | ((with_reducible refine qaw (N := 2) rfl ?_); refine qaH zdO (N := 2) zdO (cs := #[.bool B0, .slice P0 D0.length O0, .slice R0 C0.length T0, .slice U0 E0.length Q0]) (t := 80) zcm ?_; intro T2 hg w31 hbox hb; have E3 := z_ (hbox); have vP := z_ ((zao : w.heap.size ≤ T2)); have L5 := z_ ((zao : w.heap.size ≤ T2)); replace HB := z_ (qaa zar hb); clear hb hbox hg) | ((with_reducible refine qaw (N := 3) rfl ?_); refine qaH zdO (N := 3) zdO (cs := #[.bool J5, .slice LB P7.length WB, .slice zC s8.length bD, .slice aE o9.length eE]) (t := 80) zcm ?_; intro F4 hg w32 hbox hb; have n6 := z_ (hbox); have NO := z_ ((zcf : w.heap.size ≤ F4)); have J7 := z_ ((zcf : w.heap.size ≤ F4)); have N5 := z_ ((zaj : T2 ≠ F4)); have O5 := z_ ((zak : F4 ≠ T2)); replace E3 := z_ (qab (g := T2) (o := .cells #[.bool B0, .slice P0 D0.length O0, .slice R0 C0.length T0, .slice U0 E0.length Q0] 80 (0, 0)) (zac E3.o) hb); replace HB := z_ (qaa (zab L5.o) hb); clear hb hbox hg; have hnb33 := N5.o; have hnc33 := O5.o; obtain ⟨Mi, Mj, Rk, Hi, Qk, Xk, zl, Vj⟩ := zcells4 E3.o; obtain ⟨Fi, zj, fj, ej, Qj, xl, tj, Qi⟩ := zcells4 n6.o) | ((with_reducible refine qax (f := 90) rfl ?_); refine qbq (some 14) rfl rfl Tryz.func90 zdG rfl #[.slice P0 D0.length O0, .slice LB P7.length WB] rfl zaq ?_; (with_reducible refine (qaJ.calls k _ _ D0 _ _ P7 true _ ?side1 ?side2 ?side3 ?side4 A9.o).mono ?_); (case side1 => exact zae (Kd.qar M7.o HB.o)); (case side2 => exact Y7.o); (case side3 => exact zae (Kd.qar NN.o HB.o)); (case side4 => exact PO.o); rintro e w36 ⟨rfl, hb⟩; refine ⟨_, rfl, ?_⟩; replace E3 := z_ (qab (g := T2) (o := .cells #[.bool B0, .slice P0 D0.length O0, .slice R0 C0.length T0, .slice U0 E0.length Q0] 80 (0, 0)) (zac E3.o) hb); replace n6 := z_ (qab (g := F4) (o := .cells #[.bool J5, .slice LB P7.length WB, .slice zC s8.length bD, .slice aE o9.length eE] 80 (0, 0)) (zac n6.o) hb); replace HB := z_ (qaa (zaf L5.o J7.o) hb); (try clear hb); obtain ⟨wi, Nj, ol, Rj, qk, Bl, Dk, jj⟩ := zcells4 E3.o; obtain ⟨Ri, Yk, Ij, bj, Lj, Bk, xj, wk⟩ := zcells4 n6.o) | ((with_reducible refine qax (f := 91) rfl ?_); refine qbq (some 20) rfl rfl Tryz.func91 zdG rfl #[.slice R0 C0.length T0, .slice zC s8.length bD] rfl zaq ?_; (with_reducible refine (qaK.calls k _ _ C0 _ _ s8 false _ ?side1 ?side2 ?side3 ?side4 Jm.o).mono ?_); (case side1 => exact zae (Kd.qar I8.o HB.o)); (case side2 => exact Z8.o); (case side3 => exact zae (Kd.qar yS.o HB.o)); (case side4 => exact fU.o); rintro e w' ⟨rfl, ⟨nd, rfl⟩⟩; refine ⟨_, rfl, ?_⟩))
    go_ret
    exact ⟨zaM, zaf L5.o J7.o⟩
  ·replace c10 := Bool.eq_false_iff.mpr c10;subst c10;rw [if_neg zft_] at H;obtain rfl := Option.some.inj H
   go_enter Tryz.func55, Tryz.ntmps55
   go_wp2_with (first | ((with_reducible refine qaw (N := 2) rfl ?_); refine qaH zdO (N := 2) zdO (cs := #[.bool B0, .slice P0 D0.length O0, .slice R0 C0.length T0, .slice U0 E0.length Q0]) (t := 80) zcm ?_; intro T2 hg w39 hbox hb; have E3 := z_ (hbox); have vP := z_ ((zao : w.heap.size ≤ T2)); have L5 := z_ ((zao : w.heap.size ≤ T2)); replace HB := z_ (qaa zar hb); clear hb hbox hg) | ((with_reducible refine qaw (N := 3) rfl ?_); refine qaH zdO (N := 3) zdO (cs := #[.bool J5, .slice LB P7.length WB, .slice zC s8.length bD, .slice aE o9.length eE]) (t := 80) zcm ?_; intro F4 hg w40 hbox hb; have n6 := z_ (hbox); have NO := z_ ((zcf : w.heap.size ≤ F4)); have J7 := z_ ((zcf : w.heap.size ≤ F4)); have N5 := z_ ((zaj : T2 ≠ F4)); have O5 := z_ ((zak : F4 ≠ T2)); replace E3 := z_ (qab (g := T2) (o := .cells #[.bool B0, .slice P0 D0.length O0, .slice R0 C0.length T0, .slice U0 E0.length Q0] 80 (0, 0)) (zac E3.o) hb); replace HB := z_ (qaa (zab L5.o) hb); clear hb hbox hg; have hnb41 := N5.o; have hnc41 := O5.o; obtain ⟨kj, Ui, Bj, rl, El, Wk, nk, cj⟩ := zcells4 E3.o; obtain ⟨Yj, Ai, yi, Yi, ek, Mk, dl, Pi⟩ := zcells4 n6.o) | ((with_reducible refine qax (f := 90) rfl ?_); refine qbq (some 14) rfl rfl Tryz.func90 zdG rfl #[.slice P0 D0.length O0, .slice LB P7.length WB] rfl zaq ?_; (with_reducible refine (qaJ.calls k _ _ D0 _ _ P7 false _ ?side1 ?side2 ?side3 ?side4 A9.o).mono ?_); (case side1 => exact zae (Kd.qar M7.o HB.o)); (case side2 => exact Y7.o); (case side3 => exact zae (Kd.qar NN.o HB.o)); (case side4 => exact PO.o); rintro e w44 ⟨rfl, hb⟩; refine ⟨_, rfl, ?_⟩; replace E3 := z_ (qab (g := T2) (o := .cells #[.bool B0, .slice P0 D0.length O0, .slice R0 C0.length T0, .slice U0 E0.length Q0] 80 (0, 0)) (zac E3.o) hb); replace n6 := z_ (qab (g := F4) (o := .cells #[.bool J5, .slice LB P7.length WB, .slice zC s8.length bD, .slice aE o9.length eE] 80 (0, 0)) (zac n6.o) hb); replace HB := z_ (qaa (zaf L5.o J7.o) hb); (try clear hb)))
   go_ret
   exact ⟨zaM, zaf L5.o J7.o⟩
def len80 (x : S80) : Prop := True ∧ (x.f1.length ≤ 9223372036854775807 ∧ ∀ y ∈ x.f1, len61 y) ∧ (x.f2.length ≤ 9223372036854775807) ∧ (x.f3.length ≤ 9223372036854775807)
theorem eq_Node (x : S80) (h : len80 x) : Ev (fun k => qcb.f k (x.f0) (x.f1) (x.f2) (x.f3) (x.f0) (x.f1) (x.f2) (x.f3)) true := by
 unfold qcb.f;exact Ev.neg zdN (Ev.bind (eq_PairS _ h.2.1) (Ev.pos rfl (Ev.bind (qkS _ h.2.2.1) (Ev.pos rfl (Ev.bind (ql9 _ h.2.2.2) (Ev.pos rfl (Ev.is rfl)))))))
end Go.Proofs.YtcdokcpiahbejaaGreat.X
