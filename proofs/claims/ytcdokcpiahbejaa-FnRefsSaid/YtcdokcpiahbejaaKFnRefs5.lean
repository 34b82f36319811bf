import Derived.Test.YtcdokcpiahbejaaKFnRefs4
import Derived.LoopTactic
import Derived.WalkSpells
import Derived.Deep.RegionLaw
namespace Go.Proofs.Ytcdokcpiahbejaa.X
open Go.RowKit Go.Proofs.YtcdokcpiahbejaaW.PrintWords Go.Proofs.YtcdokcpiahbejaaW.PrintLast Go.Proofs.YtcdokcpiahbejaaW.PrintMore
attribute [local go_sem] qax qay qaz qat qau qaJ qaK qam qan qav qaw
set_option linter.unusedVariables false
set_option linter.unusedSimpArgs false
def WkAt (w0 w : World) (g : Nat) (vh vs vp : Value) (s : List Bool) (p : List S77) : Prop :=
 w0.heap.size ≤ g ∧ w.heap[g]? = some (.cells #[vh, vs, vp] 101 (0, 0)) ∧ Kd.R Kd.bool 4 w w0.heap.size (fun _ => True) vs s ∧ Kd.R k77 77 w w0.heap.size (fun _ => True) vp p
theorem WkAt.below {w0 w w1 : World} {g : Nat} {vh vs vp : Value} {s : List Bool} {p : List S77} (h : WkAt w0 w g vh vs vp s p) (hb : Below w.heap.size w w1) : WkAt w0 w1 g vh vs vp s p :=
 ⟨h.1, qap h.2.1 hb, Kd.qbO h.2.2.1 hb, Kd.qbO h.2.2.2 hb⟩
theorem qfG {t : Nat} (h : 4 ≠ t) : ∀ q, q ∈ 4 :: Kd.bool.E → q ≠ t := fun q hq => by
 have : q = 4 := zbA;rw [this]; exact h
theorem qfH {t : Nat} (h : 77 ≠ t) : ∀ q, q ∈ 77 :: k77.E → q ≠ t := fun q hq => by
 have : q = 77 := by simpa [k77, Kd.iso, Kd.pair, Kd.string, Kd.scalar] using hq
 rw [this]; exact h
def KeptT (w w' : World) (g : Nat) : Prop := ∀ (k : Nat) (cells : Array Value) (t : TypeId), w.heap[k]? = some (.cells cells t (0, 0)) → k ≠ g → 4 ≠ t → 77 ≠ t → w'.heap[k]? = some (.cells cells t (0, 0))
theorem KeptT.refl (w : World) (g : Nat) : KeptT w w g := fun _ _ _ h _ _ _ => h
theorem KeptT.trans {w w1 w2 : World} {g : Nat} (h : KeptT w w1 g) (h' : KeptT w1 w2 g) : KeptT w w2 g := fun k c t a b d e => h' k c t (h k c t a b d e) b d e
theorem KeptT.below {w w1 w2 : World} {g : Nat} (h : KeptT w w1 g) (hb : Below w1.heap.size w1 w2) : KeptT w w2 g := fun k c t a b d e => qap (h k c t a b d e) hb
abbrev WkPost (w0 : World) (vh : Value) (g : Nat) (w : World) (r : Bool × List Bool × List S77) (e : Ending) (w' : World) : Prop := e = .returned (.bool r.1) ∧ Below w0.heap.size w0 w' ∧ KeptT w w' g ∧ (r.1 = true → ∃ vs' vp' : Value, WkAt w0 w' g vh vs' vp' r.2.1 r.2.2)
theorem qfj {w : World} {base : Nat} {ok : Nat → Prop} {gp n c : Nat} {p : List S77} (h : Kd.R k77 77 w base ok (.slice (some ⟨gp, 0, none⟩) n c) p) {j : Nat} (hj : j < p.length) : w.cell? ⟨gp, j * 2, none⟩ = some (.string (qcR p j)) := by
 obtain ⟨ad, e1, hx0, _⟩ := qce (Kd.qaU h).2.2 (j : Int) zbV zbV
 cases e1
 rw [Int.toNat_natCast, add_plain] at hx0;exact hx0
theorem cells3 {W : World} {g : Nat} {t : TypeId} {x0 x1 x2 : Value} (h : W.heap[g]? = some (.cells #[x0, x1, x2] t (0, 0))) : W.cell? ⟨g, 0, none⟩ = some x0 ∧ W.cell? ⟨g, 1, none⟩ = some x1 ∧ W.cell? ⟨g, 2, none⟩ = some x2 ∧ W.frozen? ⟨g, 2, none⟩ = false :=
 ⟨qac h 0, qac h 1, qac h 2, qab h 2⟩
theorem qbz {W : World} {g : Nat} {t : TypeId} {x0 x1 x2 x3 : Value} (h : W.heap[g]? = some (.cells #[x0, x1, x2, x3] t (0, 0))) : W.cell? ⟨g, 0, none⟩ = some x0 ∧ W.cell? ⟨g, 1, none⟩ = some x1 ∧ W.cell? ⟨g, 2, none⟩ = some x2 ∧ W.cell? ⟨g, 3, none⟩ = some x3 :=
 ⟨qac h 0, qac h 1, qac h 2, qac h 3⟩
def walkI.T14 : Bool × List (List Nat × List Nat) := (true, [([], []), ([], []), ([], []), ([2], [2]), ([0, 1, 3], [0, 1, 3]), ([4], [4]), ([5, 4], [5]), ([6], [6]), ([7, 6], [6, 7]), ([8, 6], [6, 8]), ([9, 6], [6, 9]), ([6], [6]), ([10, 11, 6], [6, 10, 11]), ([12, 6], [6, 12]), ([13, 6], [6, 13]), ([6], [6]), ([15, 6], [6, 15]), ([6], [6]), ([16, 17, 6], [6, 16, 17]), ([18, 6], [6, 18]), ([14, 19, 6], [6, 14, 19]), ([6, 20], [6, 20])])
def walkI.B14 : List Nat := [0, 0, 0, 4, 15, 31, 63, 127, 255, 511, 1023, 127, 4095, 8191, 16383, 127, 32895, 127, 229503, 491647, 1048575, 2097151]
theorem walkI.tab14 : rtab .any (opsOf Try.f73 14) = walkI.T14 := zbS
theorem walkI.bits14 : qbv walkI.T14.2 walkI.B14 = true := zbS
set_option maxHeartbeats 16000000 in
set_option maxRecDepth 100000 in
theorem qhj (ns : List S75) (w0 : World) (Ah : Option Addr) (ch : Nat) (hh : Kd.C k75 w0 Ah ns.length ns) (hl : ns.length = 50) (hbd : qem ns) : ∀ (n k : Nat) (d : Int) (s : List Bool) (p : List S77) (w : World) (g : Nat) (vs vp : Value), k < 50 → 0 ≤ d → d + (n : Int) = 21 → WI 50 150 s p → Below w0.heap.size w0 w → WkAt w0 w g (.slice Ah ns.length ch) vs vp s p →
  Calls Try.prog 73 #[.pointer (some ⟨g, 0, none⟩), .int .i64 (k : Int), .int .i64 d] w fun e w' => e = .returned (.bool (walkW ns n k s p).1) ∧ Below w0.heap.size w0 w' ∧ KeptT w w' g ∧ ((walkW ns n k s p).1 = true → ∃ vs' vp' : Value, WkAt w0 w' g (.slice Ah ns.length ch) vs' vp' (walkW ns n k s p).2.1 (walkW ns n k s p).2.2) := by
 have hu := Try.underlying75;have hu2 := Try.underlying101;have hu3 := Try.underlying25;intro n
 induction n with
 | zero =>
  intro k d s p w g vs vp hk hd0 hd hI hB hW;have HB := z_ hB;have c1 : decide (20 < d) = true := decide_eq_true zbV;clear hI hB hW hd hd0 hh hbd
  go_enter Try.func73, Try.ntmps73
  go_wp2_with fail
  go_ret
  exact ⟨rfl, HB.o, KeptT.refl _ _, fun h => by cases h⟩
 | succ n ih =>
  intro k d s p w g vs vp hk hd0 hd hI hB hW;obtain ⟨hg, hb, hs, hp⟩ := hW;have c1 : decide (20 < d) = false := decide_eq_false zbV;have hlen := hI.len;obtain ⟨gs, cs, rfl, hgs, _, scells, hsc⟩ := Kd.qcJ hs zbV;obtain ⟨hx0, hx1⟩ := Kd.qcM false hs (k : Int) zbV zbV;rw [Int.toNat_natCast] at hx0 hx1;obtain ⟨d0, d1, d2, _⟩ := cells3 hb;have p1 : 0 ≤ (k : Int) := zbV;have q1 : (k : Int) < (s.length : Int) := zbV;have q2 : (k : Int) < (ns.length : Int) := zbV
  cases hsk : rdOf false s (k : Int) with
  | true =>
   rw [hsk] at hx0;have hgd : walkW ns (n + 1) (k : Int) s p = (false, s, p) := by
    unfold walkW;rw [if_neg (fun h => by have := h.2.2.1; rw [hsk] at this; cases this)]
   rw [hgd];have HB := z_ hB;clear hI hB hs hp hb hsc hgs hh ih hd hd0 hgd hsk hlen d0 d2 hl
   go_enter Try.func73, Try.ntmps73
   go_wp2_with fail
   go_ret
   exact ⟨rfl, HB.o, KeptT.refl _ _, fun h => by cases h⟩
  | false =>
   rw [hsk] at hx0;obtain ⟨W1, hW1⟩ : ∃ W1, W1 = w.setCell ⟨gs, k, none⟩ (.bool true) := ⟨_, rfl⟩
   have hB1 : Below w0.heap.size w0 W1 := hW1 ▸ hB.setCell (p := ⟨gs, k, none⟩) hgs _;have hb1 : W1.heap[g]? = some (.cells #[.slice Ah ns.length ch, .slice (some ⟨gs, 0, none⟩) s.length cs, vp] 101 (0, 0)) := hW1 ▸ qbF hb (qgR hb hsc zbT) _;have hs1 : Kd.R Kd.bool 4 W1 w0.heap.size (fun _ => True) (.slice (some ⟨gs, 0, none⟩) s.length cs) (s.set k true) := hW1 ▸ Kd.qif hs (k : Int) true;have hp1 : Kd.R k77 77 W1 w0.heap.size (fun _ => True) vp p := hW1 ▸ Kd.qgT hp hsc (qfH zbT) _ _;have hK1 : KeptT w W1 g := fun kk cells t h1 _ h2 _ => hW1 ▸ qbF h1 (qgR h1 hsc (Ne.symm h2)) _
   obtain ⟨adh, B1, b1, B2, b2, B3, b3, e1, n0, n1, n2, n3, l1, C1, l2, C2, l3, C3⟩ := qfz hh (k : Int) p1 q2
   cases e1
   obtain ⟨x, hx⟩ : ∃ x, x = qaH ns (k : Int) := ⟨_, rfl⟩
   rw [← hx] at n0 n1 n2 n3 l1 C1 l2 C2 l3 C3;rw [Int.toNat_natCast] at n0 n1 n2 n3;replace n0 := (hB1.cell (World.block_lt_of_cell? w0 _ n0)).trans n0;replace n1 := (hB1.cell (World.block_lt_of_cell? w0 _ n1)).trans n1;replace n2 := (hB1.cell (World.block_lt_of_cell? w0 _ n2)).trans n2;replace n3 := (hB1.cell (World.block_lt_of_cell? w0 _ n3)).trans n3;obtain ⟨OP, dd1, XP, _⟩ := cells3 hb1;have hmax : x.f3.length < 9223372036854775807 := by have := qhh hbd q2 p1; rw [← hx] at this; omega
   obtain ⟨ko, hko⟩ := Ev.rounds (qhW x.f0 x.f1 x.f2 x.f3 hmax);have hfo := qhg x.f0 x.f1 x.f2 x.f3;have HKO := z_ (show qaB.f ko x.f0 x.f1 x.f2 x.f3 = some (nbN x) from hko);have HFO := z_ (show qbr.f x.f0 x.f1 x.f2 x.f3 = some (fbN x) from hfo);obtain ⟨W2, hW2⟩ : ∃ W2, W2 = W1.alloc (.cells #[.bool x.f0, .slice B1 x.f1.length b1, .slice B2 x.f2.length b2, .slice B3 x.f3.length b3] 75 (0, 0)) := ⟨_, rfl⟩
   have hsz : g < W1.heap.size := qbH hb1;have hB2 : Below w0.heap.size w0 W2 := hW2 ▸ qas hB1 _;have hWK : WkAt w0 W2 g (.slice (some adh) ns.length ch) (.slice (some ⟨gs, 0, none⟩) s.length cs) vp (s.set k true) p := hW2 ▸ ⟨hg, qah hb1 _, Kd.qaV hs1 _, Kd.qaV hp1 _⟩;have hK2 : KeptT w W2 g := fun kk cells t h1 h2 h3 h4 => hW2 ▸ qah (hK1 kk cells t h1 h2 h3 h4) _
   have hN2 : W2.heap[W1.heap.size]? = some (.cells #[.bool x.f0, .slice B1 x.f1.length b1, .slice B2 x.f2.length b2, .slice B3 x.f3.length b3] 75 (0, 0)) := hW2 ▸ qcb W1 _;have HI := z_ hI;have HB := z_ hB2;have HW := z_ hWK;have HK := z_ hK2;have HN := z_ hN2;have HX := z_ hx;have HLL := z_ hlen;have eG := z_ (And.intro l1 C1);have kO := z_ (And.intro l2 C2);have zK := z_ (And.intro l3 C3);have HH := z_ hh;have HIH := z_ ih;have HD := z_ (And.intro hd hd0);have HG := z_ hsz;have HSK := z_ hsk;have HL := z_ hl;have HBD := z_ hbd;clear hI hB hs hp hb hsc hgs hh ih hd hd0 hsk hlen hl hbd hB1 hb1 hs1 hp1 hK1 hx C1 C2 C3 l1 l2 l3 hg hko hfo hB2 hWK hK2 hN2 hsz hmax
   go_enter Try.func73, Try.ntmps73
   go_upto_region 4 with fail
   rw [← hW1];clear hW1 d0 d1 d2 hx0 hx1
   go_upto_region 5 with fail
   rw [← hW2];clear hW2 n0 n1 n2 n3 OP dd1 XP;obtain ⟨m0, m1, m2, m3⟩ := qbz HN.o
   go_wp2_with fail
   refine (qaB.calls (M7 := Kd.qaO eG.o.2 HB.o) (J7 := eG.o.1) (P7 := Kd.qaO kO.o.2 HB.o) (d8 := kO.o.1) (b8 := Kd.qaO zK.o.2 HB.o) (S7 := zK.o.1) (h := HKO.o)).mono ?_;rintro e W3 ⟨rfl, hb3⟩;have HB3 := z_ (qad HB.o hb3);have HW3 := z_ (HW.o.below hb3);have oB := z_ (HK.o.below hb3);have oO := z_ (qap HN.o hb3);clear hb3 m0 m1 m2 m3 HB HW HK HN;obtain ⟨m0, m1, m2, m3⟩ := qbz oO.o
   cases hnb : nbN x with
   | false =>
    have hgd : walkW ns (n + 1) (k : Int) s p = (false, s, p) := by
     unfold walkW;rw [if_neg (fun h => by have := h.2.2.2.1; rw [← HX.o, hnb] at this; cases this)]
    have HGD := z_ hgd;clear hnb hgd
    go_wp2_with fail
    go_ret
    rw [HGD.o];exact ⟨rfl, HB3.o, oB.o, fun h => by cases h⟩
   | true =>
   go_wp2_with fail
   refine (qbr.calls (M7 := Kd.qaO eG.o.2 HB3.o) (J7 := eG.o.1) (P7 := Kd.qaO kO.o.2 HB3.o) (d8 := kO.o.1) (b8 := Kd.qaO zK.o.2 HB3.o) (S7 := zK.o.1) (h := HFO.o)).mono ?_;rintro e W4 ⟨rfl, hb4⟩;have cI := z_ (qad HB3.o hb4);have AG := z_ (HW3.o.below hb4);have lH := z_ (oB.o.below hb4);have Cd := z_ (qap oO.o hb4);clear hb4 m0 m1 m2 m3 HB3 HW3 oB oO;obtain ⟨m0, m1, m2, m3⟩ := qbz Cd.o;obtain ⟨OP, dd1, XP, XR⟩ := cells3 AG.o.2.1
   cases hfb : fbN x with
   | true =>
    have hgd : walkW ns (n + 1) (k : Int) s p = (false, s, p) := by
     unfold walkW;rw [if_neg (fun h => by have := h.2.2.2.2; rw [← HX.o, hfb] at this; cases this)]
    have HGD := z_ hgd;clear hfb hgd
    go_wp2_with fail
    go_ret
    rw [HGD.o];exact ⟨rfl, cI.o, lH.o, fun h => by cases h⟩
   | false =>
   have hgd : walkW ns (n + 1) (k : Int) s p = kidsW (walkW ns n) x.f3 x.f2 (s.set k true) (p ++ x.f1) := by
    unfold walkW;rw [if_pos (show goodW ns (k : Int) s from ⟨p1, q2, HSK.o, by rw [← HX.o]; exact hnb, by rw [← HX.o]; exact hfb⟩), ← HX.o, Int.toNat_natCast]
   cases hlf : x.f0 with
   | true =>
    obtain ⟨z3, z2, z1, z4, _⟩ := qc0 hnb hfb hlf;rw [z3, z2, show ∀ f s p, kidsW f [] [] s p = (true, s, p) from fun _ _ _ => rfl] at hgd;have HGD := z_ hgd;have HZ := z_ (And.intro z1 z4);have hroom := HI.o.room;have HRM := z_ (show p.length ≤ 150 from zbV);rw [hlf] at m0;obtain ⟨vpA, vpc, ev, _, _⟩ := Kd.qbI AG.o.2.2.2;subst ev;clear hnb hfb hgd z1 z2 z3 z4 hroom hlf;have hdr := qai AG.o.2.1;have hnr := qai Cd.o;have r2 : W4.drew.cell? ⟨g, 2, none⟩ = some (.slice vpA p.length vpc) := qac hdr 2;have k1 : W4.drew.cell? ⟨W1.heap.size, 1, none⟩ = some (.slice B1 x.f1.length b1) := qac hnr 1;have HDR := z_ hdr;have HNR := z_ hnr;clear hdr hnr OP dd1 XP XR m1 m2 m3
    go_upto_region 8 with fail
    clear m0
    go_region_law (refine Kd.qdt k77 (w0 := w0) w0.heap.size zbX (.tmp 49) (.tmp 51) 36 77 (.agg #[.string ⟨#[]⟩, .string ⟨#[]⟩]) 32 rfl Try.underlying36 qcK rfl zbT zbV (.slice vpA p.length vpc) p x.f1 _ _ _ (fun _ => True) (fun _ => False) rfl rfl ?aO ?aC (fun _ _ h => h) (fun _ h => h.elim) (fun _ _ => trivial) ?aB ?aS ?aL ?_; (case aO => exact Kd.qa6 AG.o.2.2.2); (case aC => exact Kd.qaO eG.o.2 (qaW cI.o)); (case aB => exact qaW cI.o); (case aS => exact cI.o.size); (case aL => have := HZ.o; have := HRM.o; omega); intro v1 w1 ho1 hb1 hg1 sH; obtain ⟨gc, cc, rfl, _⟩ := Kd.qcJ ho1 (by rw [List.length_append]; have := HZ.o; omega); have hbk := qbd HDR.o hg1 (Kd.R_ne (Kd.qa6 AG.o.2.2.2) HDR.o zbT); have y2 : w1.cell? ⟨g, 2, none⟩ = some (.slice vpA p.length vpc) := qac hbk 2; have y3 := qab hbk 2; have o4 := z_ hb1; have nc := z_ ho1; have pW := z_ hbk; have BK := z_ (Kd.R_over (Kd.qa6 AG.o.2.2.1) (Kd.qa6 AG.o.2.2.2) (qfG zbT) hg1); have dA := z_ (show KeptT w w1 g from fun kk cells t h1 h2 h3 h4 => qbd (qai (lH.o kk cells t h1 h2 h3 h4)) hg1 (Kd.R_ne (Kd.qa6 AG.o.2.2.2) (qai (lH.o kk cells t h1 h2 h3 h4)) h4)); clear ho1 hb1 hg1 sH hbk)
    all_goals
     go_wp2_with fail
     go_ret
     rw [HGD.o];refine ⟨rfl, o4.o.setCell (p := ⟨g, 2, none⟩) AG.o.1 _, fun kk cells t h1 h2 h3 h4 => qbF (dA.o kk cells t h1 h2 h3 h4) h2 _, fun _ => ⟨_, _, AG.o.1, qdg pW.o 2 _, Kd.qgT BK.o pW.o (qfG zbT) _ _, ?_⟩⟩;have hfin := Kd.qgT nc.o pW.o (qfH zbT) 2 (Value.slice (some ⟨gc, 0, none⟩) (p.length + x.f1.length) cc);rw [List.length_append] at hfin;exact hfin
   | false =>
    obtain ⟨z1, z2, z3, z4, z5⟩ := qcz hnb hfb hlf;rw [z1, List.append_nil] at hgd;rw [hlf] at m0;have HGD := z_ hgd;have HZ := z_ (And.intro z2 (And.intro z3 (And.intro z4 z5)));have HI4 := z_ (show WI 50 150 (s.set k true) p from by
     have hc := qfD (s := s) (i := k) (by have := HLL.o; omega) (by have := HSK.o; unfold rdOf at this; rw [Int.toNat_natCast] at this; exact this);exact ⟨by rw [List.length_set]; exact HLL.o, by have := HI.o.room; omega, HI.o.good⟩)
    have hz3 : x.f3.length ≤ 4 := z3;clear hnb hfb hgd z1 z2 z3 z4 z5 hlf OP dd1 XP XR
    go_upto_region 11 with fail
    go_loopw [58] (fun v58 wr => ∃ (i : Nat) (S : List Bool) (P : List S77) (vs vp : Value), i ≤ x.f3.length ∧ v58 = .int .i64 (i : Int) ∧ Aside0 (WI 50 150 S P) ∧ Aside0 (WkAt w0 wr g (.slice (some adh) ns.length ch) vs vp S P) ∧ Aside0 (Below w0.heap.size w0 wr) ∧ Aside0 (KeptT w wr g) ∧ Aside0 (wr.heap[W1.heap.size]? = some (.cells #[.bool x.f0, .slice B1 x.f1.length b1, .slice B2 x.f2.length b2, .slice B3 x.f3.length b3] 75 (0, 0))) ∧ Aside0 (kidsW (walkW ns n) (x.f3.drop i) (x.f2.drop i) S P = kidsW (walkW ns n) x.f3 x.f2 (s.set k true) p)) (fun v58 _ => x.f3.length - (intOf v58).toNat)
    case atStart => exact ⟨0, s.set k true, p, _, _, zbV, rfl, HI4, AG, cI, lH, Cd, ⟨rfl⟩⟩
    case round =>
     clear HI4 AG cI lH Cd m0 m1 m2 m3 HI HSK HFO HKO c1 hk;obtain ⟨i, S, P, vs, vp', hi, rfl, HIr, HWr, HBr, HKr, HNr, HEr⟩ := hrel
     by_cases hlt : i < x.f3.length
     ·have c5 : decide ((i : Int) < (x.f3.length : Int)) = true := decide_eq_true zbV;have i0 : 0 ≤ (i : Int) := zbV;have i1 : (i : Int) < (x.f3.length : Int) := zbV;have i2 : (i : Int) < (x.f2.length : Int) := by have := HZ.o.2.2.1; omega
      have hkid := HZ.o.2.2.2 i hlt;obtain ⟨kn, hkn⟩ : ∃ kn : Nat, rd x.f3 (i : Int) = (kn : Int) := ⟨(rd x.f3 (i : Int)).toNat, zbV⟩
      rw [hkn] at hkid;obtain ⟨IN, e3, k3⟩ := Kd.qbN zK.o.2 (i : Int) i0 i1
      cases e3
      rw [Int.toNat_natCast, hkn] at k3;obtain ⟨DG, e2, k2⟩ := Kd.qbA kO.o.2 (i : Int) i0 i2
      cases e2
      obtain ⟨m, hm⟩ : ∃ m, m = rdOf ByteArray.empty x.f2 (i : Int) := ⟨_, rfl⟩
      rw [Int.toNat_natCast, ← hm] at k2;have hd3 : x.f3.drop i = (kn : Int) :: x.f3.drop (i + 1) := by
       rw [List.drop_eq_getElem_cons hlt, ← hkn];unfold rd;simp [List.getD_eq_getElem?_getD, hlt]
      have hlt2 : i < x.f2.length := zbV;have hd2 : x.f2.drop i = m :: x.f2.drop (i + 1) := by
       rw [List.drop_eq_getElem_cons hlt2, hm];unfold rdOf;simp [List.getD_eq_getElem?_getD, hlt2]
      have K3 := z_ k3;have K2 := z_ k2;replace k3 := (HBr.o.cell (World.block_lt_of_cell? w0 _ k3)).trans k3;obtain ⟨vA, vc, ev, _, _⟩ := Kd.qbI HWr.o.2.2.2;subst ev;obtain ⟨OP, dd1, XP, XR⟩ := cells3 HWr.o.2.1;have hroom := HIr.o.room;have hpl : P.length ≤ 150 := zbV;have hw1 : IntKind.i64.wrap (d + 1) = d + 1 := by have := HD.o; rw [IntKind.wrap_i64]; omega
      have HWR := z_ hw1;obtain ⟨rb, S2, P2, hres⟩ : ∃ rb S2 P2, walkW ns n (kn : Int) S P = (rb, S2, P2) := ⟨_, _, _, rfl⟩
      have hE := HEr.o;rw [hd3, hd2, qdA, hres] at hE;have hinv := (qfE (M := 150) ns HL.o n (kn : Int) S P HIr.o).1;rw [hres] at hinv;have HI2 := z_ hinv;have hih := HIH.o kn (d + 1) S P wr.drew g vs _ zbV (by have := HD.o; omega) (by have := HD.o; omega) HIr.o (qaW HBr.o) (HWr.o.below (qaW (Below.refl _ _)));rw [hres] at hih;have HKD := z_ (KeptT.below HKr.o (qaW (Below.refl _ wr)));have HND := z_ (qai HNr.o);have hgn : W1.heap.size ≠ g := by have := HG.o; omega
      have HGN := z_ hgn
      cases rb with
      | false =>
       rw [if_neg (fun h => by cases h.1)] at hE;have HF := z_ (show (walkW ns (n + 1) (k : Int) s p).1 = false from by rw [HGD.o, ← hE]);have CC := z_ hih;clear hE hih hinv hres hd3 hd2 hkn hm hroom hgn hlt2 hkid k2 HI2
       go_upto_region 14 with fail
       clear k3 OP dd1 XP XR;refine qbY (n := 22) (S := fun w' => True) (ds := []) #[false, false, false, false, false, false, false, false, false, false, false, false, false, false, false, false, false, false, false, false, false, false] zbS rfl rfl trivial (fun hHeld => ?_);refine qbg walkI.tab14 walkI.bits14 (fun l4 R6 => ?_);generalize wr.drew = wd at CC HKD HND ⊢;refine qcd [0, 1, 2, 3, 4, 5, 6, 7, 8, 9, 10, 11, 12, 13, 14, 15, 16, 17, 18, 19, 20, 21] (fun E8 b a w' => a = qa7 E8 b [(0, 68, .pointer (some ⟨g, 0, none⟩)), (1, 69, .int .i64 (kn : Int)), (2, 70, .int .i64 d), (3, 71, .int .i64 (d + 1)), (4, 72, .bool false), (5, 73, .bool true), (6, 74, .bool true), (7, 75, undef), (8, 76, undef), (9, 77, undef), (10, 78, undef), (11, 79, undef), (12, 80, undef), (13, 81, undef), (14, 82, undef), (15, 83, undef), (16, 84, undef), (17, 85, undef), (18, 86, undef), (19, 87, undef), (20, 88, undef), (21, 89, .bool true)] ∧ (b 4 = false → Calls Try.prog 73 #[.pointer (some ⟨g, 0, none⟩), .int .i64 (kn : Int), .int .i64 (d + 1)] w' (WkPost w0 (.slice (some adh) ns.length ch) g wd (false, S2, P2))) ∧ (b 4 = true → Below w0.heap.size w0 w') ∧ (b 4 = true → KeptT wd w' g)) l4.o R6.o zbS zbS ?_ ?_ ?_
       ·exact ⟨zaO, fun _ => CC.o, fun h_ => absurd h_ zbT, fun h_ => absurd h_ zbT⟩
       ·skip;clear CC;refine qaa ?_ ?_
        ·rintro b a w' ⟨ha, QT⟩ hb_ hon hoff;refine ⟨_, rfl, fun K hK => ?_⟩;have e0 : a.tmps[0]? = some (.pointer (some ⟨g, 0, none⟩)) := zbu;replace ha := z_ ha;refine qae (w1 := w') (v := .pointer (some ⟨g, 0, none⟩)) zbX rfl zbt ?_;refine hK.o _ _ ⟨zbg, QT⟩
        refine qaa ?_ ?_
        ·rintro b a w' ⟨ha, QT⟩ hb_ hon hoff;refine ⟨_, rfl, fun K hK => ?_⟩;have e9 : a.tmps[9]? = some (.int .i64 (kn : Int)) := zbu;replace ha := z_ ha;refine qae (w1 := w') (v := .int .i64 (kn : Int)) zbX rfl zbt ?_;refine hK.o _ _ ⟨zbh, QT⟩
        refine qaa ?_ ?_
        ·rintro b a w' ⟨ha, QT⟩ hb_ hon hoff;refine ⟨_, rfl, fun K hK => ?_⟩;have e2 : a.tmps[2]? = some (.int .i64 d) := zbu;replace ha := z_ ha;refine qae (w1 := w') (v := .int .i64 d) zbX rfl zbt ?_;refine hK.o _ _ ⟨zbi, QT⟩
        refine qaa ?_ ?_
        ·rintro b a w' ⟨ha, QT⟩ hb_ hon hoff;refine ⟨_, rfl, fun K hK => ?_⟩;have ZX : a.tmps[70]? = some (.int .i64 d) := zon_ ha 2 rfl rfl hon;replace ha := z_ ha;have EH := HWR.o;refine qae (w1 := w') (v := .int .i64 (d + 1)) zbX rfl zbt ?_;refine hK.o _ _ ⟨zbj, QT⟩
        refine qaa ?_ ?_
        ·rintro b a w' ⟨ha, s9, D0, Q0⟩ hb_ hon hoff;refine ⟨_, rfl, fun K hK => ?_⟩;have rQ : a.tmps[68]? = some (.pointer (some ⟨g, 0, none⟩)) := zon_ ha 0 rfl rfl hon;have fR : a.tmps[69]? = some (.int .i64 (kn : Int)) := zon_ ha 1 rfl rfl hon;have RC : a.tmps[71]? = some (.int .i64 (d + 1)) := zon_ ha 3 rfl rfl hon;replace ha := z_ ha;have CC := z_ (s9 hb_);refine qdr Try.func73 zbS rfl #[.pointer (some ⟨g, 0, none⟩), .int .i64 (kn : Int), .int .i64 (d + 1)] zbX rfl rfl (by first | (simp only [List.map_toArray, List.map_cons, List.map_nil, Act.eval, Array.getD_eq_getD_getElem?, Option.getD_some, rQ, fR, RC]; done) | (simp only [List.map_toArray, List.map_cons, List.map_nil, Act.eval, Array.getD_eq_getD_getElem?, Option.getD_some, rQ, fR, RC]; rfl)) ?_;refine CC.o.mono ?_;rintro e_ w1 ⟨rfl, hb1, hk1, hst⟩;refine ⟨_, rfl, ?_⟩;refine hK.o _ _ ⟨zbk, fun N7 => absurd ((qa5 b 4).symm.trans N7) zbT, fun _ => hb1, fun _ => hk1⟩
        refine qaa ?_ ?_
        ·rintro b a w' ⟨ha, QT⟩ hb_ hon hoff;refine ⟨_, rfl, fun K hK => ?_⟩;have e72 : a.tmps[72]? = some (.bool false) := zon_ ha 4 rfl rfl hon;replace ha := z_ ha;refine qae (w1 := w') (v := .bool true) zbX rfl zbt ?_;refine hK.o _ _ ⟨zbl, QT⟩
        refine qaa ?_ ?_
        ·rintro b a w' ⟨ha, QT⟩ hb_ hon hoff;refine ⟨_, rfl, fun K hK => ?_⟩;have e73 : a.tmps[73]? = some (.bool true) := zon_ ha 5 rfl rfl hon;replace ha := z_ ha;refine qae (w1 := w') (v := .bool true) zbX rfl zbt ?_;refine hK.o _ _ ⟨zbm, QT⟩
        refine qaa ?_ ?_
        ·rintro b a w' ⟨ha, s9, D0, Q0⟩ hb_ hon hoff;refine ⟨_, rfl, fun K hK => ?_⟩;have k8 : a.tmps[74]? = some (.bool true) := zon_ ha 6 rfl rfl hon;replace ha := z_ ha;refine off_ (qaL rfl rfl rfl (k8.trans zbC)) ?_;refine hK.o _ _ ⟨zbn, nt_ (hon 4 zbS), D0, Q0⟩
        refine qaa ?_ ?_
        ·rintro b a w' ⟨ha, s9, D0, Q0⟩ hb_ hon hoff;refine ⟨_, rfl, fun K hK => ?_⟩;have k8 : a.tmps[74]? = some (.bool true) := zon_ ha 6 rfl rfl hon;replace ha := z_ ha;refine off_ (qaL rfl rfl rfl (k8.trans zbC)) ?_;refine hK.o _ _ ⟨zbo, nt_ (hon 4 zbS), D0, Q0⟩
        refine qaa ?_ ?_
        ·rintro b a w' ⟨ha, s9, D0, Q0⟩ hb_ hon hoff;refine ⟨_, rfl, fun K hK => ?_⟩;have k8 : a.tmps[74]? = some (.bool true) := zon_ ha 6 rfl rfl hon;replace ha := z_ ha;refine off_ (qaL rfl rfl rfl (k8.trans zbC)) ?_;refine hK.o _ _ ⟨zbp, nt_ (hon 4 zbS), D0, Q0⟩
        refine qaa ?_ ?_
        ·rintro b a w' ⟨ha, s9, D0, Q0⟩ hb_ hon hoff;refine ⟨_, rfl, fun K hK => ?_⟩;have k8 : a.tmps[74]? = some (.bool true) := zon_ ha 6 rfl rfl hon;replace ha := z_ ha;refine off_ (qaL rfl rfl rfl (k8.trans zbC)) ?_;refine hK.o _ _ ⟨zaP, nt_ (hon 4 zbS), D0, Q0⟩
        refine qaa ?_ ?_
        ·rintro b a w' ⟨ha, s9, D0, Q0⟩ hb_ hon hoff;refine ⟨_, rfl, fun K hK => ?_⟩;have k8 : a.tmps[74]? = some (.bool true) := zon_ ha 6 rfl rfl hon;replace ha := z_ ha;refine off_ (qaL rfl rfl rfl (k8.trans zbC)) ?_;refine hK.o _ _ ⟨zaQ, nt_ (hon 4 zbS), D0, Q0⟩
        refine qaa ?_ ?_
        ·rintro b a w' ⟨ha, s9, D0, Q0⟩ hb_ hon hoff;refine ⟨_, rfl, fun K hK => ?_⟩;have k8 : a.tmps[74]? = some (.bool true) := zon_ ha 6 rfl rfl hon;replace ha := z_ ha;refine off_ (qaL rfl rfl rfl (k8.trans zbC)) ?_;refine hK.o _ _ ⟨zaR, nt_ (hon 4 zbS), D0, Q0⟩
        refine qaa ?_ ?_
        ·rintro b a w' ⟨ha, s9, D0, Q0⟩ hb_ hon hoff;refine ⟨_, rfl, fun K hK => ?_⟩;have k8 : a.tmps[74]? = some (.bool true) := zon_ ha 6 rfl rfl hon;replace ha := z_ ha;refine off_ (qaL rfl rfl rfl (k8.trans zbC)) ?_;refine hK.o _ _ ⟨zaS, nt_ (hon 4 zbS), D0, Q0⟩
        refine qaa ?_ ?_
        ·rintro b a w' ⟨ha, s9, D0, Q0⟩ hb_ hon hoff;refine ⟨_, rfl, fun K hK => ?_⟩;have k8 : a.tmps[74]? = some (.bool true) := zon_ ha 6 rfl rfl hon;replace ha := z_ ha;refine off_ (qaL rfl rfl rfl (k8.trans zbC)) ?_;refine hK.o _ _ ⟨zaT, nt_ (hon 4 zbS), D0, Q0⟩
        refine qaa ?_ ?_
        ·rintro b a w' ⟨ha, s9, D0, Q0⟩ hb_ hon hoff;refine ⟨_, rfl, fun K hK => ?_⟩;have k8 : a.tmps[74]? = some (.bool true) := zon_ ha 6 rfl rfl hon;replace ha := z_ ha;refine off_ (qaL rfl rfl rfl (k8.trans zbC)) ?_;refine hK.o _ _ ⟨zaU, nt_ (hon 4 zbS), D0, Q0⟩
        refine qaa ?_ ?_
        ·rintro b a w' ⟨ha, s9, D0, Q0⟩ hb_ hon hoff;refine ⟨_, rfl, fun K hK => ?_⟩;have k8 : a.tmps[74]? = some (.bool true) := zon_ ha 6 rfl rfl hon;replace ha := z_ ha;refine off_ (qaL rfl rfl rfl (k8.trans zbC)) ?_;refine hK.o _ _ ⟨zaV, nt_ (hon 4 zbS), D0, Q0⟩
        refine qaa ?_ ?_
        ·rintro b a w' ⟨ha, s9, D0, Q0⟩ hb_ hon hoff;refine ⟨_, rfl, fun K hK => ?_⟩;have k8 : a.tmps[74]? = some (.bool true) := zon_ ha 6 rfl rfl hon;replace ha := z_ ha;refine off_ (qaL rfl rfl rfl (k8.trans zbC)) ?_;refine hK.o _ _ ⟨zaW, nt_ (hon 4 zbS), D0, Q0⟩
        refine qaa ?_ ?_
        ·rintro b a w' ⟨ha, s9, D0, Q0⟩ hb_ hon hoff;refine ⟨_, rfl, fun K hK => ?_⟩;have k8 : a.tmps[74]? = some (.bool true) := zon_ ha 6 rfl rfl hon;replace ha := z_ ha;refine off_ (qaL rfl rfl rfl (k8.trans zbC)) ?_;refine hK.o _ _ ⟨zaX, nt_ (hon 4 zbS), D0, Q0⟩
        refine qaa ?_ ?_
        ·rintro b a w' ⟨ha, s9, D0, Q0⟩ hb_ hon hoff;refine ⟨_, rfl, fun K hK => ?_⟩;have k8 : a.tmps[74]? = some (.bool true) := zon_ ha 6 rfl rfl hon;replace ha := z_ ha;refine off_ (qaL rfl rfl rfl (k8.trans zbC)) ?_;refine hK.o _ _ ⟨zaY, nt_ (hon 4 zbS), D0, Q0⟩
        refine qaa ?_ ?_
        ·rintro b a w' ⟨ha, s9, D0, Q0⟩ hb_ hon hoff;refine ⟨_, rfl, fun K hK => ?_⟩;have k8 : a.tmps[74]? = some (.bool true) := zon_ ha 6 rfl rfl hon;replace ha := z_ ha;refine off_ (qaL rfl rfl rfl (k8.trans zbC)) ?_;refine hK.o _ _ ⟨zaZ, nt_ (hon 4 zbS), D0, Q0⟩
        refine qaa ?_ ?_
        ·rintro b a w' ⟨ha, QT⟩ hb_ hon hoff;refine ⟨_, rfl, fun K hK => ?_⟩;have k8 : a.tmps[74]? = some (.bool true) := zon_ ha 6 rfl rfl hon;have If : a.tmps[88]? = some (undef) := zon_ ha 20 rfl rfl hon;replace ha := z_ ha;refine qae (w1 := w') (v := .bool true) zbX rfl zbt ?_;refine hK.o _ _ ⟨zba, QT⟩
        exact qbo
       rintro b a w' hall ⟨ha, s9, D0, Q0⟩;clear CC;have X2 := hall 0 zbS;have X1 := hall 1 zbS;have N2 := hall 2 zbS;have M2 := hall 3 zbS;have I2 := hall 4 zbS;have D3 := hall 5 zbS;have j3 := hall 6 zbS;have i3 := hall 7 zbS;have U2 := hall 8 zbS;have Y2 := hall 9 zbS;have D2 := hall 10 zbS;have Q2 := hall 11 zbS;have F2 := hall 12 zbS;have j4 := hall 13 zbS;have D4 := hall 14 zbS;have n6 := hall 15 zbS;have q6 := hall 16 zbS;have m6 := hall 17 zbS;have s6 := hall 18 zbS;have r6 := hall 19 zbS;have j6 := hall 20 zbS;have o6 := hall 21 zbS;subst ha;simp only [qa7, X2, X1, N2, M2, I2, D3, j3, i3, U2, Y2, D2, Q2, F2, j4, D4, n6, q6, m6, s6, r6, j6, o6, if_true, Act.put, List.setIfInBounds_toArray, List.set_cons_zero, List.set_cons_succ];clear s9;have o4 := z_ (D0 I2);clear D0;have dA := z_ (Q0 I2);clear Q0 hall X2 X1 N2 M2 I2 D3 j3 i3 U2 Y2 D2 Q2 F2 j4 D4 n6 q6 m6 s6 r6 j6 o6
       go_wp2_with fail
       go_ret
       rw [HF.o];exact ⟨rfl, o4.o, HKD.o.trans dA.o, fun h => by cases h⟩
      | true =>
       have hmore := qgf ns n (kn : Int) S P (by rw [hres]);rw [hres] at hmore;have HMO := z_ (show P.length < P2.length from hmore);obtain ⟨ky, hky⟩ : ∃ ky, ky = qcR P2 P.length := ⟨_, rfl⟩
       have HKY := z_ hky.symm;have CC := z_ hih;have fV := z_ (And.intro i0 i2);obtain ⟨be, hbe⟩ : ∃ be, (ky.toList == m.toList) = be := ⟨_, rfl⟩
       have HEQ := z_ hbe;have HE := z_ hE;clear hE hih hinv hres hd3 hd2 hkn hm hroom hgn hlt2 hkid k2 hmore hky hbe
       go_upto_region 14 with fail
       clear k3 OP dd1 XP XR;refine qbY (n := 22) (S := fun w' => True) (ds := []) #[false, false, false, false, false, false, false, false, false, false, false, false, false, false, false, false, false, false, false, false, false, false] zbS rfl rfl trivial (fun hHeld => ?_);refine qbg walkI.tab14 walkI.bits14 (fun l4 R6 => ?_);generalize wr.drew = wd at CC HKD HND ⊢;refine qcd [0, 1, 2, 3, 4, 5, 6, 7, 8, 9, 10, 11, 12, 13, 14, 15, 16, 17, 18, 19, 20, 21] (fun E8 b a w' => ∃ (vs2 : Value) (gp : Nat) (cp : Nat) (M0 : Value) (G0 : Value) (D5 : Value), a = qa7 E8 b [(0, 68, .pointer (some ⟨g, 0, none⟩)), (1, 69, .int .i64 (kn : Int)), (2, 70, .int .i64 d), (3, 71, .int .i64 (d + 1)), (4, 72, .bool true), (5, 73, .bool false), (6, 74, .bool false), (7, 75, .pointer (some ⟨g, 0, none⟩)), (8, 76, .pointer (some ⟨g, 0, none⟩)), (9, 77, .pointer (some ⟨g, 2, none⟩)), (10, 78, M0), (11, 79, .int .i64 (P.length : Int)), (12, 80, G0), (13, 81, D5), (14, 82, .string ky), (15, 83, .pointer (some ⟨W1.heap.size, 2, none⟩)), (16, 84, .slice (some DG) x.f2.length b2), (17, 85, .int .i64 (i : Int)), (18, 86, .pointer (some (DG.add i))), (19, 87, .string m), (20, 88, .bool (!be)), (21, 89, .bool (!be))] ∧ (b 4 = false → Calls Try.prog 73 #[.pointer (some ⟨g, 0, none⟩), .int .i64 (kn : Int), .int .i64 (d + 1)] w' (WkPost w0 (.slice (some adh) ns.length ch) g wd (true, S2, P2))) ∧ (b 4 = true → Below w0.heap.size w0 w') ∧ (b 4 = true → KeptT wd w' g) ∧ (b 4 = true → WkAt w0 w' g (.slice (some adh) ns.length ch) vs2 (.slice (some ⟨gp, 0, none⟩) P2.length cp) S2 P2) ∧ (b 10 = true → (M0 : Value) = .slice (some ⟨gp, 0, none⟩) P2.length cp) ∧ (b 12 = true → (G0 : Value) = .pointer (some ⟨gp, P.length * 2, none⟩)) ∧ (b 13 = true → (D5 : Value) = .pointer (some ⟨gp, P.length * 2, none⟩))) l4.o R6.o zbS zbS ?_ ?_ ?_
       ·exact ⟨.bool false, 0, 0, .bool false, .bool false, .bool false, zaO, fun _ => CC.o, fun h_ => absurd h_ zbT, fun h_ => absurd h_ zbT, fun h_ => absurd h_ zbT, fun h_ => absurd h_ zbT, fun h_ => absurd h_ zbT, fun h_ => absurd h_ zbT⟩
       ·skip;clear CC;refine qaa ?_ ?_
        ·rintro b a w' ⟨vs2, gp, cp, M0, G0, D5, ha, QT⟩ hb_ hon hoff;refine ⟨_, rfl, fun K hK => ?_⟩;have e0 : a.tmps[0]? = some (.pointer (some ⟨g, 0, none⟩)) := zbu;replace ha := z_ ha;refine qae (w1 := w') (v := .pointer (some ⟨g, 0, none⟩)) zbX rfl zbt ?_;refine hK.o _ _ ⟨vs2, gp, cp, M0, G0, D5, zbg, QT⟩
        refine qaa ?_ ?_
        ·rintro b a w' ⟨vs2, gp, cp, M0, G0, D5, ha, QT⟩ hb_ hon hoff;refine ⟨_, rfl, fun K hK => ?_⟩;have e9 : a.tmps[9]? = some (.int .i64 (kn : Int)) := zbu;replace ha := z_ ha;refine qae (w1 := w') (v := .int .i64 (kn : Int)) zbX rfl zbt ?_;refine hK.o _ _ ⟨vs2, gp, cp, M0, G0, D5, zbh, QT⟩
        refine qaa ?_ ?_
        ·rintro b a w' ⟨vs2, gp, cp, M0, G0, D5, ha, QT⟩ hb_ hon hoff;refine ⟨_, rfl, fun K hK => ?_⟩;have e2 : a.tmps[2]? = some (.int .i64 d) := zbu;replace ha := z_ ha;refine qae (w1 := w') (v := .int .i64 d) zbX rfl zbt ?_;refine hK.o _ _ ⟨vs2, gp, cp, M0, G0, D5, zbi, QT⟩
        refine qaa ?_ ?_
        ·rintro b a w' ⟨vs2, gp, cp, M0, G0, D5, ha, QT⟩ hb_ hon hoff;refine ⟨_, rfl, fun K hK => ?_⟩;have ZX : a.tmps[70]? = some (.int .i64 d) := zon_ ha 2 rfl rfl hon;replace ha := z_ ha;have EH := HWR.o;refine qae (w1 := w') (v := .int .i64 (d + 1)) zbX rfl zbt ?_;refine hK.o _ _ ⟨vs2, gp, cp, M0, G0, D5, zbj, QT⟩
        refine qaa ?_ ?_
        ·rintro b a w' ⟨vs2, gp, cp, M0, G0, D5, ha, s9, D0, Q0, QC, U1, T0, cH⟩ hb_ hon hoff;refine ⟨_, rfl, fun K hK => ?_⟩;have rQ : a.tmps[68]? = some (.pointer (some ⟨g, 0, none⟩)) := zon_ ha 0 rfl rfl hon;have fR : a.tmps[69]? = some (.int .i64 (kn : Int)) := zon_ ha 1 rfl rfl hon;have RC : a.tmps[71]? = some (.int .i64 (d + 1)) := zon_ ha 3 rfl rfl hon;replace ha := z_ ha;have CC := z_ (s9 hb_);refine qdr Try.func73 zbS rfl #[.pointer (some ⟨g, 0, none⟩), .int .i64 (kn : Int), .int .i64 (d + 1)] zbX rfl rfl (by first | (simp only [List.map_toArray, List.map_cons, List.map_nil, Act.eval, Array.getD_eq_getD_getElem?, Option.getD_some, rQ, fR, RC]; done) | (simp only [List.map_toArray, List.map_cons, List.map_nil, Act.eval, Array.getD_eq_getD_getElem?, Option.getD_some, rQ, fR, RC]; rfl)) ?_;refine CC.o.mono ?_;rintro e_ w1 ⟨rfl, hb1, hk1, hst⟩;obtain ⟨Me, vp2_, hw2⟩ := hst rfl;obtain ⟨gp_, cp_, DK, _⟩ := Kd.qcJ hw2.2.2.2 (by have := HMO.o; show 0 < P2.length; omega);subst DK;refine ⟨_, rfl, ?_⟩;refine hK.o _ _ ⟨Me, gp_, cp_, M0, G0, D5, zbk, fun N7 => absurd ((qa5 b 4).symm.trans N7) zbT, fun _ => hb1, fun _ => hk1, fun _ => hw2, nf_ (hoff 10 zbS), nf_ (hoff 12 zbS), nf_ (hoff 13 zbS)⟩
        refine qaa ?_ ?_
        ·rintro b a w' ⟨vs2, gp, cp, M0, G0, D5, ha, QT⟩ hb_ hon hoff;refine ⟨_, rfl, fun K hK => ?_⟩;have e72 : a.tmps[72]? = some (.bool true) := zon_ ha 4 rfl rfl hon;replace ha := z_ ha;refine qae (w1 := w') (v := .bool false) zbX rfl zbt ?_;refine hK.o _ _ ⟨vs2, gp, cp, M0, G0, D5, zbl, QT⟩
        refine qaa ?_ ?_
        ·rintro b a w' ⟨vs2, gp, cp, M0, G0, D5, ha, QT⟩ hb_ hon hoff;refine ⟨_, rfl, fun K hK => ?_⟩;have e73 : a.tmps[73]? = some (.bool false) := zon_ ha 5 rfl rfl hon;replace ha := z_ ha;refine qae (w1 := w') (v := .bool false) zbX rfl zbt ?_;refine hK.o _ _ ⟨vs2, gp, cp, M0, G0, D5, zbm, QT⟩
        refine qaa ?_ ?_
        ·rintro b a w' ⟨vs2, gp, cp, M0, G0, D5, ha, QT⟩ hb_ hon hoff;refine ⟨_, rfl, fun K hK => ?_⟩;have e0 : a.tmps[0]? = some (.pointer (some ⟨g, 0, none⟩)) := zbu;have k8 : a.tmps[74]? = some (.bool false) := zon_ ha 6 rfl rfl hon;replace ha := z_ ha;refine qae (w1 := w') (v := .pointer (some ⟨g, 0, none⟩)) (qaR rfl rfl rfl (k8.trans zbC)) rfl zbt ?_;refine hK.o _ _ ⟨vs2, gp, cp, M0, G0, D5, zbn, QT⟩
        refine qaa ?_ ?_
        ·rintro b a w' ⟨vs2, gp, cp, M0, G0, D5, ha, QT⟩ hb_ hon hoff;refine ⟨_, rfl, fun K hK => ?_⟩;have e75 : a.tmps[75]? = some (.pointer (some ⟨g, 0, none⟩)) := zon_ ha 7 rfl rfl hon;have k8 : a.tmps[74]? = some (.bool false) := zon_ ha 6 rfl rfl hon;replace ha := z_ ha;refine qae (w1 := w') (v := .pointer (some ⟨g, 0, none⟩)) (qaR rfl rfl rfl (k8.trans zbC)) rfl zbt ?_;refine hK.o _ _ ⟨vs2, gp, cp, M0, G0, D5, zbo, QT⟩
        refine qaa ?_ ?_
        ·rintro b a w' ⟨vs2, gp, cp, M0, G0, D5, ha, QT⟩ hb_ hon hoff;refine ⟨_, rfl, fun K hK => ?_⟩;have e76 : a.tmps[76]? = some (.pointer (some ⟨g, 0, none⟩)) := zon_ ha 8 rfl rfl hon;have k8 : a.tmps[74]? = some (.bool false) := zon_ ha 6 rfl rfl hon;replace ha := z_ ha;refine qae (w1 := w') (v := .pointer (some ⟨g, 2, none⟩)) (qaR rfl rfl rfl (k8.trans zbC)) rfl zbt ?_;refine hK.o _ _ ⟨vs2, gp, cp, M0, G0, D5, zbp, QT⟩
        refine qaa ?_ ?_
        ·rintro b a w' ⟨vs2, gp, cp, M0, G0, D5, ha, s9, D0, Q0, QC, U1, T0, cH⟩ hb_ hon hoff;refine ⟨_, rfl, fun K hK => ?_⟩;have e77 : a.tmps[77]? = some (.pointer (some ⟨g, 2, none⟩)) := zon_ ha 9 rfl rfl hon;have k8 : a.tmps[74]? = some (.bool false) := zon_ ha 6 rfl rfl hon;replace ha := z_ ha;have cJ := z_ (QC (hon 4 zbS));have dG := (cells3 cJ.o.2.1).2.2.1;refine qae (w1 := w') (v := .slice (some ⟨gp, 0, none⟩) P2.length cp) (qaR rfl rfl rfl (k8.trans zbC)) rfl zbt ?_;refine hK.o _ _ ⟨vs2, gp, cp, (.slice (some ⟨gp, 0, none⟩) P2.length cp), G0, D5, zaP, nt_ (hon 4 zbS), D0, Q0, QC, fun _ => rfl, nf_ (hoff 12 zbS), nf_ (hoff 13 zbS)⟩
        refine qaa ?_ ?_
        ·rintro b a w' ⟨vs2, gp, cp, M0, G0, D5, ha, QT⟩ hb_ hon hoff;refine ⟨_, rfl, fun K hK => ?_⟩;have e10 : a.tmps[10]? = some (.int .i64 (P.length : Int)) := zbu;have k8 : a.tmps[74]? = some (.bool false) := zon_ ha 6 rfl rfl hon;replace ha := z_ ha;refine qae (w1 := w') (v := .int .i64 (P.length : Int)) (qaR rfl rfl rfl (k8.trans zbC)) rfl zbt ?_;refine hK.o _ _ ⟨vs2, gp, cp, M0, G0, D5, zaQ, QT⟩
        refine qaa ?_ ?_
        ·rintro b a w' ⟨vs2, gp, cp, M0, G0, D5, ha, s9, D0, Q0, QC, U1, T0, cH⟩ hb_ hon hoff;refine ⟨_, rfl, fun K hK => ?_⟩;have mg : a.tmps[78]? = some (M0) := zon_ ha 10 rfl rfl hon;rw [U1 (hon 10 zbS)] at mg;have e79 : a.tmps[79]? = some (.int .i64 (P.length : Int)) := zon_ ha 11 rfl rfl hon;have k8 : a.tmps[74]? = some (.bool false) := zon_ ha 6 rfl rfl hon;replace ha := z_ ha;have lW : (P.length : Int) < (P2.length : Int) := by have := HMO.o; omega
         have rX : 0 ≤ (P.length : Int) := zbV;refine qae (w1 := w') (v := .pointer (some ⟨gp, P.length * 2, none⟩)) (qaR rfl rfl rfl (k8.trans zbC)) rfl zbt ?_;refine hK.o _ _ ⟨vs2, gp, cp, M0, (.pointer (some ⟨gp, P.length * 2, none⟩)), D5, zaR, nt_ (hon 4 zbS), D0, Q0, QC, U1, fun _ => rfl, nf_ (hoff 13 zbS)⟩
        refine qaa ?_ ?_
        ·rintro b a w' ⟨vs2, gp, cp, M0, G0, D5, ha, s9, D0, Q0, QC, U1, T0, cH⟩ hb_ hon hoff;refine ⟨_, rfl, fun K hK => ?_⟩;have Ub : a.tmps[80]? = some (G0) := zon_ ha 12 rfl rfl hon;rw [T0 (hon 12 zbS)] at Ub;have k8 : a.tmps[74]? = some (.bool false) := zon_ ha 6 rfl rfl hon;replace ha := z_ ha;refine qae (w1 := w') (v := .pointer (some ⟨gp, P.length * 2, none⟩)) (qaR rfl rfl rfl (k8.trans zbC)) rfl zbt ?_;refine hK.o _ _ ⟨vs2, gp, cp, M0, G0, (.pointer (some ⟨gp, P.length * 2, none⟩)), zaS, nt_ (hon 4 zbS), D0, Q0, QC, U1, T0, fun _ => rfl⟩
        refine qaa ?_ ?_
        ·rintro b a w' ⟨vs2, gp, cp, M0, G0, D5, ha, QT⟩ hb_ hon hoff;refine ⟨_, rfl, fun K hK => ?_⟩;have Mh : a.tmps[81]? = some (D5) := zon_ ha 13 rfl rfl hon;rw [QT.2.2.2.2.2.2 (hon 13 zbS)] at Mh;have k8 : a.tmps[74]? = some (.bool false) := zon_ ha 6 rfl rfl hon;replace ha := z_ ha;have cJ := z_ (QT.2.2.2.1 (hon 4 zbS));have dG := qfj cJ.o.2.2.2 (j := P.length) HMO.o;rw [HKY.o] at dG;refine qae (w1 := w') (v := .string ky) (qaR rfl rfl rfl (k8.trans zbC)) rfl zbt ?_;refine hK.o _ _ ⟨vs2, gp, cp, M0, G0, D5, zaT, QT⟩
        refine qaa ?_ ?_
        ·rintro b a w' ⟨vs2, gp, cp, M0, G0, D5, ha, QT⟩ hb_ hon hoff;refine ⟨_, rfl, fun K hK => ?_⟩;have e7 : a.tmps[7]? = some (.pointer (some ⟨W1.heap.size, 0, none⟩)) := zbu;have k8 : a.tmps[74]? = some (.bool false) := zon_ ha 6 rfl rfl hon;replace ha := z_ ha;refine qae (w1 := w') (v := .pointer (some ⟨W1.heap.size, 2, none⟩)) (qaR rfl rfl rfl (k8.trans zbC)) rfl zbt ?_;refine hK.o _ _ ⟨vs2, gp, cp, M0, G0, D5, zaU, QT⟩
        refine qaa ?_ ?_
        ·rintro b a w' ⟨vs2, gp, cp, M0, G0, D5, ha, QT⟩ hb_ hon hoff;refine ⟨_, rfl, fun K hK => ?_⟩;have Hh : a.tmps[83]? = some (.pointer (some ⟨W1.heap.size, 2, none⟩)) := zon_ ha 15 rfl rfl hon;have k8 : a.tmps[74]? = some (.bool false) := zon_ ha 6 rfl rfl hon;replace ha := z_ ha;have dA := z_ (QT.2.2.1 (hon 4 zbS));have dG := qac (dA.o _ _ _ HND.o HGN.o zbT zbT) 2;simp only [List.getElem?_toArray, List.getElem?_cons_zero, List.getElem?_cons_succ] at dG;refine qae (w1 := w') (v := .slice (some DG) x.f2.length b2) (qaR rfl rfl rfl (k8.trans zbC)) rfl zbt ?_;refine hK.o _ _ ⟨vs2, gp, cp, M0, G0, D5, zaV, QT⟩
        refine qaa ?_ ?_
        ·rintro b a w' ⟨vs2, gp, cp, M0, G0, D5, ha, QT⟩ hb_ hon hoff;refine ⟨_, rfl, fun K hK => ?_⟩;have e8 : a.tmps[8]? = some (.int .i64 (i : Int)) := zbu;have k8 : a.tmps[74]? = some (.bool false) := zon_ ha 6 rfl rfl hon;replace ha := z_ ha;refine qae (w1 := w') (v := .int .i64 (i : Int)) (qaR rfl rfl rfl (k8.trans zbC)) rfl zbt ?_;refine hK.o _ _ ⟨vs2, gp, cp, M0, G0, D5, zaW, QT⟩
        refine qaa ?_ ?_
        ·rintro b a w' ⟨vs2, gp, cp, M0, G0, D5, ha, QT⟩ hb_ hon hoff;refine ⟨_, rfl, fun K hK => ?_⟩;have e84 : a.tmps[84]? = some (.slice (some DG) x.f2.length b2) := zon_ ha 16 rfl rfl hon;have rg : a.tmps[85]? = some (.int .i64 (i : Int)) := zon_ ha 17 rfl rfl hon;have k8 : a.tmps[74]? = some (.bool false) := zon_ ha 6 rfl rfl hon;replace ha := z_ ha;have xY := fV.o;refine qae (w1 := w') (v := .pointer (some (DG.add i))) (qaR rfl rfl rfl (k8.trans zbC)) rfl zbt ?_;refine hK.o _ _ ⟨vs2, gp, cp, M0, G0, D5, zaX, QT⟩
        refine qaa ?_ ?_
        ·rintro b a w' ⟨vs2, gp, cp, M0, G0, D5, ha, QT⟩ hb_ hon hoff;refine ⟨_, rfl, fun K hK => ?_⟩;have Mg : a.tmps[86]? = some (.pointer (some (DG.add i))) := zon_ ha 18 rfl rfl hon;have k8 : a.tmps[74]? = some (.bool false) := zon_ ha 6 rfl rfl hon;replace ha := z_ ha;have o4 := z_ (QT.2.1 (hon 4 zbS));have dG := (o4.o.cell (World.block_lt_of_cell? w0 _ K2.o)).trans K2.o;refine qae (w1 := w') (v := .string m) (qaR rfl rfl rfl (k8.trans zbC)) rfl zbt ?_;refine hK.o _ _ ⟨vs2, gp, cp, M0, G0, D5, zaY, QT⟩
        refine qaa ?_ ?_
        ·rintro b a w' ⟨vs2, gp, cp, M0, G0, D5, ha, QT⟩ hb_ hon hoff;refine ⟨_, rfl, fun K hK => ?_⟩;have e82 : a.tmps[82]? = some (.string ky) := zon_ ha 14 rfl rfl hon;have e87 : a.tmps[87]? = some (.string m) := zon_ ha 19 rfl rfl hon;have k8 : a.tmps[74]? = some (.bool false) := zon_ ha 6 rfl rfl hon;replace ha := z_ ha;have dG := HEQ.o;refine qae (w1 := w') (v := .bool (!be)) (qaR rfl rfl rfl (k8.trans zbC)) rfl zbt ?_;refine hK.o _ _ ⟨vs2, gp, cp, M0, G0, D5, zaZ, QT⟩
        refine qaa ?_ ?_
        ·rintro b a w' ⟨vs2, gp, cp, M0, G0, D5, ha, QT⟩ hb_ hon hoff;refine ⟨_, rfl, fun K hK => ?_⟩;have k8 : a.tmps[74]? = some (.bool false) := zon_ ha 6 rfl rfl hon;have If : a.tmps[88]? = some (.bool (!be)) := zon_ ha 20 rfl rfl hon;replace ha := z_ ha;refine qae (w1 := w') (v := .bool (!be)) zbX rfl zbt ?_;refine hK.o _ _ ⟨vs2, gp, cp, M0, G0, D5, zba, QT⟩
        exact qbo
       rintro b a w' hall ⟨vs2, gp, cp, M0, G0, D5, ha, s9, D0, Q0, QC, U1, T0, cH⟩;clear CC;have X2 := hall 0 zbS;have X1 := hall 1 zbS;have N2 := hall 2 zbS;have M2 := hall 3 zbS;have I2 := hall 4 zbS;have D3 := hall 5 zbS;have j3 := hall 6 zbS;have i3 := hall 7 zbS;have U2 := hall 8 zbS;have Y2 := hall 9 zbS;have D2 := hall 10 zbS;have Q2 := hall 11 zbS;have F2 := hall 12 zbS;have j4 := hall 13 zbS;have D4 := hall 14 zbS;have n6 := hall 15 zbS;have q6 := hall 16 zbS;have m6 := hall 17 zbS;have s6 := hall 18 zbS;have r6 := hall 19 zbS;have j6 := hall 20 zbS;have o6 := hall 21 zbS;subst ha;obtain rfl := U1 D2;obtain rfl := T0 F2;obtain rfl := cH j4;simp only [qa7, X2, X1, N2, M2, I2, D3, j3, i3, U2, Y2, D2, Q2, F2, j4, D4, n6, q6, m6, s6, r6, j6, o6, if_true, Act.put, List.setIfInBounds_toArray, List.set_cons_zero, List.set_cons_succ];clear s9;have o4 := z_ (D0 I2);clear D0;have dA := z_ (Q0 I2);clear Q0;have cJ := z_ (QC I2);clear QC hall X2 X1 N2 M2 I2 D3 j3 i3 U2 Y2 D2 Q2 F2 j4 D4 n6 q6 m6 s6 r6 j6 o6
       cases be with
       | true =>
        have HE2 := z_ (show kidsW (walkW ns n) (x.f3.drop (i + 1)) (x.f2.drop (i + 1)) S2 P2 = kidsW (walkW ns n) x.f3 x.f2 (s.set k true) p from by
         have h := HE.o;rw [if_pos ⟨rfl, HMO.o, by show (qcR P2 P.length).toList = _; rw [HKY.o]; exact beq_iff_eq.1 HEQ.o⟩] at h;exact h)
        go_wp2_with fail
        go_roundw
        case rel => exact ⟨i + 1, S2, P2, _, _, zbV, zbU, HI2, cJ, o4, ⟨HKD.o.trans dA.o⟩, ⟨dA.o _ _ _ HND.o HGN.o zbT zbT⟩, HE2⟩
        case measure => simp [intOf]; omega
       | false =>
        have HF := z_ (show (walkW ns (n + 1) (k : Int) s p).1 = false from by
         have h := HE.o;rw [if_neg (fun h => by have h2 : (qcR P2 P.length).toList = m.toList := h.2.2; rw [HKY.o] at h2; have h3 := HEQ.o; rw [h2, beq_self_eq_true] at h3; cases h3)] at h;rw [HGD.o, ← h])
        go_wp2_with fail
        go_ret
        rw [HF.o];exact ⟨rfl, o4.o, HKD.o.trans dA.o, fun h => by cases h⟩
     ·have he : i = x.f3.length := zbV;have c5 : decide ((i : Int) < (x.f3.length : Int)) = false := decide_eq_false zbV;have hE := HEr.o;rw [he, List.drop_length, qdk] at hE;have HF := z_ (show walkW ns (n + 1) (k : Int) s p = (true, S, P) from by rw [HGD.o, ← hE]);clear hE he
      go_wp2_with fail
      go_ret
      rw [HF.o];exact ⟨rfl, HBr.o, HKr.o, fun _ => ⟨_, _, HWr.o⟩⟩
def LkAt (w0 w : World) (g : Nat) (vh vp vs : Value) (b : Bool) (p : List S77) (s : List Bool) : Prop :=
 w0.heap.size ≤ g ∧ w.heap[g]? = some (.cells #[vh, vp, vs, .bool b] 107 (0, 0)) ∧ Kd.R Kd.bool 4 w w0.heap.size (fun _ => True) vs s ∧ Kd.R k77 77 w w0.heap.size (fun _ => True) vp p
theorem LkAt.below {w0 w w1 : World} {g : Nat} {vh vp vs : Value} {b : Bool} {s : List Bool} {p : List S77} (h : LkAt w0 w g vh vp vs b p s) (hb : Below w.heap.size w w1) : LkAt w0 w1 g vh vp vs b p s :=
 ⟨h.1, qap h.2.1 hb, Kd.qbO h.2.2.1 hb, Kd.qbO h.2.2.2 hb⟩
theorem LkAt.qen {w0 w : World} {g : Nat} {vh vp vs : Value} {b : Bool} {s : List Bool} {p : List S77} (h : LkAt w0 w g vh vp vs b p s) (b' : Bool) : LkAt w0 (w.setCell ⟨g, 3, none⟩ (.bool b')) g vh vp vs b' p s :=
 ⟨h.1, qdg h.2.1 3 _, Kd.qgT h.2.2.1 h.2.1 (qfG zbT) _ _, Kd.qgT h.2.2.2 h.2.1 (qfH zbT) _ _⟩
theorem KeptT.set {w w' : World} {g : Nat} (h : KeptT w w' g) (j : Nat) (v : Value) : KeptT w (w'.setCell ⟨g, j, none⟩ v) g := fun kk cells t h1 h2 h3 h4 => qbF (h kk cells t h1 h2 h3 h4) h2 _
def walkS.T10 : Bool × List (List Nat × List Nat) := (true, [([], []), ([], []), ([1], [1]), ([2], [2]), ([3], [3]), ([4], [4]), ([5], [5]), ([5], [5]), ([7, 5], [5, 7]), ([8, 5], [5, 8]), ([9, 5], [5, 9]), ([10, 5], [5, 10]), ([6, 11, 5], [5, 6, 11]), ([5, 12], [5, 12]), ([13, 5], [13]), ([14], [14]), ([15, 14], [14, 15]), ([16, 14], [14, 16]), ([17, 14], [14, 17]), ([14], [14]), ([18, 19, 14], [14, 18, 19]), ([20, 14], [14, 20]), ([21, 14], [14, 21]), ([14], [14]), ([23, 14], [14, 23]), ([14], [14]), ([24, 25, 14], [14, 24, 25]), ([26, 14], [14, 26]), ([22, 27, 14], [14, 22, 27]), ([14, 28], [14, 28]), ([0, 0, 1, 2, 3, 4, 5, 6, 7, 8, 9, 10, 11, 12, 13, 14, 15, 16, 17, 18, 19, 20, 21, 22, 23, 24, 25, 26, 27, 28, 29], [0]), ([30, 0, 1, 2, 3, 4, 5, 6, 7, 8, 9, 10, 11, 12, 13, 14, 15, 16, 17, 18, 19, 20, 21, 22, 23, 24, 25, 26, 27, 28, 29], [30]), ([31, 29, 14, 0, 1, 2, 3, 4, 5, 6, 7, 8, 9, 10, 11, 12, 13, 14, 15, 16, 17, 18, 19, 20, 21, 22, 23, 24, 25, 26, 27, 28, 29], [29, 31])])
def walkS.B10 : List Nat := [0, 0, 2, 6, 14, 30, 62, 62, 190, 446, 958, 1982, 4094, 8190, 16382, 32766, 65534, 131070, 262142, 32766, 1048574, 2097150, 4194302, 32766, 8421374, 32766, 58753022, 125861886, 268435454, 536870910, 1073741823, 2147483647, 4294967295]
theorem walkS.tab10 : rtab .any (opsOf Try.f64 10) = walkS.T10 := zbS
theorem walkS.qjv : qbv walkS.T10.2 walkS.B10 = true := zbS
def walkS.T4 : Bool × List (List Nat × List Nat) := (true, [([], []), ([], []), ([1], [1]), ([2], [2]), ([3], [3]), ([], []), ([5], [5]), ([4, 6], [4, 6]), ([0, 0, 1, 2, 3, 4, 5, 6, 7], [0]), ([8, 0, 1, 2, 3, 4, 5, 6, 7], [8]), ([9, 7, 7, 0, 1, 2, 3, 4, 5, 6, 7], [7, 9])])
def walkS.B4 : List Nat := [0, 0, 2, 6, 14, 0, 32, 126, 255, 511, 1023]
theorem walkS.tab4 : rtab .any (opsOf Try.f64 4) = walkS.T4 := zbS
theorem walkS.bits4 : qbv walkS.T4.2 walkS.B4 = true := zbS
set_option maxHeartbeats 16000000 in
set_option maxRecDepth 100000 in
theorem qjy (ns : List S75) (w0 : World) (Ah : Option Addr) (ch : Nat) (hh : Kd.C k75 w0 Ah ns.length ns) (hl : ns.length = 50) (hbd : qem ns) : ∀ (n : Nat) (k d : Int) (s : List Bool) (p : List S77) (w : World) (g : Nat) (vp vs : Value), 0 ≤ d → d + (n : Int) = 21 → WI 50 150 s p → Below w0.heap.size w0 w → LkAt w0 w g (.slice Ah ns.length ch) vp vs true p s →
  Calls Try.prog 64 #[.pointer (some ⟨g, 0, none⟩), .int .i64 k, .int .i64 d] w fun e w' => e = .returned (.tuple #[]) ∧ Below w0.heap.size w0 w' ∧ KeptT w w' g ∧ ∃ vp' vs' : Value, LkAt w0 w' g (.slice Ah ns.length ch) vp' vs' (walkW ns n k s p).1 (walkW ns n k s p).2.2 (walkW ns n k s p).2.1 := by
 have hu := Try.underlying75;have hu2 := Try.underlying107;have hu3 := Try.underlying25;intro n
 induction n with
 | zero =>
  intro k d s p w g vp vs hd0 hd hI hB hW;have HB := z_ hB;have HW := z_ hW;have c1 : decide (20 < d) = true := decide_eq_true zbV;obtain ⟨d0, d1, d2, d3⟩ := qbz hW.2.1;have d4 := qab hW.2.1 3;clear hI hB hW hd hd0 hh hbd
  go_enter Try.func64, Try.ntmps64
  go_wp2_with fail
  ((try simp only [Exit.inBlock, Exit.then]); refine bodyPost_ret (results_none rfl _ _ _) rfl ?_)
  exact ⟨rfl, HB.o.setCell (p := ⟨g, 3, none⟩) HW.o.1 _, (KeptT.refl _ _).set _ _, _, _, HW.o.qen false⟩
 | succ n ih =>
  intro k d s p w g vp vs hd0 hd hI hB hW;have c1 : decide (20 < d) = false := decide_eq_false zbV;have hlen := hI.len;obtain ⟨gs, cs, rfl, hgs, _, scells, hsc⟩ := Kd.qcJ hW.2.2.1 zbV;obtain ⟨d0, d1, d2, d3⟩ := qbz hW.2.1;have d4 := qab hW.2.1 3;have hwr : IntKind.i64.wrap ((ns.length : Int) - 1) = (ns.length : Int) - 1 := zbF;have hin := qhS k 0 ((ns.length : Int) - 1)
  cases hr : inB k 0 ((ns.length : Int) - 1) with
  | false =>
   have hgd : walkW ns (n + 1) k s p = (false, s, p) := by
    unfold walkW;rw [if_neg (fun h => by have h1 := h.1; have h2 := h.2.1; unfold inB at hr; rw [decide_eq_true h1, decide_eq_true zbV] at hr; cases hr)]
   rw [hgd];rw [hr] at hin;have HIN := z_ hin;have HB := z_ hB;have HW := z_ hW;clear hI hB hW hsc hgs hh ih hd hd0 hgd hlen hl hbd hin hr
   go_enter Try.func64, Try.ntmps64
   go_wp2_with fail
   refine (qaE.calls _ _ _ _ _ HIN.o).mono ?_;rintro e W1 ⟨rfl, hdr⟩;have HB1 := z_ (qad HB.o hdr.below);have HW1 := z_ (HW.o.below hdr.below);have q7 := z_ ((KeptT.refl w g).below hdr.below);clear hdr d0 d1 d2 d3 d4;obtain ⟨d0, d1, d2, d3⟩ := qbz HW1.o.2.1;have d4 := qab HW1.o.2.1 3
   go_wp2_with fail
   ((try simp only [Exit.inBlock, Exit.then]); refine bodyPost_ret (results_none rfl _ _ _) rfl ?_)
   exact ⟨rfl, HB1.o.setCell (p := ⟨g, 3, none⟩) HW.o.1 _, q7.o.set _ _, _, _, HW1.o.qen false⟩
  | true =>
  have hk0 : 0 ≤ k ∧ k < 50 := by unfold inB at hr; simp only [Bool.and_eq_true, decide_eq_true_eq] at hr; omega
  rw [hr] at hin;have HIN := z_ hin;obtain ⟨kk, rfl⟩ : ∃ kk : Nat, k = (kk : Int) := ⟨k.toNat, zbV⟩
  have hk : kk < 50 := zbV;have p1 : 0 ≤ (kk : Int) := zbV;have q1 : (kk : Int) < (s.length : Int) := zbV;have q2 : (kk : Int) < (ns.length : Int) := zbV;have MY := hr
  cases hsk : rdOf false s (kk : Int) with
  | true =>
   have hgd : walkW ns (n + 1) (kk : Int) s p = (false, s, p) := by
    unfold walkW;rw [if_neg (fun h => by have := h.2.2.1; rw [hsk] at this; cases this)]
   rw [hgd];have HB := z_ hB;have HW := z_ hW;have HSK := z_ hsk;clear hI hB hW hsc hgs hh ih hd hd0 hgd hlen hl hbd hin hr hsk hk hk0 MY
   go_enter Try.func64, Try.ntmps64
   go_wp2_with fail
   refine (qaE.calls _ _ _ _ _ HIN.o).mono ?_;rintro e W1 ⟨rfl, hdr⟩;have HB1 := z_ (qad HB.o hdr.below);have HW1 := z_ (HW.o.below hdr.below);have q7 := z_ ((KeptT.refl w g).below hdr.below);clear hdr d0 d1 d2 d3 d4;obtain ⟨d0, d1, d2, d3⟩ := qbz HW1.o.2.1;have d4 := qab HW1.o.2.1 3;obtain ⟨hx0, hx1⟩ := Kd.qcM false HW1.o.2.2.1 (kk : Int) p1 q1;rw [Int.toNat_natCast] at hx0 hx1;rw [HSK.o] at hx0
   go_wp2_with fail
   ((try simp only [Exit.inBlock, Exit.then]); refine bodyPost_ret (results_none rfl _ _ _) rfl ?_)
   exact ⟨rfl, HB1.o.setCell (p := ⟨g, 3, none⟩) HW.o.1 _, q7.o.set _ _, _, _, HW1.o.qen false⟩
  | false =>
   obtain ⟨adh, B1, b1, B2, b2, B3, b3, e1, n0, n1, n2, n3, l1, C1, l2, C2, l3, C3⟩ := qfz hh (kk : Int) p1 q2
   cases e1
   obtain ⟨x, hx⟩ : ∃ x, x = qaH ns (kk : Int) := ⟨_, rfl⟩
   rw [← hx] at n0 n1 n2 n3 l1 C1 l2 C2 l3 C3;rw [Int.toNat_natCast] at n0 n1 n2 n3;have hmax : x.f3.length < 9223372036854775807 := by have := qhh hbd q2 p1; rw [← hx] at this; omega
   obtain ⟨ko, hko⟩ := Ev.rounds (qhV x.f0 x.f1 x.f2 x.f3 hmax);have HKO := z_ (show qar.f ko x.f0 x.f1 x.f2 x.f3 = some (nbN x) from hko);have HFO := z_ (show qby.f x.f0 x.f1 x.f2 x.f3 = some (fbN x) from qhf x.f0 x.f1 x.f2 x.f3);have HI := z_ hI;have HB := z_ hB;have HW := z_ hW;have HX := z_ hx;have HLL := z_ hlen;have eG := z_ (And.intro l1 C1);have kO := z_ (And.intro l2 C2);have zK := z_ (And.intro l3 C3);have HH := z_ hh;have HIH := z_ ih;have HD := z_ (And.intro hd hd0);have HSK := z_ hsk;have HL := z_ hl;have HBD := z_ hbd;have HG := z_ hW.1;have N0 := z_ (And.intro n0 (And.intro n1 (And.intro n2 n3)));clear hI hB hW hsc hgs hh ih hd hd0 hlen hl hbd hin hr hsk hk hk0 MY hx C1 C2 C3 l1 l2 l3 hko hmax n0 n1 n2 n3
   go_enter Try.func64, Try.ntmps64
   go_wp2_with fail
   refine (qaE.calls _ _ _ _ _ HIN.o).mono ?_;rintro e W1 ⟨rfl, hdr⟩;have HB1 := z_ (qad HB.o hdr.below);have HW1 := z_ (HW.o.below hdr.below);have q7 := z_ ((KeptT.refl w g).below hdr.below);clear hdr d0 d1 d2 d3 d4 HB HW;obtain ⟨d0, d1, d2, d3⟩ := qbz HW1.o.2.1;have d4 := qab HW1.o.2.1 3;obtain ⟨hx0, hx1⟩ := Kd.qcM false HW1.o.2.2.1 (kk : Int) p1 q1;rw [Int.toNat_natCast] at hx0 hx1;rw [HSK.o] at hx0;have n0 := (HB1.o.cell (World.block_lt_of_cell? w0 _ N0.o.1)).trans N0.o.1;have n1 := (HB1.o.cell (World.block_lt_of_cell? w0 _ N0.o.2.1)).trans N0.o.2.1;have n2 := (HB1.o.cell (World.block_lt_of_cell? w0 _ N0.o.2.2.1)).trans N0.o.2.2.1;have n3 := (HB1.o.cell (World.block_lt_of_cell? w0 _ N0.o.2.2.2)).trans N0.o.2.2.2
   go_wp2_with fail
   refine (qar.calls (M7 := Kd.qaO eG.o.2 HB1.o) (J7 := eG.o.1) (P7 := Kd.qaO kO.o.2 HB1.o) (d8 := kO.o.1) (b8 := Kd.qaO zK.o.2 HB1.o) (S7 := zK.o.1) (h := HKO.o)).mono ?_;rintro e W3 ⟨rfl, hb3⟩;have HB3 := z_ (qad HB1.o hb3);have HW3 := z_ (HW1.o.below hb3);have oB := z_ (q7.o.below hb3);clear hb3 d0 d1 d2 d3 d4 hx0 hx1 n0 n1 n2 n3 HB1 HW1 q7;obtain ⟨d0, d1, d2, d3⟩ := qbz HW3.o.2.1;have d4 := qab HW3.o.2.1 3;obtain ⟨hx0, hx1⟩ := Kd.qcM false HW3.o.2.2.1 (kk : Int) p1 q1;rw [Int.toNat_natCast] at hx0 hx1;have n0 := (HB3.o.cell (World.block_lt_of_cell? w0 _ N0.o.1)).trans N0.o.1;have n1 := (HB3.o.cell (World.block_lt_of_cell? w0 _ N0.o.2.1)).trans N0.o.2.1;have n2 := (HB3.o.cell (World.block_lt_of_cell? w0 _ N0.o.2.2.1)).trans N0.o.2.2.1;have n3 := (HB3.o.cell (World.block_lt_of_cell? w0 _ N0.o.2.2.2)).trans N0.o.2.2.2
   cases hnb : nbN x with
   | false =>
    have hgd : walkW ns (n + 1) (kk : Int) s p = (false, s, p) := by
     unfold walkW;rw [if_neg (fun h => by have := h.2.2.2.1; rw [← HX.o, hnb] at this; cases this)]
    have HGD := z_ hgd;clear hnb hgd n0 n1 n2 n3 hx0 hx1
    go_wp2_with fail
    ((try simp only [Exit.inBlock, Exit.then]); refine bodyPost_ret (results_none rfl _ _ _) rfl ?_)
    rw [HGD.o];exact ⟨rfl, HB3.o.setCell (p := ⟨g, 3, none⟩) HG.o _, oB.o.set _ _, _, _, HW3.o.qen false⟩
   | true =>
   go_wp2_with fail
   refine (qby.calls (M7 := Kd.qaO eG.o.2 HB3.o) (J7 := eG.o.1) (P7 := Kd.qaO kO.o.2 HB3.o) (d8 := kO.o.1) (b8 := Kd.qaO zK.o.2 HB3.o) (S7 := zK.o.1) (h := HFO.o)).mono ?_;rintro e W4 ⟨rfl, hb4⟩;have cI := z_ (qad HB3.o hb4);have AG := z_ (HW3.o.below hb4);have lH := z_ (oB.o.below hb4);clear hb4 d0 d1 d2 d3 d4 hx0 hx1 n0 n1 n2 n3 HB3 HW3 oB;obtain ⟨d0, d1, d2, d3⟩ := qbz AG.o.2.1;have d4 := qab AG.o.2.1 3
   cases hfb : fbN x with
   | true =>
    have hgd : walkW ns (n + 1) (kk : Int) s p = (false, s, p) := by
     unfold walkW;rw [if_neg (fun h => by have := h.2.2.2.2; rw [← HX.o, hfb] at this; cases this)]
    have HGD := z_ hgd;clear hfb hgd
    go_wp2_with fail
    ((try simp only [Exit.inBlock, Exit.then]); refine bodyPost_ret (results_none rfl _ _ _) rfl ?_)
    rw [HGD.o];exact ⟨rfl, cI.o.setCell (p := ⟨g, 3, none⟩) HG.o _, lH.o.set _ _, _, _, AG.o.qen false⟩
   | false =>
   have hgd : walkW ns (n + 1) (kk : Int) s p = kidsW (walkW ns n) x.f3 x.f2 (s.set kk true) (p ++ x.f1) := by
    unfold walkW;rw [if_pos (show goodW ns (kk : Int) s from ⟨p1, q2, HSK.o, by rw [← HX.o]; exact hnb, by rw [← HX.o]; exact hfb⟩), ← HX.o, Int.toNat_natCast]
   have hkids : x.f3.length ≤ 4 ∧ x.f2.length = x.f3.length ∧ x.f1.length ≤ 3 ∧ (∀ q, q ∈ x.f1 → okP q = true) ∧ ∀ i : Nat, i < x.f3.length → 0 ≤ rd x.f3 i ∧ rd x.f3 i ≤ 49 := by
    cases hlf : x.f0 with
    | true =>
     obtain ⟨z3, z2, z1, z4, z5⟩ := qc0 hnb hfb hlf;rw [z3, z2];exact ⟨zbW, rfl, z4, z5, fun i hi => absurd hi zbW⟩
    | false =>
     obtain ⟨z1, z2, z3, z4, z5⟩ := qcz hnb hfb hlf;rw [z1];exact ⟨z3, z4, zbW, fun q hq => (by cases hq), z5⟩
   have HGD := z_ hgd;have HZ := z_ hkids;have hz3 : x.f3.length ≤ 4 := hkids.1;have HI4 := z_ (show WI 50 150 (s.set kk true) (p ++ x.f1) from by
    have hc := qfD (s := s) (i := kk) (by have := HLL.o; omega) (by have := HSK.o; unfold rdOf at this; rw [Int.toNat_natCast] at this; exact this);exact ⟨by rw [List.length_set]; exact HLL.o, by have := HI.o.room; have := HZ.o.2.2.1; rw [List.length_append]; omega, fun q hq => (List.mem_append.1 hq).elim (HI.o.good q) (HZ.o.2.2.2.1 q)⟩)
   have hroom := HI.o.room;have HRM := z_ (show p.length ≤ 150 from zbV);clear hroom hkids hgd hnb hfb;obtain ⟨hx0, hx1⟩ := Kd.qcM false AG.o.2.2.1 (kk : Int) p1 q1;rw [Int.toNat_natCast] at hx0 hx1;obtain ⟨_, _, _, _, _, scells, hsc⟩ := Kd.qcJ AG.o.2.2.1 (by have := HLL.o; omega);rename_i gs_ oH RN kZ _;injection RN with v1 _ v2
   injection v1 with v1
   injection v1 with v1
   subst v1; subst v2;obtain ⟨W1, hW1⟩ : ∃ W1, W1 = W4.setCell ⟨gs, kk, none⟩ (.bool true) := ⟨_, rfl⟩
   have hB1 : Below w0.heap.size w0 W1 := hW1 ▸ cI.o.setCell (p := ⟨gs, kk, none⟩) kZ _;have hL1 : LkAt w0 W1 g (.slice (some adh) ns.length ch) vp (.slice (some ⟨gs, 0, none⟩) s.length cs) true p (s.set kk true) := hW1 ▸ ⟨HG.o, qbF AG.o.2.1 (qgR AG.o.2.1 hsc zbT) _, Kd.qif AG.o.2.2.1 (kk : Int) true, Kd.qgT AG.o.2.2.2 hsc (qfH zbT) _ _⟩;have hK1 : KeptT w W1 g := fun q cells t h1 h0 h2 h3 => hW1 ▸ qbF (lH.o q cells t h1 h0 h2 h3) (qgR (lH.o q cells t h1 h0 h2 h3) hsc (Ne.symm h2)) _
   have n0 := (hB1.cell (World.block_lt_of_cell? w0 _ N0.o.1)).trans N0.o.1;have n1 := (hB1.cell (World.block_lt_of_cell? w0 _ N0.o.2.1)).trans N0.o.2.1;have n2 := (hB1.cell (World.block_lt_of_cell? w0 _ N0.o.2.2.1)).trans N0.o.2.2.1;have n3 := (hB1.cell (World.block_lt_of_cell? w0 _ N0.o.2.2.2)).trans N0.o.2.2.2;obtain ⟨OP, dd1, XP, XR⟩ := qbz hL1.2.1;obtain ⟨W2, hW2⟩ : ∃ W2, W2 = W1.alloc (.cells #[.bool x.f0, .slice B1 x.f1.length b1, .slice B2 x.f2.length b2, .slice B3 x.f3.length b3] 75 (0, 0)) := ⟨_, rfl⟩
   obtain ⟨nb, hnbq⟩ : ∃ nb, nb = W1.heap.size := ⟨_, rfl⟩
   have HGN := z_ (show nb ≠ g by have := qbH hL1.2.1; omega);have HB2 := z_ (show Below w0.heap.size w0 W2 from hW2 ▸ qas hB1 _);have HW2 := z_ (show LkAt w0 W2 g (.slice (some adh) ns.length ch) vp (.slice (some ⟨gs, 0, none⟩) s.length cs) true p (s.set kk true) from hW2 ▸ hL1.below (qas (Below.refl _ _) _));have p7 := z_ (show KeptT w W2 g from hW2 ▸ hK1.below (qas (Below.refl _ _) _));have uY := z_ (show W2.heap[nb]? = some (.cells #[.bool x.f0, .slice B1 x.f1.length b1, .slice B2 x.f2.length b2, .slice B3 x.f3.length b3] 75 (0, 0)) from hW2 ▸ hnbq ▸ qcb W1 _);clear kZ hsc hB1 hL1 hK1 cI lH AG
   go_upto_region 3 with fail
   rw [← hW1];clear hW1 d0 d1 d2 d3 d4 hx0 hx1
   go_upto_region 4 with fail
   rw [← hW2, ← hnbq];clear hW2 n0 n1 n2 n3 OP dd1 XP XR hnbq;obtain ⟨vpA, vpc, ev, _, _⟩ := Kd.qbI HW2.o.2.2.2;subst ev;have iL := z_ (qai HW2.o.2.1);have HPo := z_ (Kd.qa6 HW2.o.2.2.2);have HSx := z_ (Kd.qa6 HW2.o.2.2.1);have o4 := z_ (qaW HB2.o);have dA := z_ (p7.o.below (qaW (Below.refl _ W2)));have NBX := z_ (qai uY.o);clear HB2 p7 uY HW2;refine qbY (n := 11) (S := fun w' => True) (ds := []) #[false, false, false, false, false, false, false, false, false, false, false] zbS rfl rfl trivial (fun hHeld => ?_);refine qbg walkS.tab4 walkS.bits4 (fun l4 R6 => ?_);generalize W2.drew = wd at iL HPo HSx o4 dA NBX ⊢;refine qcd [0, 1, 2, 3, 4, 5, 6, 7, 8, 9, 10] (fun E8 b a w' => ∃ (Az : Option Addr) (cz : Nat) (i4 : Value), a = qa7 E8 b [(0, 79, .pointer (some ⟨g, 0, none⟩)), (1, 80, .pointer (some ⟨g, 0, none⟩)), (2, 81, .pointer (some ⟨g, 0, none⟩)), (3, 82, .pointer (some ⟨g, 1, none⟩)), (4, 83, .slice vpA p.length vpc), (5, 84, .pointer (some ⟨nb, 1, none⟩)), (6, 85, .slice B1 x.f1.length b1), (7, 86, i4), (8, 87, .pointer (some ⟨g, 0, none⟩)), (9, 88, .pointer (some ⟨g, 1, none⟩))] ∧ (b 10 = false → w'.heap[g]? = some (.cells #[.slice (some adh) ns.length ch, .slice vpA p.length vpc, .slice (some ⟨gs, 0, none⟩) s.length cs, .bool true] 107 (0, 0))) ∧ (b 7 = false → Kd.R k77 77 w' w0.heap.size (fun _ => True) (.slice vpA p.length vpc) p) ∧ (b 7 = true → Kd.R k77 77 w' w0.heap.size (fun _ => True) (.slice Az (p ++ x.f1).length cz) (p ++ x.f1)) ∧ (b 10 = true → w'.heap[g]? = some (.cells #[.slice (some adh) ns.length ch, .slice Az (p ++ x.f1).length cz, .slice (some ⟨gs, 0, none⟩) s.length cs, .bool true] 107 (0, 0))) ∧ (Kd.R Kd.bool 4 w' w0.heap.size (fun _ => True) (.slice (some ⟨gs, 0, none⟩) s.length cs) (s.set kk true)) ∧ (Below w0.heap.size w0 w') ∧ (KeptT w w' g) ∧ (w'.heap[nb]? = some (.cells #[.bool x.f0, .slice B1 x.f1.length b1, .slice B2 x.f2.length b2, .slice B3 x.f3.length b3] 75 (0, 0))) ∧ (b 7 = true → (i4 : Value) = .slice Az (p ++ x.f1).length cz)) l4.o R6.o zbS zbS ?_ ?_ ?_
   ·exact ⟨none, 0, .bool false, zaO, fun _ => iL.o, fun _ => HPo.o, fun h_ => absurd h_ zbT, fun h_ => absurd h_ zbT, HSx.o, o4.o, dA.o, NBX.o, fun h_ => absurd h_ zbT⟩
   ·skip;clear iL o4 dA HPo HSx NBX;refine qaa ?_ ?_
    ·rintro b a w' ⟨Az, cz, i4, ha, QT⟩ hb_ hon hoff;refine ⟨_, rfl, fun K hK => ?_⟩;have e0 : a.tmps[0]? = some (.pointer (some ⟨g, 0, none⟩)) := zbu;replace ha := z_ ha;refine qae (w1 := w') (v := .pointer (some ⟨g, 0, none⟩)) zbX rfl zbt ?_;refine hK.o _ _ ⟨Az, cz, i4, zbg, QT⟩
    refine qaa ?_ ?_
    ·rintro b a w' ⟨Az, cz, i4, ha, QT⟩ hb_ hon hoff;refine ⟨_, rfl, fun K hK => ?_⟩;have e0 : a.tmps[0]? = some (.pointer (some ⟨g, 0, none⟩)) := zbu;replace ha := z_ ha;refine qae (w1 := w') (v := .pointer (some ⟨g, 0, none⟩)) zbX rfl zbt ?_;refine hK.o _ _ ⟨Az, cz, i4, zbh, QT⟩
    refine qaa ?_ ?_
    ·rintro b a w' ⟨Az, cz, i4, ha, QT⟩ hb_ hon hoff;refine ⟨_, rfl, fun K hK => ?_⟩;have Ub : a.tmps[80]? = some (.pointer (some ⟨g, 0, none⟩)) := zon_ ha 1 rfl rfl hon;replace ha := z_ ha;refine qae (w1 := w') (v := .pointer (some ⟨g, 0, none⟩)) zbX rfl zbt ?_;refine hK.o _ _ ⟨Az, cz, i4, zbi, QT⟩
    refine qaa ?_ ?_
    ·rintro b a w' ⟨Az, cz, i4, ha, QT⟩ hb_ hon hoff;refine ⟨_, rfl, fun K hK => ?_⟩;have Mh : a.tmps[81]? = some (.pointer (some ⟨g, 0, none⟩)) := zon_ ha 2 rfl rfl hon;replace ha := z_ ha;refine qae (w1 := w') (v := .pointer (some ⟨g, 1, none⟩)) zbX rfl zbt ?_;refine hK.o _ _ ⟨Az, cz, i4, zbj, QT⟩
    refine qaa ?_ ?_
    ·rintro b a w' ⟨Az, cz, i4, ha, QT⟩ hb_ hon hoff;refine ⟨_, rfl, fun K hK => ?_⟩;have e82 : a.tmps[82]? = some (.pointer (some ⟨g, 1, none⟩)) := zon_ ha 3 rfl rfl hon;replace ha := z_ ha;have iL := z_ (QT.1 (hoff 10 zbS));have L7 := (qbz iL.o).2.1;refine qae (w1 := w') (v := .slice vpA p.length vpc) zbX rfl zbt ?_;refine hK.o _ _ ⟨Az, cz, i4, zbk, QT⟩
    refine qaa ?_ ?_
    ·rintro b a w' ⟨Az, cz, i4, ha, QT⟩ hb_ hon hoff;refine ⟨_, rfl, fun K hK => ?_⟩;have e6 : a.tmps[6]? = some (.pointer (some ⟨nb, 0, none⟩)) := zbu;replace ha := z_ ha;refine qae (w1 := w') (v := .pointer (some ⟨nb, 1, none⟩)) zbX rfl zbt ?_;refine hK.o _ _ ⟨Az, cz, i4, zbl, QT⟩
    refine qaa ?_ ?_
    ·rintro b a w' ⟨Az, cz, i4, ha, QT⟩ hb_ hon hoff;refine ⟨_, rfl, fun K hK => ?_⟩;have e84 : a.tmps[84]? = some (.pointer (some ⟨nb, 1, none⟩)) := zon_ ha 5 rfl rfl hon;replace ha := z_ ha;have NBX := z_ QT.2.2.2.2.2.2.2.1;have L7 := (qbz NBX.o).2.1;refine qae (w1 := w') (v := .slice B1 x.f1.length b1) zbX rfl zbt ?_;refine hK.o _ _ ⟨Az, cz, i4, zbm, QT⟩
    refine qaa ?_ ?_
    ·rintro b a w' ⟨Az, cz, i4, ha, KJ, rM, sJ, lN, uH, D0, Q0, wH, Q3⟩ hb_ hon hoff;refine ⟨_, rfl, fun K hK => ?_⟩;have Hh : a.tmps[83]? = some (.slice vpA p.length vpc) := zon_ ha 4 rfl rfl hon;have rg : a.tmps[85]? = some (.slice B1 x.f1.length b1) := zon_ ha 6 rfl rfl hon;replace ha := z_ ha;have iL := z_ (KJ (hoff 10 zbS));have HPo := z_ (rM hb_);have HSx := z_ uH;have o4 := z_ D0;have dA := z_ Q0;have NBX := z_ wH;refine Kd.qdt k77 (w0 := w0) w0.heap.size zbX (.tmp 83) (.tmp 85) 36 77 (.agg #[.string ⟨#[]⟩, .string ⟨#[]⟩]) 32 rfl Try.underlying36 qcK rfl zbT zbV (.slice vpA p.length vpc) p x.f1 _ _ _ (fun _ => True) (fun _ => False) (qjp Hh) (qjp rg) HPo.o (Kd.qaO eG.o.2 o4.o) (fun _ _ h => h) (fun _ h => h.elim) (fun _ _ => trivial) o4.o o4.o.size (by have := HZ.o.2.2.1; have := HRM.o; omega) ?_;intro v1 w1 ho1 hb1 hg1 sH;obtain ⟨PZ, IZ, DK, _, _⟩ := Kd.qbI ho1;subst DK;refine hK.o _ _ ⟨PZ, IZ, (.slice PZ (p ++ x.f1).length IZ), zbn, fun _ => qbd iL.o hg1 (Kd.R_ne HPo.o iL.o zbT), fun N7 => absurd ((qa5 b 7).symm.trans N7) zbT, fun _ => ho1, nf_ (hoff 10 zbS), Kd.R_over HSx.o HPo.o (qfG zbT) hg1, hb1, fun kk cells t h1 h2 h3 h4 => qbd (dA.o kk cells t h1 h2 h3 h4) hg1 (Kd.R_ne HPo.o (dA.o kk cells t h1 h2 h3 h4) h4), qbd NBX.o hg1 (Kd.R_ne HPo.o NBX.o zbT), fun _ => rfl⟩
    refine qaa ?_ ?_
    ·rintro b a w' ⟨Az, cz, i4, ha, QT⟩ hb_ hon hoff;refine ⟨_, rfl, fun K hK => ?_⟩;have e79 : a.tmps[79]? = some (.pointer (some ⟨g, 0, none⟩)) := zon_ ha 0 rfl rfl hon;replace ha := z_ ha;refine qae (w1 := w') (v := .pointer (some ⟨g, 0, none⟩)) zbX rfl zbt ?_;refine hK.o _ _ ⟨Az, cz, i4, zbo, QT⟩
    refine qaa ?_ ?_
    ·rintro b a w' ⟨Az, cz, i4, ha, QT⟩ hb_ hon hoff;refine ⟨_, rfl, fun K hK => ?_⟩;have e87 : a.tmps[87]? = some (.pointer (some ⟨g, 0, none⟩)) := zon_ ha 8 rfl rfl hon;replace ha := z_ ha;refine qae (w1 := w') (v := .pointer (some ⟨g, 1, none⟩)) zbX rfl zbt ?_;refine hK.o _ _ ⟨Az, cz, i4, zbp, QT⟩
    refine qaa ?_ ?_
    ·rintro b a w' ⟨Az, cz, i4, ha, KJ, rM, sJ, lN, uH, D0, Q0, wH, Q3⟩ hb_ hon hoff;refine ⟨_, rfl, fun K hK => ?_⟩;have If : a.tmps[88]? = some (.pointer (some ⟨g, 1, none⟩)) := zon_ ha 9 rfl rfl hon;have Mg : a.tmps[86]? = some (i4) := zon_ ha 7 rfl rfl hon;rw [Q3 (hon 7 zbS)] at Mg;replace ha := z_ ha;have iL := z_ (KJ hb_);have HPn := z_ (sJ (hon 7 zbS));have HSx := z_ uH;have o4 := z_ D0;have dA := z_ Q0;have NBX := z_ wH;have L7 := (qbz iL.o).2.1;have hf_ := qab iL.o 1;refine qeR (w1 := w'.setCell ⟨g, 1, none⟩ (.slice Az (p ++ x.f1).length cz)) zbX rfl (by go_simp) ?_;refine hK.o _ _ ⟨Az, cz, i4, zbq, fun N7 => absurd ((qa5 b 10).symm.trans N7) zbT, nt_ (hon 7 zbS), fun _ => Kd.qgT HPn.o iL.o (qfH zbT) _ _, fun _ => qdg iL.o 1 _, Kd.qgT HSx.o iL.o (qfG zbT) _ _, o4.o.setCell (p := ⟨g, 1, none⟩) HG.o _, dA.o.set _ _, qbF NBX.o HGN.o _, Q3⟩
    exact qbo
   rintro b a wA hall ⟨Az, cz, i4, ha, KJ, rM, sJ, lN, uH, D0, Q0, wH, Q3⟩;clear iL o4 dA HPo HSx NBX;have X2 := hall 0 zbS;have X1 := hall 1 zbS;have N2 := hall 2 zbS;have M2 := hall 3 zbS;have I2 := hall 4 zbS;have D3 := hall 5 zbS;have j3 := hall 6 zbS;have i3 := hall 7 zbS;have U2 := hall 8 zbS;have Y2 := hall 9 zbS;have D2 := hall 10 zbS;subst ha;obtain rfl := Q3 i3;simp only [qa7, X2, X1, N2, M2, I2, D3, j3, i3, U2, Y2, D2, if_true, Act.put, List.setIfInBounds_toArray, List.set_cons_zero, List.set_cons_succ];clear KJ rM;have HPn := z_ (sJ i3);clear sJ;have BK1 := z_ (lN D2);clear lN;have HSx := z_ uH;clear uH;have o4 := z_ D0;clear D0;have dA := z_ Q0;clear Q0;have NBX := z_ wH;clear wH hall X2 X1 N2 M2 I2 D3 j3 i3 U2 Y2 D2;have xW := z_ (show LkAt w0 wA g (.slice (some adh) ns.length ch) (.slice Az (p ++ x.f1).length cz) (.slice (some ⟨gs, 0, none⟩) s.length cs) true (p ++ x.f1) (s.set kk true) from ⟨HG.o, BK1.o, HSx.o, HPn.o⟩);have qT := o4;have HK6 := dA;have HN6 := NBX;clear BK1 HSx HPn o4 dA NBX
   go_upto_region 6 with fail
   go_loopw [7] (fun v7 wr => ∃ (i : Nat) (b : Bool) (S : List Bool) (P : List S77) (vp vs : Value), i ≤ x.f3.length ∧ v7 = .int .i64 (i : Int) ∧ Aside0 (WI 50 150 S P) ∧ Aside0 (LkAt w0 wr g (.slice (some adh) ns.length ch) vp vs b P S) ∧ Aside0 (Below w0.heap.size w0 wr) ∧ Aside0 (KeptT w wr g) ∧ Aside0 (wr.heap[nb]? = some (.cells #[.bool x.f0, .slice B1 x.f1.length b1, .slice B2 x.f2.length b2, .slice B3 x.f3.length b3] 75 (0, 0))) ∧ Aside0 ((if b = true then kidsW (walkW ns n) (x.f3.drop i) (x.f2.drop i) S P else (false, S, P)) = walkW ns (n + 1) (kk : Int) s p)) (fun v7 _ => x.f3.length - (intOf v7).toNat)
   case atStart => exact ⟨0, true, s.set kk true, p ++ x.f1, _, _, zbV, rfl, HI4, xW, qT, HK6, HN6, ⟨by rw [HGD.o, if_pos rfl]; rfl⟩⟩
   case round =>
    clear HI4 xW qT HK6 HN6 HI HSK HFO HKO c1;obtain ⟨i, b, S, P, vp', vs', hi, rfl, HIr, HWr, HBr, HKr, HNr, HEr⟩ := hrel;obtain ⟨m0, m1, m2, m3⟩ := qbz HNr.o;obtain ⟨OP, dd1, XP, XR⟩ := qbz HWr.o.2.1
    by_cases hlt : i < x.f3.length
    ·have c5 : decide ((i : Int) < (x.f3.length : Int)) = true := decide_eq_true zbV
     cases b with
     | false =>
      have HF := z_ (show (false, S, P) = walkW ns (n + 1) (kk : Int) s p from by have h := HEr.o; rw [if_neg zbT] at h; exact h);clear HEr
      go_wp2_with fail
      go_end0
      rw [← HF.o];exact ⟨rfl, HBr.o, HKr.o, _, _, HWr.o⟩
     | true =>
      have i0 : 0 ≤ (i : Int) := zbV;have i1 : (i : Int) < (x.f3.length : Int) := zbV;have i2 : (i : Int) < (x.f2.length : Int) := by have := HZ.o.2.1; omega
      have hkid := HZ.o.2.2.2.2 i hlt;obtain ⟨kn, hkn⟩ : ∃ kn : Nat, rd x.f3 (i : Int) = (kn : Int) := ⟨(rd x.f3 (i : Int)).toNat, zbV⟩
      obtain ⟨IN, e3, k3⟩ := Kd.qbN zK.o.2 (i : Int) i0 i1
      cases e3
      rw [Int.toNat_natCast, hkn] at k3;obtain ⟨DG, e2, k2⟩ := Kd.qbA kO.o.2 (i : Int) i0 i2
      cases e2
      obtain ⟨m, hm⟩ : ∃ m, m = rdOf ByteArray.empty x.f2 (i : Int) := ⟨_, rfl⟩
      rw [Int.toNat_natCast, ← hm] at k2;have hd3 : x.f3.drop i = (kn : Int) :: x.f3.drop (i + 1) := by
       rw [List.drop_eq_getElem_cons hlt, ← hkn];unfold rd;simp [List.getD_eq_getElem?_getD, hlt]
      have hlt2 : i < x.f2.length := zbV;have hd2 : x.f2.drop i = m :: x.f2.drop (i + 1) := by
       rw [List.drop_eq_getElem_cons hlt2, hm];unfold rdOf;simp [List.getD_eq_getElem?_getD, hlt2]
      have K2 := z_ k2;replace k3 := (HBr.o.cell (World.block_lt_of_cell? w0 _ k3)).trans k3;obtain ⟨vA, vc, ev, _, _⟩ := Kd.qbI HWr.o.2.2.2;subst ev;have hroom := HIr.o.room;have hpl : P.length ≤ 150 := zbV;have hw1 : IntKind.i64.wrap (d + 1) = d + 1 := by have := HD.o; rw [IntKind.wrap_i64]; omega
      obtain ⟨rb, S2, P2, hres⟩ : ∃ rb S2 P2, walkW ns n (kn : Int) S P = (rb, S2, P2) := ⟨_, _, _, rfl⟩
      have hE := HEr.o;rw [if_pos rfl, hd3, hd2, qdA, hres] at hE;have hinv := (qfE (M := 150) ns HL.o n (kn : Int) S P HIr.o).1;rw [hres] at hinv;have HI2 := z_ hinv;have hih := HIH.o (kn : Int) (d + 1) S P wr g _ vs' (by have := HD.o; omega) (by have := HD.o; omega) HIr.o HBr.o HWr.o;rw [hres] at hih;have HIHC := z_ hih;have HND := HNr;have hmv : rb = true → P.length < P2.length := fun h => by
       have h2 := qgf ns n (kn : Int) S P (by rw [hres]; exact h);rw [hres] at h2;exact h2
      have HMV := z_ hmv;have HE := z_ hE;have fV := z_ (And.intro i0 i2);clear hE hih hinv hres hd3 hd2 hkn hm hroom hlt2 hkid k2 hmv HEr
      go_wp2_with fail
      refine HIHC.o.mono ?_;rintro e we ⟨rfl, hb2, hk2, zd, vs2, hl2⟩;clear m0 m1 m2 m3 OP dd1 XP XR k3
      go_upto_region 10 with fail
      have o4 := z_ (qaW hb2);have dA := z_ (KeptT.below hk2 (qaW (Below.refl _ we)))
      cases rb with
      | false =>
       have LA := z_ (hl2.below (qaW (Below.refl _ we)));have HE2 := z_ (show (if false = true then kidsW (walkW ns n) (x.f3.drop (i + 1)) (x.f2.drop (i + 1)) S2 P2 else (false, S2, P2)) = walkW ns (n + 1) (kk : Int) s p from by
        have h := HE.o;rw [if_neg (fun h => by cases h.1)] at h;rw [if_neg zbT];exact h)
       clear HE hb2 hk2 hl2 HMV;refine qbY (n := 33) (S := fun w' => True) (ds := []) #[false, false, false, false, false, false, false, false, false, false, false, false, false, false, false, false, false, false, false, false, false, false, false, false, false, false, false, false, false, false, false, false, false] zbS rfl rfl trivial (fun hHeld => ?_);refine qbg walkS.tab10 walkS.qjv (fun l4 R6 => ?_);generalize we.drew = wd at LA o4 dA ⊢;refine qcd [0, 1, 2, 3, 4, 5, 6, 7, 8, 9, 10, 11, 12, 13, 14, 15, 16, 17, 18, 19, 20, 21, 22, 23, 24, 25, 26, 27, 28, 29, 30, 31, 32] (fun E8 b a w' => a = qa7 E8 b [(0, 116, .pointer (some ⟨g, 0, none⟩)), (1, 117, .pointer (some ⟨g, 0, none⟩)), (2, 118, .pointer (some ⟨g, 0, none⟩)), (3, 119, .pointer (some ⟨g, 3, none⟩)), (4, 120, .bool false), (5, 121, .bool false), (6, 122, undef), (7, 123, undef), (8, 124, undef), (9, 125, undef), (10, 126, undef), (11, 127, undef), (12, 128, undef), (13, 129, .bool false), (14, 130, .bool false), (15, 131, undef), (16, 132, undef), (17, 133, undef), (18, 134, undef), (19, 135, undef), (20, 136, undef), (21, 137, undef), (22, 138, undef), (23, 139, undef), (24, 140, undef), (25, 141, undef), (26, 142, undef), (27, 143, undef), (28, 144, undef), (29, 145, .bool false), (30, 146, .pointer (some ⟨g, 0, none⟩)), (31, 147, .pointer (some ⟨g, 3, none⟩))] ∧ (b 32 = false → LkAt w0 w' g (.slice (some adh) ns.length ch) zd vs2 false P2 S2) ∧ (b 32 = true → LkAt w0 w' g (.slice (some adh) ns.length ch) zd vs2 false P2 S2) ∧ (Below w0.heap.size w0 w') ∧ (KeptT wr w' g)) l4.o R6.o zbS zbS ?_ ?_ ?_
       ·exact ⟨zaO, fun _ => LA.o, fun h_ => absurd h_ zbT, o4.o, dA.o⟩
       ·skip;clear o4 dA LA;refine qaa ?_ ?_
        ·rintro b a w' ⟨ha, QT⟩ hb_ hon hoff;refine ⟨_, rfl, fun K hK => ?_⟩;have e0 : a.tmps[0]? = some (.pointer (some ⟨g, 0, none⟩)) := zbu;replace ha := z_ ha;refine qae (w1 := w') (v := .pointer (some ⟨g, 0, none⟩)) zbX rfl zbt ?_;refine hK.o _ _ ⟨zbg, QT⟩
        refine qaa ?_ ?_
        ·rintro b a w' ⟨ha, QT⟩ hb_ hon hoff;refine ⟨_, rfl, fun K hK => ?_⟩;have e0 : a.tmps[0]? = some (.pointer (some ⟨g, 0, none⟩)) := zbu;replace ha := z_ ha;refine qae (w1 := w') (v := .pointer (some ⟨g, 0, none⟩)) zbX rfl zbt ?_;refine hK.o _ _ ⟨zbh, QT⟩
        refine qaa ?_ ?_
        ·rintro b a w' ⟨ha, QT⟩ hb_ hon hoff;refine ⟨_, rfl, fun K hK => ?_⟩;have e117 : a.tmps[117]? = some (.pointer (some ⟨g, 0, none⟩)) := zon_ ha 1 rfl rfl hon;replace ha := z_ ha;refine qae (w1 := w') (v := .pointer (some ⟨g, 0, none⟩)) zbX rfl zbt ?_;refine hK.o _ _ ⟨zbi, QT⟩
        refine qaa ?_ ?_
        ·rintro b a w' ⟨ha, QT⟩ hb_ hon hoff;refine ⟨_, rfl, fun K hK => ?_⟩;have e118 : a.tmps[118]? = some (.pointer (some ⟨g, 0, none⟩)) := zon_ ha 2 rfl rfl hon;replace ha := z_ ha;refine qae (w1 := w') (v := .pointer (some ⟨g, 3, none⟩)) zbX rfl zbt ?_;refine hK.o _ _ ⟨zbj, QT⟩
        refine qaa ?_ ?_
        ·rintro b a w' ⟨ha, QT⟩ hb_ hon hoff;refine ⟨_, rfl, fun K hK => ?_⟩;have e119 : a.tmps[119]? = some (.pointer (some ⟨g, 3, none⟩)) := zon_ ha 3 rfl rfl hon;replace ha := z_ ha;have LA := z_ (QT.1 (hoff 32 zbS));have OH := qbz LA.o.2.1;have iP := OH.2.2.2;refine qae (w1 := w') (v := .bool false) zbX rfl zbt ?_;refine hK.o _ _ ⟨zbk, QT⟩
        refine qaa ?_ ?_
        ·rintro b a w' ⟨ha, QT⟩ hb_ hon hoff;refine ⟨_, rfl, fun K hK => ?_⟩;have e120 : a.tmps[120]? = some (.bool false) := zon_ ha 4 rfl rfl hon;replace ha := z_ ha;refine qae (w1 := w') (v := .bool false) zbX rfl zbt ?_;refine hK.o _ _ ⟨zbl, QT⟩
        refine qaa ?_ ?_
        ·rintro b a w' ⟨ha, P1, G4, D0, Q0⟩ hb_ hon hoff;refine ⟨_, rfl, fun K hK => ?_⟩;have W7 : a.tmps[121]? = some (.bool false) := zon_ ha 5 rfl rfl hon;replace ha := z_ ha;refine off_ (qaL rfl rfl rfl (W7.trans zbC)) ?_;refine hK.o _ _ ⟨zbm, P1, nf_ (hoff 32 zbS), D0, Q0⟩
        refine qaa ?_ ?_
        ·rintro b a w' ⟨ha, P1, G4, D0, Q0⟩ hb_ hon hoff;refine ⟨_, rfl, fun K hK => ?_⟩;have W7 : a.tmps[121]? = some (.bool false) := zon_ ha 5 rfl rfl hon;replace ha := z_ ha;refine off_ (qaL rfl rfl rfl (W7.trans zbC)) ?_;refine hK.o _ _ ⟨zbn, P1, nf_ (hoff 32 zbS), D0, Q0⟩
        refine qaa ?_ ?_
        ·rintro b a w' ⟨ha, P1, G4, D0, Q0⟩ hb_ hon hoff;refine ⟨_, rfl, fun K hK => ?_⟩;have W7 : a.tmps[121]? = some (.bool false) := zon_ ha 5 rfl rfl hon;replace ha := z_ ha;refine off_ (qaL rfl rfl rfl (W7.trans zbC)) ?_;refine hK.o _ _ ⟨zbo, P1, nf_ (hoff 32 zbS), D0, Q0⟩
        refine qaa ?_ ?_
        ·rintro b a w' ⟨ha, P1, G4, D0, Q0⟩ hb_ hon hoff;refine ⟨_, rfl, fun K hK => ?_⟩;have W7 : a.tmps[121]? = some (.bool false) := zon_ ha 5 rfl rfl hon;replace ha := z_ ha;refine off_ (qaL rfl rfl rfl (W7.trans zbC)) ?_;refine hK.o _ _ ⟨zbp, P1, nf_ (hoff 32 zbS), D0, Q0⟩
        refine qaa ?_ ?_
        ·rintro b a w' ⟨ha, P1, G4, D0, Q0⟩ hb_ hon hoff;refine ⟨_, rfl, fun K hK => ?_⟩;have W7 : a.tmps[121]? = some (.bool false) := zon_ ha 5 rfl rfl hon;replace ha := z_ ha;refine off_ (qaL rfl rfl rfl (W7.trans zbC)) ?_;refine hK.o _ _ ⟨zaP, P1, nf_ (hoff 32 zbS), D0, Q0⟩
        refine qaa ?_ ?_
        ·rintro b a w' ⟨ha, P1, G4, D0, Q0⟩ hb_ hon hoff;refine ⟨_, rfl, fun K hK => ?_⟩;have W7 : a.tmps[121]? = some (.bool false) := zon_ ha 5 rfl rfl hon;replace ha := z_ ha;refine off_ (qaL rfl rfl rfl (W7.trans zbC)) ?_;refine hK.o _ _ ⟨zaQ, P1, nf_ (hoff 32 zbS), D0, Q0⟩
        refine qaa ?_ ?_
        ·rintro b a w' ⟨ha, P1, G4, D0, Q0⟩ hb_ hon hoff;refine ⟨_, rfl, fun K hK => ?_⟩;have W7 : a.tmps[121]? = some (.bool false) := zon_ ha 5 rfl rfl hon;replace ha := z_ ha;refine off_ (qaL rfl rfl rfl (W7.trans zbC)) ?_;refine hK.o _ _ ⟨zaR, P1, nf_ (hoff 32 zbS), D0, Q0⟩
        refine qaa ?_ ?_
        ·rintro b a w' ⟨ha, QT⟩ hb_ hon hoff;refine ⟨_, rfl, fun K hK => ?_⟩;have W7 : a.tmps[121]? = some (.bool false) := zon_ ha 5 rfl rfl hon;have e128 : a.tmps[128]? = some (undef) := zon_ ha 12 rfl rfl hon;replace ha := z_ ha;refine qae (w1 := w') (v := .bool false) zbX rfl zbt ?_;refine hK.o _ _ ⟨zaS, QT⟩
        refine qaa ?_ ?_
        ·rintro b a w' ⟨ha, QT⟩ hb_ hon hoff;refine ⟨_, rfl, fun K hK => ?_⟩;have e129 : a.tmps[129]? = some (.bool false) := zon_ ha 13 rfl rfl hon;replace ha := z_ ha;refine qae (w1 := w') (v := .bool false) zbX rfl zbt ?_;refine hK.o _ _ ⟨zaT, QT⟩
        refine qaa ?_ ?_
        ·rintro b a w' ⟨ha, P1, G4, D0, Q0⟩ hb_ hon hoff;refine ⟨_, rfl, fun K hK => ?_⟩;have m4 : a.tmps[130]? = some (.bool false) := zon_ ha 14 rfl rfl hon;replace ha := z_ ha;refine off_ (qaL rfl rfl rfl (m4.trans zbC)) ?_;refine hK.o _ _ ⟨zaU, P1, nf_ (hoff 32 zbS), D0, Q0⟩
        refine qaa ?_ ?_
        ·rintro b a w' ⟨ha, P1, G4, D0, Q0⟩ hb_ hon hoff;refine ⟨_, rfl, fun K hK => ?_⟩;have m4 : a.tmps[130]? = some (.bool false) := zon_ ha 14 rfl rfl hon;replace ha := z_ ha;refine off_ (qaL rfl rfl rfl (m4.trans zbC)) ?_;refine hK.o _ _ ⟨zaV, P1, nf_ (hoff 32 zbS), D0, Q0⟩
        refine qaa ?_ ?_
        ·rintro b a w' ⟨ha, P1, G4, D0, Q0⟩ hb_ hon hoff;refine ⟨_, rfl, fun K hK => ?_⟩;have m4 : a.tmps[130]? = some (.bool false) := zon_ ha 14 rfl rfl hon;replace ha := z_ ha;refine off_ (qaL rfl rfl rfl (m4.trans zbC)) ?_;refine hK.o _ _ ⟨zaW, P1, nf_ (hoff 32 zbS), D0, Q0⟩
        refine qaa ?_ ?_
        ·rintro b a w' ⟨ha, P1, G4, D0, Q0⟩ hb_ hon hoff;refine ⟨_, rfl, fun K hK => ?_⟩;have m4 : a.tmps[130]? = some (.bool false) := zon_ ha 14 rfl rfl hon;replace ha := z_ ha;refine off_ (qaL rfl rfl rfl (m4.trans zbC)) ?_;refine hK.o _ _ ⟨zaX, P1, nf_ (hoff 32 zbS), D0, Q0⟩
        refine qaa ?_ ?_
        ·rintro b a w' ⟨ha, P1, G4, D0, Q0⟩ hb_ hon hoff;refine ⟨_, rfl, fun K hK => ?_⟩;have m4 : a.tmps[130]? = some (.bool false) := zon_ ha 14 rfl rfl hon;replace ha := z_ ha;refine off_ (qaL rfl rfl rfl (m4.trans zbC)) ?_;refine hK.o _ _ ⟨zaY, P1, nf_ (hoff 32 zbS), D0, Q0⟩
        refine qaa ?_ ?_
        ·rintro b a w' ⟨ha, P1, G4, D0, Q0⟩ hb_ hon hoff;refine ⟨_, rfl, fun K hK => ?_⟩;have m4 : a.tmps[130]? = some (.bool false) := zon_ ha 14 rfl rfl hon;replace ha := z_ ha;refine off_ (qaL rfl rfl rfl (m4.trans zbC)) ?_;refine hK.o _ _ ⟨zaZ, P1, nf_ (hoff 32 zbS), D0, Q0⟩
        refine qaa ?_ ?_
        ·rintro b a w' ⟨ha, P1, G4, D0, Q0⟩ hb_ hon hoff;refine ⟨_, rfl, fun K hK => ?_⟩;have m4 : a.tmps[130]? = some (.bool false) := zon_ ha 14 rfl rfl hon;replace ha := z_ ha;refine off_ (qaL rfl rfl rfl (m4.trans zbC)) ?_;refine hK.o _ _ ⟨zba, P1, nf_ (hoff 32 zbS), D0, Q0⟩
        refine qaa ?_ ?_
        ·rintro b a w' ⟨ha, P1, G4, D0, Q0⟩ hb_ hon hoff;refine ⟨_, rfl, fun K hK => ?_⟩;have m4 : a.tmps[130]? = some (.bool false) := zon_ ha 14 rfl rfl hon;replace ha := z_ ha;refine off_ (qaL rfl rfl rfl (m4.trans zbC)) ?_;refine hK.o _ _ ⟨zbb, P1, nf_ (hoff 32 zbS), D0, Q0⟩
        refine qaa ?_ ?_
        ·rintro b a w' ⟨ha, P1, G4, D0, Q0⟩ hb_ hon hoff;refine ⟨_, rfl, fun K hK => ?_⟩;have m4 : a.tmps[130]? = some (.bool false) := zon_ ha 14 rfl rfl hon;replace ha := z_ ha;refine off_ (qaL rfl rfl rfl (m4.trans zbC)) ?_;refine hK.o _ _ ⟨zbc, P1, nf_ (hoff 32 zbS), D0, Q0⟩
        refine qaa ?_ ?_
        ·rintro b a w' ⟨ha, P1, G4, D0, Q0⟩ hb_ hon hoff;refine ⟨_, rfl, fun K hK => ?_⟩;have m4 : a.tmps[130]? = some (.bool false) := zon_ ha 14 rfl rfl hon;replace ha := z_ ha;refine off_ (qaL rfl rfl rfl (m4.trans zbC)) ?_;refine hK.o _ _ ⟨zbd, P1, nf_ (hoff 32 zbS), D0, Q0⟩
        refine qaa ?_ ?_
        ·rintro b a w' ⟨ha, P1, G4, D0, Q0⟩ hb_ hon hoff;refine ⟨_, rfl, fun K hK => ?_⟩;have m4 : a.tmps[130]? = some (.bool false) := zon_ ha 14 rfl rfl hon;replace ha := z_ ha;refine off_ (qaL rfl rfl rfl (m4.trans zbC)) ?_;refine hK.o _ _ ⟨zbe, P1, nf_ (hoff 32 zbS), D0, Q0⟩
        refine qaa ?_ ?_
        ·rintro b a w' ⟨ha, P1, G4, D0, Q0⟩ hb_ hon hoff;refine ⟨_, rfl, fun K hK => ?_⟩;have m4 : a.tmps[130]? = some (.bool false) := zon_ ha 14 rfl rfl hon;replace ha := z_ ha;refine off_ (qaL rfl rfl rfl (m4.trans zbC)) ?_;refine hK.o _ _ ⟨zbf, P1, nf_ (hoff 32 zbS), D0, Q0⟩
        refine qaa ?_ ?_
        ·rintro b a w' ⟨ha, P1, G4, D0, Q0⟩ hb_ hon hoff;refine ⟨_, rfl, fun K hK => ?_⟩;have m4 : a.tmps[130]? = some (.bool false) := zon_ ha 14 rfl rfl hon;replace ha := z_ ha;refine off_ (qaL rfl rfl rfl (m4.trans zbC)) ?_;refine hK.o _ _ ⟨(by rw [ha.o]; exact qa2 27 hb_ rfl rfl rfl), P1, nf_ (hoff 32 zbS), D0, Q0⟩
        refine qaa ?_ ?_
        ·rintro b a w' ⟨ha, P1, G4, D0, Q0⟩ hb_ hon hoff;refine ⟨_, rfl, fun K hK => ?_⟩;have m4 : a.tmps[130]? = some (.bool false) := zon_ ha 14 rfl rfl hon;replace ha := z_ ha;refine off_ (qaL rfl rfl rfl (m4.trans zbC)) ?_;refine hK.o _ _ ⟨(by rw [ha.o]; exact qa2 28 hb_ rfl rfl rfl), P1, nf_ (hoff 32 zbS), D0, Q0⟩
        refine qaa ?_ ?_
        ·rintro b a w' ⟨ha, QT⟩ hb_ hon hoff;refine ⟨_, rfl, fun K hK => ?_⟩;have m4 : a.tmps[130]? = some (.bool false) := zon_ ha 14 rfl rfl hon;have Jg : a.tmps[144]? = some (undef) := zon_ ha 28 rfl rfl hon;replace ha := z_ ha;refine qae (w1 := w') (v := .bool false) zbX rfl zbt ?_;refine hK.o _ _ ⟨(by rw [ha.o]; exact qa2 29 hb_ rfl rfl rfl), QT⟩
        refine qaa ?_ ?_
        ·rintro b a w' ⟨ha, QT⟩ hb_ hon hoff;refine ⟨_, rfl, fun K hK => ?_⟩;have e116 : a.tmps[116]? = some (.pointer (some ⟨g, 0, none⟩)) := zon_ ha 0 rfl rfl hon;replace ha := z_ ha;refine qae (w1 := w') (v := .pointer (some ⟨g, 0, none⟩)) zbX rfl zbt ?_;refine hK.o _ _ ⟨(by rw [ha.o]; exact qa2 30 hb_ rfl rfl rfl), QT⟩
        refine qaa ?_ ?_
        ·rintro b a w' ⟨ha, QT⟩ hb_ hon hoff;refine ⟨_, rfl, fun K hK => ?_⟩;have ah : a.tmps[146]? = some (.pointer (some ⟨g, 0, none⟩)) := zon_ ha 30 rfl rfl hon;replace ha := z_ ha;refine qae (w1 := w') (v := .pointer (some ⟨g, 3, none⟩)) zbX rfl zbt ?_;refine hK.o _ _ ⟨(by rw [ha.o]; exact qa2 31 hb_ rfl rfl rfl), QT⟩
        refine qaa ?_ ?_
        ·rintro b a w' ⟨ha, P1, G4, D0, Q0⟩ hb_ hon hoff;refine ⟨_, rfl, fun K hK => ?_⟩;have Vf : a.tmps[147]? = some (.pointer (some ⟨g, 3, none⟩)) := zon_ ha 31 rfl rfl hon;have Gg : a.tmps[145]? = some (.bool false) := zon_ ha 29 rfl rfl hon;replace ha := z_ ha;have LA := z_ (P1 hb_);have o4 := z_ D0;have dA := z_ Q0;have iP := (qbz LA.o.2.1).2.2.2;have QW := qab LA.o.2.1 3;refine qeR (w1 := w'.setCell ⟨g, 3, none⟩ (.bool false)) zbX rfl (by go_simp) ?_;refine hK.o _ _ ⟨zbq, fun N7 => absurd ((qa5 b 32).symm.trans N7) zbT, fun _ => LA.o.qen false, o4.o.setCell (p := ⟨g, 3, none⟩) LA.o.1 _, dA.o.set _ _⟩
        exact qbo
       rintro b a w' hall ⟨ha, P1, G4, D0, Q0⟩;clear o4 dA LA;have X2 := hall 0 zbS;have X1 := hall 1 zbS;have N2 := hall 2 zbS;have M2 := hall 3 zbS;have I2 := hall 4 zbS;have D3 := hall 5 zbS;have j3 := hall 6 zbS;have i3 := hall 7 zbS;have U2 := hall 8 zbS;have Y2 := hall 9 zbS;have D2 := hall 10 zbS;have Q2 := hall 11 zbS;have F2 := hall 12 zbS;have j4 := hall 13 zbS;have D4 := hall 14 zbS;have n6 := hall 15 zbS;have q6 := hall 16 zbS;have m6 := hall 17 zbS;have s6 := hall 18 zbS;have r6 := hall 19 zbS;have j6 := hall 20 zbS;have o6 := hall 21 zbS;have u7 := hall 22 zbS;have G9 := hall 23 zbS;have zB := hall 24 zbS;have EB := hall 25 zbS;have KB := hall 26 zbS;have zA := hall 27 zbS;have OI := hall 28 zbS;have tJ := hall 29 zbS;have AJ := hall 30 zbS;have PI := hall 31 zbS;have dH := hall 32 zbS;subst ha;simp only [qa7, X2, X1, N2, M2, I2, D3, j3, i3, U2, Y2, D2, Q2, F2, j4, D4, n6, q6, m6, s6, r6, j6, o6, u7, G9, zB, EB, KB, zA, OI, tJ, AJ, PI, dH, if_true, Act.put, List.setIfInBounds_toArray, List.set_cons_zero, List.set_cons_succ];clear P1;have LB := z_ (G4 dH);clear G4;have o4 := z_ D0;clear D0;have dA := z_ Q0;clear Q0 hall X2 X1 N2 M2 I2 D3 j3 i3 U2 Y2 D2 Q2 F2 j4 D4 n6 q6 m6 s6 r6 j6 o6 u7 G9 zB EB KB zA OI tJ AJ PI dH
       go_wp2_with fail
       go_roundw
       case rel => exact ⟨i + 1, false, S2, P2, _, _, zbV, zbU, HI2, LB, o4, ⟨HKr.o.trans dA.o⟩, ⟨dA.o _ _ _ HND.o HGN.o zbT zbT⟩, HE2⟩
       case measure => simp [intOf]; omega
      | true =>
       have HMO := z_ (HMV.o rfl);obtain ⟨gp, cp, DK, _⟩ := Kd.qcJ hl2.2.2.2 (by have := HMO.o; show 0 < P2.length; omega);subst DK;have LA := z_ (hl2.below (qaW (Below.refl _ we)));obtain ⟨ky, hky⟩ : ∃ ky, ky = qcR P2 P.length := ⟨_, rfl⟩
       have HKY := z_ hky.symm;obtain ⟨be, hbe⟩ : ∃ be, (ky.toList == m.toList) = be := ⟨_, rfl⟩
       have HEQ := z_ hbe;have HE2 := z_ (show (if be = true then kidsW (walkW ns n) (x.f3.drop (i + 1)) (x.f2.drop (i + 1)) S2 P2 else (false, S2, P2)) = walkW ns (n + 1) (kk : Int) s p from by
        have h := HE.o
        cases be with
        | true =>
         rw [if_pos ⟨rfl, HMO.o, by show (qcR P2 P.length).toList = _; rw [← hky]; exact beq_iff_eq.1 hbe⟩] at h;rw [if_pos rfl];exact h
        | false =>
         rw [if_neg (fun h => by have h2 : (qcR P2 P.length).toList = m.toList := h.2.2; rw [← hky] at h2; rw [h2, beq_self_eq_true] at hbe; cases hbe)] at h;rw [if_neg zbT];exact h)
       clear HE hb2 hk2 hl2 HMV hky hbe;refine qbY (n := 33) (S := fun w' => True) (ds := []) #[false, false, false, false, false, false, false, false, false, false, false, false, false, false, false, false, false, false, false, false, false, false, false, false, false, false, false, false, false, false, false, false, false] zbS rfl rfl trivial (fun hHeld => ?_);refine qbg walkS.tab10 walkS.qjv (fun l4 R6 => ?_);generalize we.drew = wd at LA o4 dA ⊢;refine qcd [0, 1, 2, 3, 4, 5, 6, 7, 8, 9, 10, 11, 12, 13, 14, 15, 16, 17, 18, 19, 20, 21, 22, 23, 24, 25, 26, 27, 28, 29, 30, 31, 32] (fun E8 b a w' => a = qa7 E8 b [(0, 116, .pointer (some ⟨g, 0, none⟩)), (1, 117, .pointer (some ⟨g, 0, none⟩)), (2, 118, .pointer (some ⟨g, 0, none⟩)), (3, 119, .pointer (some ⟨g, 3, none⟩)), (4, 120, .bool true), (5, 121, .bool true), (6, 122, .int .i64 (P.length : Int)), (7, 123, .pointer (some ⟨g, 0, none⟩)), (8, 124, .pointer (some ⟨g, 0, none⟩)), (9, 125, .pointer (some ⟨g, 1, none⟩)), (10, 126, .slice (some ⟨gp, 0, none⟩) P2.length cp), (11, 127, .int .i64 (P2.length : Int)), (12, 128, .bool true), (13, 129, .bool true), (14, 130, .bool true), (15, 131, .pointer (some ⟨g, 0, none⟩)), (16, 132, .pointer (some ⟨g, 0, none⟩)), (17, 133, .pointer (some ⟨g, 1, none⟩)), (18, 134, .slice (some ⟨gp, 0, none⟩) P2.length cp), (19, 135, .int .i64 (P.length : Int)), (20, 136, .pointer (some ⟨gp, P.length * 2, none⟩)), (21, 137, .pointer (some ⟨gp, P.length * 2, none⟩)), (22, 138, .string ky), (23, 139, .pointer (some ⟨nb, 2, none⟩)), (24, 140, .slice (some DG) x.f2.length b2), (25, 141, .int .i64 (i : Int)), (26, 142, .pointer (some (DG.add i))), (27, 143, .string m), (28, 144, .bool be), (29, 145, .bool be), (30, 146, .pointer (some ⟨g, 0, none⟩)), (31, 147, .pointer (some ⟨g, 3, none⟩))] ∧ (b 32 = false → LkAt w0 w' g (.slice (some adh) ns.length ch) (.slice (some ⟨gp, 0, none⟩) P2.length cp) vs2 true P2 S2) ∧ (b 32 = true → LkAt w0 w' g (.slice (some adh) ns.length ch) (.slice (some ⟨gp, 0, none⟩) P2.length cp) vs2 be P2 S2) ∧ (Below w0.heap.size w0 w') ∧ (KeptT wr w' g)) l4.o R6.o zbS zbS ?_ ?_ ?_
       ·exact ⟨zaO, fun _ => LA.o, fun h_ => absurd h_ zbT, o4.o, dA.o⟩
       ·skip;clear o4 dA LA;refine qaa ?_ ?_
        ·rintro b a w' ⟨ha, QT⟩ hb_ hon hoff;refine ⟨_, rfl, fun K hK => ?_⟩;have e0 : a.tmps[0]? = some (.pointer (some ⟨g, 0, none⟩)) := zbu;replace ha := z_ ha;refine qae (w1 := w') (v := .pointer (some ⟨g, 0, none⟩)) zbX rfl zbt ?_;refine hK.o _ _ ⟨zbg, QT⟩
        refine qaa ?_ ?_
        ·rintro b a w' ⟨ha, QT⟩ hb_ hon hoff;refine ⟨_, rfl, fun K hK => ?_⟩;have e0 : a.tmps[0]? = some (.pointer (some ⟨g, 0, none⟩)) := zbu;replace ha := z_ ha;refine qae (w1 := w') (v := .pointer (some ⟨g, 0, none⟩)) zbX rfl zbt ?_;refine hK.o _ _ ⟨zbh, QT⟩
        refine qaa ?_ ?_
        ·rintro b a w' ⟨ha, QT⟩ hb_ hon hoff;refine ⟨_, rfl, fun K hK => ?_⟩;have e117 : a.tmps[117]? = some (.pointer (some ⟨g, 0, none⟩)) := zon_ ha 1 rfl rfl hon;replace ha := z_ ha;refine qae (w1 := w') (v := .pointer (some ⟨g, 0, none⟩)) zbX rfl zbt ?_;refine hK.o _ _ ⟨zbi, QT⟩
        refine qaa ?_ ?_
        ·rintro b a w' ⟨ha, QT⟩ hb_ hon hoff;refine ⟨_, rfl, fun K hK => ?_⟩;have e118 : a.tmps[118]? = some (.pointer (some ⟨g, 0, none⟩)) := zon_ ha 2 rfl rfl hon;replace ha := z_ ha;refine qae (w1 := w') (v := .pointer (some ⟨g, 3, none⟩)) zbX rfl zbt ?_;refine hK.o _ _ ⟨zbj, QT⟩
        refine qaa ?_ ?_
        ·rintro b a w' ⟨ha, QT⟩ hb_ hon hoff;refine ⟨_, rfl, fun K hK => ?_⟩;have e119 : a.tmps[119]? = some (.pointer (some ⟨g, 3, none⟩)) := zon_ ha 3 rfl rfl hon;replace ha := z_ ha;have LA := z_ (QT.1 (hoff 32 zbS));have OH := qbz LA.o.2.1;have iP := OH.2.2.2;refine qae (w1 := w') (v := .bool true) zbX rfl zbt ?_;refine hK.o _ _ ⟨zbk, QT⟩
        refine qaa ?_ ?_
        ·rintro b a w' ⟨ha, QT⟩ hb_ hon hoff;refine ⟨_, rfl, fun K hK => ?_⟩;have e120 : a.tmps[120]? = some (.bool true) := zon_ ha 4 rfl rfl hon;replace ha := z_ ha;refine qae (w1 := w') (v := .bool true) zbX rfl zbt ?_;refine hK.o _ _ ⟨zbl, QT⟩
        refine qaa ?_ ?_
        ·rintro b a w' ⟨ha, QT⟩ hb_ hon hoff;refine ⟨_, rfl, fun K hK => ?_⟩;have e8 : a.tmps[8]? = some (.int .i64 (P.length : Int)) := zbu;have W7 : a.tmps[121]? = some (.bool true) := zon_ ha 5 rfl rfl hon;replace ha := z_ ha;refine qae (w1 := w') (v := .int .i64 (P.length : Int)) (qaR rfl rfl rfl (W7.trans zbC)) rfl zbt ?_;refine hK.o _ _ ⟨zbm, QT⟩
        refine qaa ?_ ?_
        ·rintro b a w' ⟨ha, QT⟩ hb_ hon hoff;refine ⟨_, rfl, fun K hK => ?_⟩;have e0 : a.tmps[0]? = some (.pointer (some ⟨g, 0, none⟩)) := zbu;have W7 : a.tmps[121]? = some (.bool true) := zon_ ha 5 rfl rfl hon;replace ha := z_ ha;refine qae (w1 := w') (v := .pointer (some ⟨g, 0, none⟩)) (qaR rfl rfl rfl (W7.trans zbC)) rfl zbt ?_;refine hK.o _ _ ⟨zbn, QT⟩
        refine qaa ?_ ?_
        ·rintro b a w' ⟨ha, QT⟩ hb_ hon hoff;refine ⟨_, rfl, fun K hK => ?_⟩;have e123 : a.tmps[123]? = some (.pointer (some ⟨g, 0, none⟩)) := zon_ ha 7 rfl rfl hon;have W7 : a.tmps[121]? = some (.bool true) := zon_ ha 5 rfl rfl hon;replace ha := z_ ha;refine qae (w1 := w') (v := .pointer (some ⟨g, 0, none⟩)) (qaR rfl rfl rfl (W7.trans zbC)) rfl zbt ?_;refine hK.o _ _ ⟨zbo, QT⟩
        refine qaa ?_ ?_
        ·rintro b a w' ⟨ha, QT⟩ hb_ hon hoff;refine ⟨_, rfl, fun K hK => ?_⟩;have e124 : a.tmps[124]? = some (.pointer (some ⟨g, 0, none⟩)) := zon_ ha 8 rfl rfl hon;have W7 : a.tmps[121]? = some (.bool true) := zon_ ha 5 rfl rfl hon;replace ha := z_ ha;refine qae (w1 := w') (v := .pointer (some ⟨g, 1, none⟩)) (qaR rfl rfl rfl (W7.trans zbC)) rfl zbt ?_;refine hK.o _ _ ⟨zbp, QT⟩
        refine qaa ?_ ?_
        ·rintro b a w' ⟨ha, QT⟩ hb_ hon hoff;refine ⟨_, rfl, fun K hK => ?_⟩;have e125 : a.tmps[125]? = some (.pointer (some ⟨g, 1, none⟩)) := zon_ ha 9 rfl rfl hon;have W7 : a.tmps[121]? = some (.bool true) := zon_ ha 5 rfl rfl hon;replace ha := z_ ha;have LA := z_ (QT.1 (hoff 32 zbS));have ig := (qbz LA.o.2.1).2.1;refine qae (w1 := w') (v := .slice (some ⟨gp, 0, none⟩) P2.length cp) (qaR rfl rfl rfl (W7.trans zbC)) rfl zbt ?_;refine hK.o _ _ ⟨zaP, QT⟩
        refine qaa ?_ ?_
        ·rintro b a w' ⟨ha, QT⟩ hb_ hon hoff;refine ⟨_, rfl, fun K hK => ?_⟩;have e126 : a.tmps[126]? = some (.slice (some ⟨gp, 0, none⟩) P2.length cp) := zon_ ha 10 rfl rfl hon;have W7 : a.tmps[121]? = some (.bool true) := zon_ ha 5 rfl rfl hon;replace ha := z_ ha;refine qae (w1 := w') (v := .int .i64 (P2.length : Int)) (qaR rfl rfl rfl (W7.trans zbC)) rfl zbt ?_;refine hK.o _ _ ⟨zaQ, QT⟩
        refine qaa ?_ ?_
        ·rintro b a w' ⟨ha, QT⟩ hb_ hon hoff;refine ⟨_, rfl, fun K hK => ?_⟩;have e122 : a.tmps[122]? = some (.int .i64 (P.length : Int)) := zon_ ha 6 rfl rfl hon;have e127 : a.tmps[127]? = some (.int .i64 (P2.length : Int)) := zon_ ha 11 rfl rfl hon;have W7 : a.tmps[121]? = some (.bool true) := zon_ ha 5 rfl rfl hon;replace ha := z_ ha;have lW := HMO.o;refine qae (w1 := w') (v := .bool true) (qaR rfl rfl rfl (W7.trans zbC)) rfl zbt ?_;refine hK.o _ _ ⟨zaR, QT⟩
        refine qaa ?_ ?_
        ·rintro b a w' ⟨ha, QT⟩ hb_ hon hoff;refine ⟨_, rfl, fun K hK => ?_⟩;have W7 : a.tmps[121]? = some (.bool true) := zon_ ha 5 rfl rfl hon;have e128 : a.tmps[128]? = some (.bool true) := zon_ ha 12 rfl rfl hon;replace ha := z_ ha;refine qae (w1 := w') (v := .bool true) zbX rfl zbt ?_;refine hK.o _ _ ⟨zaS, QT⟩
        refine qaa ?_ ?_
        ·rintro b a w' ⟨ha, QT⟩ hb_ hon hoff;refine ⟨_, rfl, fun K hK => ?_⟩;have e129 : a.tmps[129]? = some (.bool true) := zon_ ha 13 rfl rfl hon;replace ha := z_ ha;refine qae (w1 := w') (v := .bool true) zbX rfl zbt ?_;refine hK.o _ _ ⟨zaT, QT⟩
        refine qaa ?_ ?_
        ·rintro b a w' ⟨ha, QT⟩ hb_ hon hoff;refine ⟨_, rfl, fun K hK => ?_⟩;have e0 : a.tmps[0]? = some (.pointer (some ⟨g, 0, none⟩)) := zbu;have m4 : a.tmps[130]? = some (.bool true) := zon_ ha 14 rfl rfl hon;replace ha := z_ ha;refine qae (w1 := w') (v := .pointer (some ⟨g, 0, none⟩)) (qaR rfl rfl rfl (m4.trans zbC)) rfl zbt ?_;refine hK.o _ _ ⟨zaU, QT⟩
        refine qaa ?_ ?_
        ·rintro b a w' ⟨ha, QT⟩ hb_ hon hoff;refine ⟨_, rfl, fun K hK => ?_⟩;have e131 : a.tmps[131]? = some (.pointer (some ⟨g, 0, none⟩)) := zon_ ha 15 rfl rfl hon;have m4 : a.tmps[130]? = some (.bool true) := zon_ ha 14 rfl rfl hon;replace ha := z_ ha;refine qae (w1 := w') (v := .pointer (some ⟨g, 0, none⟩)) (qaR rfl rfl rfl (m4.trans zbC)) rfl zbt ?_;refine hK.o _ _ ⟨zaV, QT⟩
        refine qaa ?_ ?_
        ·rintro b a w' ⟨ha, QT⟩ hb_ hon hoff;refine ⟨_, rfl, fun K hK => ?_⟩;have e132 : a.tmps[132]? = some (.pointer (some ⟨g, 0, none⟩)) := zon_ ha 16 rfl rfl hon;have m4 : a.tmps[130]? = some (.bool true) := zon_ ha 14 rfl rfl hon;replace ha := z_ ha;refine qae (w1 := w') (v := .pointer (some ⟨g, 1, none⟩)) (qaR rfl rfl rfl (m4.trans zbC)) rfl zbt ?_;refine hK.o _ _ ⟨zaW, QT⟩
        refine qaa ?_ ?_
        ·rintro b a w' ⟨ha, QT⟩ hb_ hon hoff;refine ⟨_, rfl, fun K hK => ?_⟩;have e133 : a.tmps[133]? = some (.pointer (some ⟨g, 1, none⟩)) := zon_ ha 17 rfl rfl hon;have m4 : a.tmps[130]? = some (.bool true) := zon_ ha 14 rfl rfl hon;replace ha := z_ ha;have LA := z_ (QT.1 (hoff 32 zbS));have ig := (qbz LA.o.2.1).2.1;refine qae (w1 := w') (v := .slice (some ⟨gp, 0, none⟩) P2.length cp) (qaR rfl rfl rfl (m4.trans zbC)) rfl zbt ?_;refine hK.o _ _ ⟨zaX, QT⟩
        refine qaa ?_ ?_
        ·rintro b a w' ⟨ha, QT⟩ hb_ hon hoff;refine ⟨_, rfl, fun K hK => ?_⟩;have e8 : a.tmps[8]? = some (.int .i64 (P.length : Int)) := zbu;have m4 : a.tmps[130]? = some (.bool true) := zon_ ha 14 rfl rfl hon;replace ha := z_ ha;refine qae (w1 := w') (v := .int .i64 (P.length : Int)) (qaR rfl rfl rfl (m4.trans zbC)) rfl zbt ?_;refine hK.o _ _ ⟨zaY, QT⟩
        refine qaa ?_ ?_
        ·rintro b a w' ⟨ha, QT⟩ hb_ hon hoff;refine ⟨_, rfl, fun K hK => ?_⟩;have e134 : a.tmps[134]? = some (.slice (some ⟨gp, 0, none⟩) P2.length cp) := zon_ ha 18 rfl rfl hon;have e135 : a.tmps[135]? = some (.int .i64 (P.length : Int)) := zon_ ha 19 rfl rfl hon;have m4 : a.tmps[130]? = some (.bool true) := zon_ ha 14 rfl rfl hon;replace ha := z_ ha;have lW : (P.length : Int) < (P2.length : Int) := by have := HMO.o; omega
         have rX : 0 ≤ (P.length : Int) := zbV;refine qae (w1 := w') (v := .pointer (some ⟨gp, P.length * 2, none⟩)) (qaR rfl rfl rfl (m4.trans zbC)) rfl zbt ?_;refine hK.o _ _ ⟨zaZ, QT⟩
        refine qaa ?_ ?_
        ·rintro b a w' ⟨ha, QT⟩ hb_ hon hoff;refine ⟨_, rfl, fun K hK => ?_⟩;have e136 : a.tmps[136]? = some (.pointer (some ⟨gp, P.length * 2, none⟩)) := zon_ ha 20 rfl rfl hon;have m4 : a.tmps[130]? = some (.bool true) := zon_ ha 14 rfl rfl hon;replace ha := z_ ha;refine qae (w1 := w') (v := .pointer (some ⟨gp, P.length * 2, none⟩)) (qaR rfl rfl rfl (m4.trans zbC)) rfl zbt ?_;refine hK.o _ _ ⟨zba, QT⟩
        refine qaa ?_ ?_
        ·rintro b a w' ⟨ha, QT⟩ hb_ hon hoff;refine ⟨_, rfl, fun K hK => ?_⟩;have e137 : a.tmps[137]? = some (.pointer (some ⟨gp, P.length * 2, none⟩)) := zon_ ha 21 rfl rfl hon;have m4 : a.tmps[130]? = some (.bool true) := zon_ ha 14 rfl rfl hon;replace ha := z_ ha;have LA := z_ (QT.1 (hoff 32 zbS));have dG := qfj LA.o.2.2.2 (j := P.length) HMO.o;rw [HKY.o] at dG;refine qae (w1 := w') (v := .string ky) (qaR rfl rfl rfl (m4.trans zbC)) rfl zbt ?_;refine hK.o _ _ ⟨zbb, QT⟩
        refine qaa ?_ ?_
        ·rintro b a w' ⟨ha, QT⟩ hb_ hon hoff;refine ⟨_, rfl, fun K hK => ?_⟩;have e6 : a.tmps[6]? = some (.pointer (some ⟨nb, 0, none⟩)) := zbu;have m4 : a.tmps[130]? = some (.bool true) := zon_ ha 14 rfl rfl hon;replace ha := z_ ha;refine qae (w1 := w') (v := .pointer (some ⟨nb, 2, none⟩)) (qaR rfl rfl rfl (m4.trans zbC)) rfl zbt ?_;refine hK.o _ _ ⟨zbc, QT⟩
        refine qaa ?_ ?_
        ·rintro b a w' ⟨ha, QT⟩ hb_ hon hoff;refine ⟨_, rfl, fun K hK => ?_⟩;have e139 : a.tmps[139]? = some (.pointer (some ⟨nb, 2, none⟩)) := zon_ ha 23 rfl rfl hon;have m4 : a.tmps[130]? = some (.bool true) := zon_ ha 14 rfl rfl hon;replace ha := z_ ha;have dA := z_ QT.2.2.2;have dG := qac (dA.o _ _ _ HND.o HGN.o zbT zbT) 2;simp only [List.getElem?_toArray, List.getElem?_cons_zero, List.getElem?_cons_succ] at dG;refine qae (w1 := w') (v := .slice (some DG) x.f2.length b2) (qaR rfl rfl rfl (m4.trans zbC)) rfl zbt ?_;refine hK.o _ _ ⟨zbd, QT⟩
        refine qaa ?_ ?_
        ·rintro b a w' ⟨ha, QT⟩ hb_ hon hoff;refine ⟨_, rfl, fun K hK => ?_⟩;have e7 : a.tmps[7]? = some (.int .i64 (i : Int)) := zbu;have m4 : a.tmps[130]? = some (.bool true) := zon_ ha 14 rfl rfl hon;replace ha := z_ ha;refine qae (w1 := w') (v := .int .i64 (i : Int)) (qaR rfl rfl rfl (m4.trans zbC)) rfl zbt ?_;refine hK.o _ _ ⟨zbe, QT⟩
        refine qaa ?_ ?_
        ·rintro b a w' ⟨ha, QT⟩ hb_ hon hoff;refine ⟨_, rfl, fun K hK => ?_⟩;have SZ : a.tmps[140]? = some (.slice (some DG) x.f2.length b2) := zon_ ha 24 rfl rfl hon;have e141 : a.tmps[141]? = some (.int .i64 (i : Int)) := zon_ ha 25 rfl rfl hon;have m4 : a.tmps[130]? = some (.bool true) := zon_ ha 14 rfl rfl hon;replace ha := z_ ha;have xY := fV.o;refine qae (w1 := w') (v := .pointer (some (DG.add i))) (qaR rfl rfl rfl (m4.trans zbC)) rfl zbt ?_;refine hK.o _ _ ⟨zbf, QT⟩
        refine qaa ?_ ?_
        ·rintro b a w' ⟨ha, QT⟩ hb_ hon hoff;refine ⟨_, rfl, fun K hK => ?_⟩;have e142 : a.tmps[142]? = some (.pointer (some (DG.add i))) := zon_ ha 26 rfl rfl hon;have m4 : a.tmps[130]? = some (.bool true) := zon_ ha 14 rfl rfl hon;replace ha := z_ ha;have o4 := z_ QT.2.2.1;have dG := (o4.o.cell (World.block_lt_of_cell? w0 _ K2.o)).trans K2.o;refine qae (w1 := w') (v := .string m) (qaR rfl rfl rfl (m4.trans zbC)) rfl zbt ?_;refine hK.o _ _ ⟨(by rw [ha.o]; exact qa2 27 hb_ rfl rfl rfl), QT⟩
        refine qaa ?_ ?_
        ·rintro b a w' ⟨ha, QT⟩ hb_ hon hoff;refine ⟨_, rfl, fun K hK => ?_⟩;have e138 : a.tmps[138]? = some (.string ky) := zon_ ha 22 rfl rfl hon;have e143 : a.tmps[143]? = some (.string m) := zon_ ha 27 rfl rfl hon;have m4 : a.tmps[130]? = some (.bool true) := zon_ ha 14 rfl rfl hon;replace ha := z_ ha;have dG := HEQ.o;refine qae (w1 := w') (v := .bool be) (qaR rfl rfl rfl (m4.trans zbC)) rfl zbt ?_;refine hK.o _ _ ⟨(by rw [ha.o]; exact qa2 28 hb_ rfl rfl rfl), QT⟩
        refine qaa ?_ ?_
        ·rintro b a w' ⟨ha, QT⟩ hb_ hon hoff;refine ⟨_, rfl, fun K hK => ?_⟩;have m4 : a.tmps[130]? = some (.bool true) := zon_ ha 14 rfl rfl hon;have Jg : a.tmps[144]? = some (.bool be) := zon_ ha 28 rfl rfl hon;replace ha := z_ ha;refine qae (w1 := w') (v := .bool be) zbX rfl zbt ?_;refine hK.o _ _ ⟨(by rw [ha.o]; exact qa2 29 hb_ rfl rfl rfl), QT⟩
        refine qaa ?_ ?_
        ·rintro b a w' ⟨ha, QT⟩ hb_ hon hoff;refine ⟨_, rfl, fun K hK => ?_⟩;have e116 : a.tmps[116]? = some (.pointer (some ⟨g, 0, none⟩)) := zon_ ha 0 rfl rfl hon;replace ha := z_ ha;refine qae (w1 := w') (v := .pointer (some ⟨g, 0, none⟩)) zbX rfl zbt ?_;refine hK.o _ _ ⟨(by rw [ha.o]; exact qa2 30 hb_ rfl rfl rfl), QT⟩
        refine qaa ?_ ?_
        ·rintro b a w' ⟨ha, QT⟩ hb_ hon hoff;refine ⟨_, rfl, fun K hK => ?_⟩;have ah : a.tmps[146]? = some (.pointer (some ⟨g, 0, none⟩)) := zon_ ha 30 rfl rfl hon;replace ha := z_ ha;refine qae (w1 := w') (v := .pointer (some ⟨g, 3, none⟩)) zbX rfl zbt ?_;refine hK.o _ _ ⟨(by rw [ha.o]; exact qa2 31 hb_ rfl rfl rfl), QT⟩
        refine qaa ?_ ?_
        ·rintro b a w' ⟨ha, P1, G4, D0, Q0⟩ hb_ hon hoff;refine ⟨_, rfl, fun K hK => ?_⟩;have Vf : a.tmps[147]? = some (.pointer (some ⟨g, 3, none⟩)) := zon_ ha 31 rfl rfl hon;have Gg : a.tmps[145]? = some (.bool be) := zon_ ha 29 rfl rfl hon;replace ha := z_ ha;have LA := z_ (P1 hb_);have o4 := z_ D0;have dA := z_ Q0;have iP := (qbz LA.o.2.1).2.2.2;have QW := qab LA.o.2.1 3;refine qeR (w1 := w'.setCell ⟨g, 3, none⟩ (.bool be)) zbX rfl (by go_simp) ?_;refine hK.o _ _ ⟨zbq, fun N7 => absurd ((qa5 b 32).symm.trans N7) zbT, fun _ => LA.o.qen be, o4.o.setCell (p := ⟨g, 3, none⟩) LA.o.1 _, dA.o.set _ _⟩
        exact qbo
       rintro b a w' hall ⟨ha, P1, G4, D0, Q0⟩;clear o4 dA LA;have X2 := hall 0 zbS;have X1 := hall 1 zbS;have N2 := hall 2 zbS;have M2 := hall 3 zbS;have I2 := hall 4 zbS;have D3 := hall 5 zbS;have j3 := hall 6 zbS;have i3 := hall 7 zbS;have U2 := hall 8 zbS;have Y2 := hall 9 zbS;have D2 := hall 10 zbS;have Q2 := hall 11 zbS;have F2 := hall 12 zbS;have j4 := hall 13 zbS;have D4 := hall 14 zbS;have n6 := hall 15 zbS;have q6 := hall 16 zbS;have m6 := hall 17 zbS;have s6 := hall 18 zbS;have r6 := hall 19 zbS;have j6 := hall 20 zbS;have o6 := hall 21 zbS;have u7 := hall 22 zbS;have G9 := hall 23 zbS;have zB := hall 24 zbS;have EB := hall 25 zbS;have KB := hall 26 zbS;have zA := hall 27 zbS;have OI := hall 28 zbS;have tJ := hall 29 zbS;have AJ := hall 30 zbS;have PI := hall 31 zbS;have dH := hall 32 zbS;subst ha;simp only [qa7, X2, X1, N2, M2, I2, D3, j3, i3, U2, Y2, D2, Q2, F2, j4, D4, n6, q6, m6, s6, r6, j6, o6, u7, G9, zB, EB, KB, zA, OI, tJ, AJ, PI, dH, if_true, Act.put, List.setIfInBounds_toArray, List.set_cons_zero, List.set_cons_succ];clear P1;have LB := z_ (G4 dH);clear G4;have o4 := z_ D0;clear D0;have dA := z_ Q0;clear Q0 hall X2 X1 N2 M2 I2 D3 j3 i3 U2 Y2 D2 Q2 F2 j4 D4 n6 q6 m6 s6 r6 j6 o6 u7 G9 zB EB KB zA OI tJ AJ PI dH
       go_wp2_with fail
       go_roundw
       case rel => exact ⟨i + 1, be, S2, P2, _, _, zbV, zbU, HI2, LB, o4, ⟨HKr.o.trans dA.o⟩, ⟨dA.o _ _ _ HND.o HGN.o zbT zbT⟩, HE2⟩
       case measure => simp [intOf]; omega
    ·have he : i = x.f3.length := zbV;have c5 : decide ((i : Int) < (x.f3.length : Int)) = false := decide_eq_false zbV;have hE := HEr.o;rw [he, List.drop_length, qdk] at hE;have HF := z_ (show (b, S, P) = walkW ns (n + 1) (kk : Int) s p from by
      cases b with
      | true => rw [if_pos rfl] at hE; exact hE
      | false => rw [if_neg zbT] at hE; exact hE)
     clear hE he HEr
     go_wp2_with fail
     go_end0
     rw [← HF.o];exact ⟨rfl, HBr.o, HKr.o, _, _, HWr.o⟩
end Go.Proofs.Ytcdokcpiahbejaa.X
