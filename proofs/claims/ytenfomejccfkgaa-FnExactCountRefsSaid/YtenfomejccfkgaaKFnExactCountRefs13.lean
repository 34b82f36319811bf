import Derived.Test.YtenfomejccfkgaaKFnExactCountRefs4
import Derived.Test.YtenfomejccfkgaaKFnExactCountRefs10
import Derived.Test.YtenfomejccfkgaaKFnExactCountRefs11
import Derived.Test.YtenfomejccfkgaaKFnExactCountRefs12
import Derived.LoopTactic
import Derived.WalkSpells
import Derived.Deep.RegionLaw
import Derived.Deep.RegionHeld3
namespace Go.Proofs.Ytenfomejccfkgaa.X
open Go.RowKit Go.Proofs.YtenfomejccfkgaaW.PrintWords Go.Proofs.YtenfomejccfkgaaW.PrintLast Go.Proofs.YtenfomejccfkgaaW.PrintMore
attribute [local go_sem] qaC qaD qaE qay qaz qaO qaP qas qat qaA qaB
set_option linter.unusedVariables false
set_option linter.unusedSimpArgs false
def WkAt (w0 w : World) (g : Nat) (vh vs vp : Value) (s : List Bool) (p : List S99) : Prop :=
 w0.heap.size ≤ g ∧ w.heap[g]? = some (.cells #[vh, vs, vp] 155 (0, 0)) ∧ Kd.R Kd.bool 4 w w0.heap.size (fun _ => True) vs s ∧ Kd.R k99 99 w w0.heap.size (fun _ => True) vp p
theorem WkAt.below {w0 w w1 : World} {g : Nat} {vh vs vp : Value} {s : List Bool} {p : List S99} (h : WkAt w0 w g vh vs vp s p) (hb : Below w.heap.size w w1) : WkAt w0 w1 g vh vs vp s p :=
 ⟨h.1, qar h.2.1 hb, Kd.qbj h.2.2.1 hb, Kd.qbj h.2.2.2 hb⟩
theorem qeq {t : Nat} (h : 4 ≠ t) : ∀ q, q ∈ 4 :: Kd.bool.E → q ≠ t := fun q hq => by
 have : q = 4 := by simpa [Kd.bool, Kd.scalar] using hq
 rw [this]; exact h
theorem qer {t : Nat} (h : 99 ≠ t) : ∀ q, q ∈ 99 :: k99.E → q ≠ t := fun q hq => by
 have : q = 99 := by simpa [k99, Kd.iso, Kd.pair, Kd.string, Kd.scalar] using hq
 rw [this]; exact h
def KeptT (w w' : World) (g : Nat) : Prop := ∀ (k : Nat) (cells : Array Value) (t : TypeId), w.heap[k]? = some (.cells cells t (0, 0)) → k ≠ g → 4 ≠ t → 99 ≠ t → w'.heap[k]? = some (.cells cells t (0, 0))
theorem KeptT.refl (w : World) (g : Nat) : KeptT w w g := fun _ _ _ h _ _ _ => h
theorem KeptT.trans {w w1 w2 : World} {g : Nat} (h : KeptT w w1 g) (h' : KeptT w1 w2 g) : KeptT w w2 g := fun k c t a b d e => h' k c t (h k c t a b d e) b d e
theorem KeptT.below {w w1 w2 : World} {g : Nat} (h : KeptT w w1 g) (hb : Below w1.heap.size w1 w2) : KeptT w w2 g := fun k c t a b d e => qar (h k c t a b d e) hb
abbrev WkPost (w0 : World) (vh : Value) (g : Nat) (w : World) (r : Bool × List Bool × List S99) (e : Ending) (w' : World) : Prop := e = .returned (.bool r.1) ∧ Below w0.heap.size w0 w' ∧ KeptT w w' g ∧ (r.1 = true → ∃ vs' vp' : Value, WkAt w0 w' g vh vs' vp' r.2.1 r.2.2)
theorem qdX {w : World} {base : Nat} {ok : Nat → Prop} {gp n c : Nat} {p : List S99} (h : Kd.R k99 99 w base ok (.slice (some ⟨gp, 0, none⟩) n c) p) {j : Nat} (hj : j < p.length) : w.cell? ⟨gp, j * 2, none⟩ = some (.string (qcG p j)) := by
 obtain ⟨ad, e1, hx0, _⟩ := qcs (Kd.qbe h).2.2 (j : Int) (by omega) (by omega)
 cases e1
 rw [Int.toNat_natCast, add_plain] at hx0
 exact hx0
theorem cells3 {W : World} {g : Nat} {t : TypeId} {x0 x1 x2 : Value} (h : W.heap[g]? = some (.cells #[x0, x1, x2] t (0, 0))) : W.cell? ⟨g, 0, none⟩ = some x0 ∧ W.cell? ⟨g, 1, none⟩ = some x1 ∧ W.cell? ⟨g, 2, none⟩ = some x2 ∧ W.frozen? ⟨g, 2, none⟩ = false :=
 ⟨qae h 0, qae h 1, qae h 2, qad h 2⟩
theorem qbH {W : World} {g : Nat} {t : TypeId} {x0 x1 x2 x3 : Value} (h : W.heap[g]? = some (.cells #[x0, x1, x2, x3] t (0, 0))) : W.cell? ⟨g, 0, none⟩ = some x0 ∧ W.cell? ⟨g, 1, none⟩ = some x1 ∧ W.cell? ⟨g, 2, none⟩ = some x2 ∧ W.cell? ⟨g, 3, none⟩ = some x3 :=
 ⟨qae h 0, qae h 1, qae h 2, qae h 3⟩
def walkI.T14 : Bool × List (List Nat × List Nat) := (true, [([], []), ([], []), ([], []), ([2], [2]), ([0, 1, 3], [0, 1, 3]), ([4], [4]), ([5, 4], [5]), ([6], [6]), ([7, 6], [6, 7]), ([8, 6], [6, 8]), ([9, 6], [6, 9]), ([6], [6]), ([10, 11, 6], [6, 10, 11]), ([12, 6], [6, 12]), ([13, 6], [6, 13]), ([6], [6]), ([15, 6], [6, 15]), ([6], [6]), ([16, 17, 6], [6, 16, 17]), ([18, 6], [6, 18]), ([14, 19, 6], [6, 14, 19]), ([6, 20], [6, 20])])
def walkI.B14 : List Nat := [0, 0, 0, 4, 15, 31, 63, 127, 255, 511, 1023, 127, 4095, 8191, 16383, 127, 32895, 127, 229503, 491647, 1048575, 2097151]
theorem walkI.tab14 : rtab .any (opsOf Try.f121 14) = walkI.T14 := by kernel_rfl
theorem walkI.bits14 : qbX walkI.T14.2 walkI.B14 = true := by kernel_rfl
set_option maxHeartbeats 16000000 in
set_option maxRecDepth 100000 in
theorem qfQ (ns : List S56) (w0 : World) (Ah : Option Addr) (ch : Nat) (hh : Kd.C k56 w0 Ah ns.length ns) (hl : ns.length = 50) (hbd : qdk ns) : ∀ (n k : Nat) (d : Int) (s : List Bool) (p : List S99) (w : World) (g : Nat) (vs vp : Value), k < 50 → 0 ≤ d → d + (n : Int) = 21 → WI 50 150 s p → Below w0.heap.size w0 w → WkAt w0 w g (.slice Ah ns.length ch) vs vp s p →
  Calls Try.prog 121 #[.pointer (some ⟨g, 0, none⟩), .int .i64 (k : Int), .int .i64 d] w fun e w' => e = .returned (.bool (walkW ns n k s p).1) ∧ Below w0.heap.size w0 w' ∧ KeptT w w' g ∧ ((walkW ns n k s p).1 = true → ∃ vs' vp' : Value, WkAt w0 w' g (.slice Ah ns.length ch) vs' vp' (walkW ns n k s p).2.1 (walkW ns n k s p).2.2) := by
 have hu := Try.underlying56
 have hu2 := Try.underlying155
 have hu3 := Try.underlying29
 intro n
 induction n with
 | zero =>
  intro k d s p w g vs vp hk hd0 hd hI hB hW
  have HB := Aside0.mk hB
  have c1 : decide (20 < d) = true := decide_eq_true (by omega)
  clear hI hB hW hd hd0 hh hbd
  go_enter Try.func121, Try.ntmps121
  go_wp2_with fail
  go_ret
  exact ⟨rfl, HB.out, KeptT.refl _ _, fun h => by cases h⟩
 | succ n ih =>
  intro k d s p w g vs vp hk hd0 hd hI hB hW
  obtain ⟨hg, hb, hs, hp⟩ := hW
  have c1 : decide (20 < d) = false := decide_eq_false (by omega)
  have hlen := hI.len
  obtain ⟨gs, cs, rfl, hgs, _, scells, hsc⟩ := Kd.qce hs (by omega)
  obtain ⟨hx0, hx1⟩ := Kd.qca false hs (k : Int) (by omega) (by omega)
  rw [Int.toNat_natCast] at hx0 hx1
  obtain ⟨d0, d1, d2, _⟩ := cells3 hb
  have p1 : 0 ≤ (k : Int) := by omega
  have q1 : (k : Int) < (s.length : Int) := by omega
  have q2 : (k : Int) < (ns.length : Int) := by omega
  cases hsk : rdOf false s (k : Int) with
  | true =>
   rw [hsk] at hx0
   have hgd : walkW ns (n + 1) (k : Int) s p = (false, s, p) := by
    unfold walkW
    rw [if_neg (fun h => by have := h.2.2.1; rw [hsk] at this; cases this)]
   rw [hgd]
   have HB := Aside0.mk hB
   clear hI hB hs hp hb hsc hgs hh ih hd hd0 hgd hsk hlen d0 d2 hl
   go_enter Try.func121, Try.ntmps121
   go_wp2_with fail
   go_ret
   exact ⟨rfl, HB.out, KeptT.refl _ _, fun h => by cases h⟩
  | false =>
   rw [hsk] at hx0
   obtain ⟨W1, hW1⟩ : ∃ W1, W1 = w.setCell ⟨gs, k, none⟩ (.bool true) := ⟨_, rfl⟩
   have hB1 : Below w0.heap.size w0 W1 := hW1 ▸ hB.setCell (p := ⟨gs, k, none⟩) hgs _
   have hb1 : W1.heap[g]? = some (.cells #[.slice Ah ns.length ch, .slice (some ⟨gs, 0, none⟩) s.length cs, vp] 155 (0, 0)) := hW1 ▸ qb8 hb (qfm hb hsc (by decide)) _
   have hs1 : Kd.R Kd.bool 4 W1 w0.heap.size (fun _ => True) (.slice (some ⟨gs, 0, none⟩) s.length cs) (s.set k true) := hW1 ▸ Kd.qgW hs (k : Int) true
   have hp1 : Kd.R k99 99 W1 w0.heap.size (fun _ => True) vp p := hW1 ▸ Kd.qfq hp hsc (qer (by decide)) _ _
   have hK1 : KeptT w W1 g := fun kk cells t h1 _ h2 _ => hW1 ▸ qb8 h1 (qfm h1 hsc (Ne.symm h2)) _
   obtain ⟨adh, B1, b1, B2, b2, B3, b3, e1, n0, n1, n2, n3, l1, C1, l2, C2, l3, C3⟩ := qdj hh (k : Int) p1 q2
   cases e1
   obtain ⟨x, hx⟩ : ∃ x, x = qaG ns (k : Int) := ⟨_, rfl⟩
   rw [← hx] at n0 n1 n2 n3 l1 C1 l2 C2 l3 C3
   rw [Int.toNat_natCast] at n0 n1 n2 n3
   replace n0 := (hB1.cell (World.block_lt_of_cell? w0 _ n0)).trans n0
   replace n1 := (hB1.cell (World.block_lt_of_cell? w0 _ n1)).trans n1
   replace n2 := (hB1.cell (World.block_lt_of_cell? w0 _ n2)).trans n2
   replace n3 := (hB1.cell (World.block_lt_of_cell? w0 _ n3)).trans n3
   obtain ⟨dd0, dd1, dd2, _⟩ := cells3 hb1
   have hmax : x.f3.length < 9223372036854775807 := by have := qfO hbd q2 p1; rw [← hx] at this; omega
   obtain ⟨ko, hko⟩ := Ev.rounds (qgc x.f0 x.f1 x.f2 x.f3 hmax)
   have hfo := qfN x.f0 x.f1 x.f2 x.f3
   have HKO := Aside0.mk (show qaH.f ko x.f0 x.f1 x.f2 x.f3 = some (nbN x) from hko)
   have HFO := Aside0.mk (show qbs.f x.f0 x.f1 x.f2 x.f3 = some (fbN x) from hfo)
   obtain ⟨W2, hW2⟩ : ∃ W2, W2 = W1.alloc (.cells #[.bool x.f0, .slice B1 x.f1.length b1, .slice B2 x.f2.length b2, .slice B3 x.f3.length b3] 56 (0, 0)) := ⟨_, rfl⟩
   have hsz : g < W1.heap.size := qbt hb1
   have hB2 : Below w0.heap.size w0 W2 := hW2 ▸ qab hB1 _
   have hWK : WkAt w0 W2 g (.slice (some adh) ns.length ch) (.slice (some ⟨gs, 0, none⟩) s.length cs) vp (s.set k true) p := hW2 ▸ ⟨hg, qak hb1 _, Kd.qa3 hs1 _, Kd.qa3 hp1 _⟩
   have hK2 : KeptT w W2 g := fun kk cells t h1 h2 h3 h4 => hW2 ▸ qak (hK1 kk cells t h1 h2 h3 h4) _
   have hN2 : W2.heap[W1.heap.size]? = some (.cells #[.bool x.f0, .slice B1 x.f1.length b1, .slice B2 x.f2.length b2, .slice B3 x.f3.length b3] 56 (0, 0)) := hW2 ▸ qcn W1 _
   have HI := Aside0.mk hI
   have HB := Aside0.mk hB2
   have HW := Aside0.mk hWK
   have HK := Aside0.mk hK2
   have HN := Aside0.mk hN2
   have HX := Aside0.mk hx
   have HLL := Aside0.mk hlen
   have HC1 := Aside0.mk (And.intro l1 C1)
   have HC2 := Aside0.mk (And.intro l2 C2)
   have HC3 := Aside0.mk (And.intro l3 C3)
   have HH := Aside0.mk hh
   have HIH := Aside0.mk ih
   have HD := Aside0.mk (And.intro hd hd0)
   have HG := Aside0.mk hsz
   have HSK := Aside0.mk hsk
   have HL := Aside0.mk hl
   have HBD := Aside0.mk hbd
   clear hI hB hs hp hb hsc hgs hh ih hd hd0 hsk hlen hl hbd hB1 hb1 hs1 hp1 hK1 hx C1 C2 C3 l1 l2 l3 hg hko hfo hB2 hWK hK2 hN2 hsz hmax
   go_enter Try.func121, Try.ntmps121
   go_upto_region 4 with fail
   rw [← hW1]
   clear hW1 d0 d1 d2 hx0 hx1
   go_upto_region 5 with fail
   rw [← hW2]
   clear hW2 n0 n1 n2 n3 dd0 dd1 dd2
   obtain ⟨m0, m1, m2, m3⟩ := qbH HN.out
   go_wp2_with fail
   refine (qaH.calls (hr0_1 := Kd.qav HC1.out.2 HB.out) (hc0_1 := HC1.out.1) (hr0_2 := Kd.qav HC2.out.2 HB.out) (hc0_2 := HC2.out.1) (hr0_3 := Kd.qav HC3.out.2 HB.out) (hc0_3 := HC3.out.1) (h := HKO.out)).mono ?_
   rintro e W3 ⟨rfl, hb3⟩
   have HB3 := Aside0.mk (qai HB.out hb3)
   have HW3 := Aside0.mk (HW.out.below hb3)
   have HK3 := Aside0.mk (HK.out.below hb3)
   have HN3 := Aside0.mk (qar HN.out hb3)
   clear hb3 m0 m1 m2 m3 HB HW HK HN
   obtain ⟨m0, m1, m2, m3⟩ := qbH HN3.out
   cases hnb : nbN x with
   | false =>
    have hgd : walkW ns (n + 1) (k : Int) s p = (false, s, p) := by
     unfold walkW
     rw [if_neg (fun h => by have := h.2.2.2.1; rw [← HX.out, hnb] at this; cases this)]
    have HGD := Aside0.mk hgd
    clear hnb hgd
    go_wp2_with fail
    go_ret
    rw [HGD.out]
    exact ⟨rfl, HB3.out, HK3.out, fun h => by cases h⟩
   | true =>
   go_wp2_with fail
   refine (qbs.calls (hr0_1 := Kd.qav HC1.out.2 HB3.out) (hc0_1 := HC1.out.1) (hr0_2 := Kd.qav HC2.out.2 HB3.out) (hc0_2 := HC2.out.1) (hr0_3 := Kd.qav HC3.out.2 HB3.out) (hc0_3 := HC3.out.1) (h := HFO.out)).mono ?_
   rintro e W4 ⟨rfl, hb4⟩
   have HB4 := Aside0.mk (qai HB3.out hb4)
   have HW4 := Aside0.mk (HW3.out.below hb4)
   have HK4 := Aside0.mk (HK3.out.below hb4)
   have HN4 := Aside0.mk (qar HN3.out hb4)
   clear hb4 m0 m1 m2 m3 HB3 HW3 HK3 HN3
   obtain ⟨m0, m1, m2, m3⟩ := qbH HN4.out
   obtain ⟨dd0, dd1, dd2, dd3⟩ := cells3 HW4.out.2.1
   cases hfb : fbN x with
   | true =>
    have hgd : walkW ns (n + 1) (k : Int) s p = (false, s, p) := by
     unfold walkW
     rw [if_neg (fun h => by have := h.2.2.2.2; rw [← HX.out, hfb] at this; cases this)]
    have HGD := Aside0.mk hgd
    clear hfb hgd
    go_wp2_with fail
    go_ret
    rw [HGD.out]
    exact ⟨rfl, HB4.out, HK4.out, fun h => by cases h⟩
   | false =>
   have hgd : walkW ns (n + 1) (k : Int) s p = kidsW (walkW ns n) x.f3 x.f2 (s.set k true) (p ++ x.f1) := by
    unfold walkW
    rw [if_pos (show goodW ns (k : Int) s from ⟨p1, q2, HSK.out, by rw [← HX.out]; exact hnb, by rw [← HX.out]; exact hfb⟩), ← HX.out, Int.toNat_natCast]
   cases hlf : x.f0 with
   | true =>
    obtain ⟨z3, z2, z1, z4, _⟩ := qdw hnb hfb hlf
    rw [z3, z2, show ∀ f s p, kidsW f [] [] s p = (true, s, p) from fun _ _ _ => rfl] at hgd
    have HGD := Aside0.mk hgd
    have HZ := Aside0.mk (And.intro z1 z4)
    have hroom := HI.out.room
    have HRM := Aside0.mk (show p.length ≤ 150 by omega)
    rw [hlf] at m0
    obtain ⟨vpA, vpc, ev, _, _⟩ := Kd.qbP HW4.out.2.2.2
    subst ev
    clear hnb hfb hgd z1 z2 z3 z4 hroom hlf
    have hdr := qao HW4.out.2.1
    have hnr := qao HN4.out
    have r2 : W4.drew.cell? ⟨g, 2, none⟩ = some (.slice vpA p.length vpc) := qae hdr 2
    have k1 : W4.drew.cell? ⟨W1.heap.size, 1, none⟩ = some (.slice B1 x.f1.length b1) := qae hnr 1
    have HDR := Aside0.mk hdr
    have HNR := Aside0.mk hnr
    clear hdr hnr dd0 dd1 dd2 dd3 m1 m2 m3
    go_upto_region 8 with fail
    clear m0
    go_region_law (refine Kd.qcL k99 (w0 := w0) w0.heap.size (by rfl) (.tmp 49) (.tmp 51) 33 99 (.agg #[.string ⟨#[]⟩, .string ⟨#[]⟩]) 32 rfl Try.underlying33 qg9 rfl (by decide) (by omega) (.slice vpA p.length vpc) p x.f1 _ _ _ (fun _ => True) (fun _ => False) rfl rfl ?aO ?aC (fun _ _ h => h) (fun _ h => h.elim) (fun _ _ => trivial) ?aB ?aS ?aL ?_; (case aO => exact Kd.qbi HW4.out.2.2.2); (case aC => exact Kd.qav HC1.out.2 (qbr HB4.out)); (case aB => exact qbr HB4.out); (case aS => exact HB4.out.size); (case aL => have := HZ.out; have := HRM.out; omega); intro v1 w1 ho1 hb1 hg1 hat1; obtain ⟨gc, cc, rfl, _⟩ := Kd.qce ho1 (by rw [List.length_append]; have := HZ.out; omega); have hbk := qbR HDR.out hg1 (Kd.R_ne (Kd.qbi HW4.out.2.2.2) HDR.out (by decide)); have y2 : w1.cell? ⟨g, 2, none⟩ = some (.slice vpA p.length vpc) := qae hbk 2; have y3 := qad hbk 2; have HB5 := Aside0.mk hb1; have HO5 := Aside0.mk ho1; have HBK5 := Aside0.mk hbk; have HS5 := Aside0.mk (Kd.R_over (Kd.qbi HW4.out.2.2.1) (Kd.qbi HW4.out.2.2.2) (qeq (by decide)) hg1); have HK5 := Aside0.mk (show KeptT w w1 g from fun kk cells t h1 h2 h3 h4 => qbR (qao (HK4.out kk cells t h1 h2 h3 h4)) hg1 (Kd.R_ne (Kd.qbi HW4.out.2.2.2) (qao (HK4.out kk cells t h1 h2 h3 h4)) h4)); clear ho1 hb1 hg1 hat1 hbk)
    all_goals
     go_wp2_with fail
     go_ret
     rw [HGD.out]
     refine ⟨rfl, HB5.out.setCell (p := ⟨g, 2, none⟩) HW4.out.1 _, fun kk cells t h1 h2 h3 h4 => qb8 (HK5.out kk cells t h1 h2 h3 h4) h2 _, fun _ => ⟨_, _, HW4.out.1, qdY HBK5.out 2 _, Kd.qfq HS5.out HBK5.out (qeq (by decide)) _ _, ?_⟩⟩
     have hfin := Kd.qfq HO5.out HBK5.out (qer (by decide)) 2 (Value.slice (some ⟨gc, 0, none⟩) (p.length + x.f1.length) cc)
     rw [List.length_append] at hfin
     exact hfin
   | false =>
    obtain ⟨z1, z2, z3, z4, z5⟩ := qda hnb hfb hlf
    rw [z1, List.append_nil] at hgd
    rw [hlf] at m0
    have HGD := Aside0.mk hgd
    have HZ := Aside0.mk (And.intro z2 (And.intro z3 (And.intro z4 z5)))
    have HI4 := Aside0.mk (show WI 50 150 (s.set k true) p from by
     have hc := qel (s := s) (i := k) (by have := HLL.out; omega) (by have := HSK.out; unfold rdOf at this; rw [Int.toNat_natCast] at this; exact this)
     exact ⟨by rw [List.length_set]; exact HLL.out, by have := HI.out.room; omega, HI.out.good⟩)
    have hz3 : x.f3.length ≤ 4 := z3
    clear hnb hfb hgd z1 z2 z3 z4 z5 hlf dd0 dd1 dd2 dd3
    go_upto_region 11 with fail
    go_loopw [58] (fun v58 wr => ∃ (i : Nat) (S : List Bool) (P : List S99) (vs vp : Value), i ≤ x.f3.length ∧ v58 = .int .i64 (i : Int) ∧ Aside0 (WI 50 150 S P) ∧ Aside0 (WkAt w0 wr g (.slice (some adh) ns.length ch) vs vp S P) ∧ Aside0 (Below w0.heap.size w0 wr) ∧ Aside0 (KeptT w wr g) ∧ Aside0 (wr.heap[W1.heap.size]? = some (.cells #[.bool x.f0, .slice B1 x.f1.length b1, .slice B2 x.f2.length b2, .slice B3 x.f3.length b3] 56 (0, 0))) ∧ Aside0 (kidsW (walkW ns n) (x.f3.drop i) (x.f2.drop i) S P = kidsW (walkW ns n) x.f3 x.f2 (s.set k true) p)) (fun v58 _ => x.f3.length - (intOf v58).toNat)
    case atStart => exact ⟨0, s.set k true, p, _, _, by omega, rfl, HI4, HW4, HB4, HK4, HN4, ⟨rfl⟩⟩
    case round =>
     clear HI4 HW4 HB4 HK4 HN4 m0 m1 m2 m3 HI HSK HFO HKO c1 hk
     obtain ⟨i, S, P, vs, vp', hi, rfl, HIr, HWr, HBr, HKr, HNr, HEr⟩ := hrel
     by_cases hlt : i < x.f3.length
     ·have c5 : decide ((i : Int) < (x.f3.length : Int)) = true := decide_eq_true (by omega)
      have i0 : 0 ≤ (i : Int) := by omega
      have i1 : (i : Int) < (x.f3.length : Int) := by omega
      have i2 : (i : Int) < (x.f2.length : Int) := by have := HZ.out.2.2.1; omega
      have hkid := HZ.out.2.2.2 i hlt
      obtain ⟨kn, hkn⟩ : ∃ kn : Nat, rd x.f3 (i : Int) = (kn : Int) := ⟨(rd x.f3 (i : Int)).toNat, by omega⟩
      rw [hkn] at hkid
      obtain ⟨ad3, e3, k3⟩ := Kd.qbS HC3.out.2 (i : Int) i0 i1
      cases e3
      rw [Int.toNat_natCast, hkn] at k3
      obtain ⟨ad2, e2, k2⟩ := Kd.qbw HC2.out.2 (i : Int) i0 i2
      cases e2
      obtain ⟨m, hm⟩ : ∃ m, m = rdOf ByteArray.empty x.f2 (i : Int) := ⟨_, rfl⟩
      rw [Int.toNat_natCast, ← hm] at k2
      have hd3 : x.f3.drop i = (kn : Int) :: x.f3.drop (i + 1) := by
       rw [List.drop_eq_getElem_cons hlt, ← hkn]
       unfold rd
       simp [List.getD_eq_getElem?_getD, hlt]
      have hlt2 : i < x.f2.length := by omega
      have hd2 : x.f2.drop i = m :: x.f2.drop (i + 1) := by
       rw [List.drop_eq_getElem_cons hlt2, hm]
       unfold rdOf
       simp [List.getD_eq_getElem?_getD, hlt2]
      have K3 := Aside0.mk k3
      have K2 := Aside0.mk k2
      replace k3 := (HBr.out.cell (World.block_lt_of_cell? w0 _ k3)).trans k3
      obtain ⟨vA, vc, ev, _, _⟩ := Kd.qbP HWr.out.2.2.2
      subst ev
      obtain ⟨dd0, dd1, dd2, dd3⟩ := cells3 HWr.out.2.1
      have hroom := HIr.out.room
      have hpl : P.length ≤ 150 := by omega
      have hw1 : IntKind.i64.wrap (d + 1) = d + 1 := by have := HD.out; rw [IntKind.wrap_i64]; omega
      have HWR := Aside0.mk hw1
      obtain ⟨rb, S2, P2, hres⟩ : ∃ rb S2 P2, walkW ns n (kn : Int) S P = (rb, S2, P2) := ⟨_, _, _, rfl⟩
      have hE := HEr.out
      rw [hd3, hd2, qdH, hres] at hE
      have hinv := (qem (M := 150) ns HL.out n (kn : Int) S P HIr.out).1
      rw [hres] at hinv
      have HI2 := Aside0.mk hinv
      have hih := HIH.out kn (d + 1) S P wr.drew g vs _ (by omega) (by have := HD.out; omega) (by have := HD.out; omega) HIr.out (qbr HBr.out) (HWr.out.below (qbr (Below.refl _ _)))
      rw [hres] at hih
      have HKD := Aside0.mk (KeptT.below HKr.out (qbr (Below.refl _ wr)))
      have HND := Aside0.mk (qao HNr.out)
      have hgn : W1.heap.size ≠ g := by have := HG.out; omega
      have HGN := Aside0.mk hgn
      cases rb with
      | false =>
       rw [if_neg (fun h => by cases h.1)] at hE
       have HF := Aside0.mk (show (walkW ns (n + 1) (k : Int) s p).1 = false from by rw [HGD.out, ← hE])
       have CC := Aside0.mk hih
       clear hE hih hinv hres hd3 hd2 hkn hm hroom hgn hlt2 hkid k2 HI2
       go_upto_region 14 with fail
       clear k3 dd0 dd1 dd2 dd3
       refine qcz (n := 22) (S := fun w' => True) (ds := []) #[false, false, false, false, false, false, false, false, false, false, false, false, false, false, false, false, false, false, false, false, false, false] (by kernel_rfl) rfl rfl trivial (fun hHeld => ?_)
       refine qbU walkI.tab14 walkI.bits14 (fun HT_ HW_ => ?_)
       generalize wr.drew = wd at CC HKD HND ⊢
       refine qcY [0, 1, 2, 3, 4, 5, 6, 7, 8, 9, 10, 11, 12, 13, 14, 15, 16, 17, 18, 19, 20, 21] (fun a0_ b a w' => a = qbq a0_ b [(0, 68, .pointer (some ⟨g, 0, none⟩)), (1, 69, .int .i64 (kn : Int)), (2, 70, .int .i64 d), (3, 71, .int .i64 (d + 1)), (4, 72, .bool false), (5, 73, .bool true), (6, 74, .bool true), (7, 75, undef), (8, 76, undef), (9, 77, undef), (10, 78, undef), (11, 79, undef), (12, 80, undef), (13, 81, undef), (14, 82, undef), (15, 83, undef), (16, 84, undef), (17, 85, undef), (18, 86, undef), (19, 87, undef), (20, 88, undef), (21, 89, .bool true)] ∧ (b 4 = false → Calls Try.prog 121 #[.pointer (some ⟨g, 0, none⟩), .int .i64 (kn : Int), .int .i64 (d + 1)] w' (WkPost w0 (.slice (some adh) ns.length ch) g wd (false, S2, P2))) ∧ (b 4 = true → Below w0.heap.size w0 w') ∧ (b 4 = true → KeptT wd w' g)) HT_.out HW_.out (by kernel_rfl) (by kernel_rfl) ?_ ?_ ?_
       ·exact ⟨by simp only [qbq, Bool.false_eq_true, if_false], fun _ => CC.out, fun h_ => absurd h_ (by decide), fun h_ => absurd h_ (by decide)⟩
       ·skip
        clear CC
        refine qag ?_ ?_
        ·rintro b a w' ⟨ha, Q_CC, Q_HB5, Q_HK5⟩ hb_ hon hoff
         refine ⟨_, rfl, fun K hK => ?_⟩
         have e0 : a.tmps[0]? = some (.pointer (some ⟨g, 0, none⟩)) := by rw [ha]; exact (qa7 rfl).trans rfl
         replace ha := Aside0.mk ha
         refine qaJ (w1 := w') (v := .pointer (some ⟨g, 0, none⟩)) (by rfl) rfl ?_ ?_
         ·go_simp
          (try simp only [qaS])
          try rfl
         refine hK.out _ _ ⟨(by rw [ha.out]; exact qah 0 hb_ rfl rfl rfl), Q_CC, fun h0_ => absurd ((hoff 4 (by kernel_rfl)).symm.trans h0_) (by decide), fun h0_ => absurd ((hoff 4 (by kernel_rfl)).symm.trans h0_) (by decide)⟩
        refine qag ?_ ?_
        ·rintro b a w' ⟨ha, Q_CC, Q_HB5, Q_HK5⟩ hb_ hon hoff
         refine ⟨_, rfl, fun K hK => ?_⟩
         have e9 : a.tmps[9]? = some (.int .i64 (kn : Int)) := by rw [ha]; exact (qa7 rfl).trans rfl
         replace ha := Aside0.mk ha
         refine qaJ (w1 := w') (v := .int .i64 (kn : Int)) (by rfl) rfl ?_ ?_
         ·go_simp
          (try simp only [qaS])
          try rfl
         refine hK.out _ _ ⟨(by rw [ha.out]; exact qah 1 hb_ rfl rfl rfl), Q_CC, fun h0_ => absurd ((hoff 4 (by kernel_rfl)).symm.trans h0_) (by decide), fun h0_ => absurd ((hoff 4 (by kernel_rfl)).symm.trans h0_) (by decide)⟩
        refine qag ?_ ?_
        ·rintro b a w' ⟨ha, Q_CC, Q_HB5, Q_HK5⟩ hb_ hon hoff
         refine ⟨_, rfl, fun K hK => ?_⟩
         have e2 : a.tmps[2]? = some (.int .i64 d) := by rw [ha]; exact (qa7 rfl).trans rfl
         replace ha := Aside0.mk ha
         refine qaJ (w1 := w') (v := .int .i64 d) (by rfl) rfl ?_ ?_
         ·go_simp
          (try simp only [qaS])
          try rfl
         refine hK.out _ _ ⟨(by rw [ha.out]; exact qah 2 hb_ rfl rfl rfl), Q_CC, fun h0_ => absurd ((hoff 4 (by kernel_rfl)).symm.trans h0_) (by decide), fun h0_ => absurd ((hoff 4 (by kernel_rfl)).symm.trans h0_) (by decide)⟩
        refine qag ?_ ?_
        ·rintro b a w' ⟨ha, Q_CC, Q_HB5, Q_HK5⟩ hb_ hon hoff
         refine ⟨_, rfl, fun K hK => ?_⟩
         have e70 : a.tmps[70]? = some (.int .i64 d) := on_ ha 2 rfl rfl (hon 2 (by kernel_rfl)) rfl
         replace ha := Aside0.mk ha
         have hw_ := HWR.out
         refine qaJ (w1 := w') (v := .int .i64 (d + 1)) (by rfl) rfl ?_ ?_
         ·go_simp
          (try simp only [qaS])
          try rfl
         refine hK.out _ _ ⟨(by rw [ha.out]; exact qah 3 hb_ rfl rfl rfl), Q_CC, fun h0_ => absurd ((hoff 4 (by kernel_rfl)).symm.trans h0_) (by decide), fun h0_ => absurd ((hoff 4 (by kernel_rfl)).symm.trans h0_) (by decide)⟩
        refine qag ?_ ?_
        ·rintro b a w' ⟨ha, Q_CC, Q_HB5, Q_HK5⟩ hb_ hon hoff
         refine ⟨_, rfl, fun K hK => ?_⟩
         have e68 : a.tmps[68]? = some (.pointer (some ⟨g, 0, none⟩)) := on_ ha 0 rfl rfl (hon 0 (by kernel_rfl)) rfl
         have e69 : a.tmps[69]? = some (.int .i64 (kn : Int)) := on_ ha 1 rfl rfl (hon 1 (by kernel_rfl)) rfl
         have e71 : a.tmps[71]? = some (.int .i64 (d + 1)) := on_ ha 3 rfl rfl (hon 3 (by kernel_rfl)) rfl
         replace ha := Aside0.mk ha
         have CC := Aside0.mk (Q_CC hb_)
         refine qgw Try.func121 (by kernel_rfl) rfl #[.pointer (some ⟨g, 0, none⟩), .int .i64 (kn : Int), .int .i64 (d + 1)] (by rfl) rfl rfl (by first | (simp only [List.map_toArray, List.map_cons, List.map_nil, Act.eval, Array.getD_eq_getD_getElem?, Option.getD_some, e68, e69, e71]; done) | (simp only [List.map_toArray, List.map_cons, List.map_nil, Act.eval, Array.getD_eq_getD_getElem?, Option.getD_some, e68, e69, e71]; rfl)) ?_
         refine CC.out.mono ?_
         rintro e_ w1 ⟨rfl, hb1, hk1, hst⟩
         refine ⟨_, rfl, ?_⟩
         refine hK.out _ _ ⟨(by rw [ha.out]; exact qah 4 hb_ rfl rfl rfl), fun h0_ => absurd ((qcy b 4).symm.trans h0_) (by decide), fun _ => hb1, fun _ => hk1⟩
        refine qag ?_ ?_
        ·rintro b a w' ⟨ha, Q_CC, Q_HB5, Q_HK5⟩ hb_ hon hoff
         refine ⟨_, rfl, fun K hK => ?_⟩
         have e72 : a.tmps[72]? = some (.bool false) := on_ ha 4 rfl rfl (hon 4 (by kernel_rfl)) rfl
         replace ha := Aside0.mk ha
         refine qaJ (w1 := w') (v := .bool true) (by rfl) rfl ?_ ?_
         ·go_simp
          (try simp only [qaS])
          try rfl
         refine hK.out _ _ ⟨(by rw [ha.out]; exact qah 5 hb_ rfl rfl rfl), fun h0_ => absurd ((hon 4 (by kernel_rfl)).symm.trans h0_) (by decide), Q_HB5, Q_HK5⟩
        refine qag ?_ ?_
        ·rintro b a w' ⟨ha, Q_CC, Q_HB5, Q_HK5⟩ hb_ hon hoff
         refine ⟨_, rfl, fun K hK => ?_⟩
         have e73 : a.tmps[73]? = some (.bool true) := on_ ha 5 rfl rfl (hon 5 (by kernel_rfl)) rfl
         replace ha := Aside0.mk ha
         refine qaJ (w1 := w') (v := .bool true) (by rfl) rfl ?_ ?_
         ·go_simp
          (try simp only [qaS])
          try rfl
         refine hK.out _ _ ⟨(by rw [ha.out]; exact qah 6 hb_ rfl rfl rfl), fun h0_ => absurd ((hon 4 (by kernel_rfl)).symm.trans h0_) (by decide), Q_HB5, Q_HK5⟩
        refine qag ?_ ?_
        ·rintro b a w' ⟨ha, Q_CC, Q_HB5, Q_HK5⟩ hb_ hon hoff
         refine ⟨_, rfl, fun K hK => ?_⟩
         have e74 : a.tmps[74]? = some (.bool true) := on_ ha 6 rfl rfl (hon 6 (by kernel_rfl)) rfl
         replace ha := Aside0.mk ha
         refine off_ (qaT rfl rfl rfl (e74.trans (by first | rfl | (simp [*]; done)))) ?_
         refine hK.out _ _ ⟨(by rw [ha.out]; exact qah 7 hb_ rfl rfl rfl), fun h0_ => absurd ((hon 4 (by kernel_rfl)).symm.trans h0_) (by decide), Q_HB5, Q_HK5⟩
        refine qag ?_ ?_
        ·rintro b a w' ⟨ha, Q_CC, Q_HB5, Q_HK5⟩ hb_ hon hoff
         refine ⟨_, rfl, fun K hK => ?_⟩
         have e74 : a.tmps[74]? = some (.bool true) := on_ ha 6 rfl rfl (hon 6 (by kernel_rfl)) rfl
         replace ha := Aside0.mk ha
         refine off_ (qaT rfl rfl rfl (e74.trans (by first | rfl | (simp [*]; done)))) ?_
         refine hK.out _ _ ⟨(by rw [ha.out]; exact qah 8 hb_ rfl rfl rfl), fun h0_ => absurd ((hon 4 (by kernel_rfl)).symm.trans h0_) (by decide), Q_HB5, Q_HK5⟩
        refine qag ?_ ?_
        ·rintro b a w' ⟨ha, Q_CC, Q_HB5, Q_HK5⟩ hb_ hon hoff
         refine ⟨_, rfl, fun K hK => ?_⟩
         have e74 : a.tmps[74]? = some (.bool true) := on_ ha 6 rfl rfl (hon 6 (by kernel_rfl)) rfl
         replace ha := Aside0.mk ha
         refine off_ (qaT rfl rfl rfl (e74.trans (by first | rfl | (simp [*]; done)))) ?_
         refine hK.out _ _ ⟨(by rw [ha.out]; exact qah 9 hb_ rfl rfl rfl), fun h0_ => absurd ((hon 4 (by kernel_rfl)).symm.trans h0_) (by decide), Q_HB5, Q_HK5⟩
        refine qag ?_ ?_
        ·rintro b a w' ⟨ha, Q_CC, Q_HB5, Q_HK5⟩ hb_ hon hoff
         refine ⟨_, rfl, fun K hK => ?_⟩
         have e74 : a.tmps[74]? = some (.bool true) := on_ ha 6 rfl rfl (hon 6 (by kernel_rfl)) rfl
         replace ha := Aside0.mk ha
         refine off_ (qaT rfl rfl rfl (e74.trans (by first | rfl | (simp [*]; done)))) ?_
         refine hK.out _ _ ⟨(by rw [ha.out]; exact qah 10 hb_ rfl rfl rfl), fun h0_ => absurd ((hon 4 (by kernel_rfl)).symm.trans h0_) (by decide), Q_HB5, Q_HK5⟩
        refine qag ?_ ?_
        ·rintro b a w' ⟨ha, Q_CC, Q_HB5, Q_HK5⟩ hb_ hon hoff
         refine ⟨_, rfl, fun K hK => ?_⟩
         have e74 : a.tmps[74]? = some (.bool true) := on_ ha 6 rfl rfl (hon 6 (by kernel_rfl)) rfl
         replace ha := Aside0.mk ha
         refine off_ (qaT rfl rfl rfl (e74.trans (by first | rfl | (simp [*]; done)))) ?_
         refine hK.out _ _ ⟨(by rw [ha.out]; exact qah 11 hb_ rfl rfl rfl), fun h0_ => absurd ((hon 4 (by kernel_rfl)).symm.trans h0_) (by decide), Q_HB5, Q_HK5⟩
        refine qag ?_ ?_
        ·rintro b a w' ⟨ha, Q_CC, Q_HB5, Q_HK5⟩ hb_ hon hoff
         refine ⟨_, rfl, fun K hK => ?_⟩
         have e74 : a.tmps[74]? = some (.bool true) := on_ ha 6 rfl rfl (hon 6 (by kernel_rfl)) rfl
         replace ha := Aside0.mk ha
         refine off_ (qaT rfl rfl rfl (e74.trans (by first | rfl | (simp [*]; done)))) ?_
         refine hK.out _ _ ⟨(by rw [ha.out]; exact qah 12 hb_ rfl rfl rfl), fun h0_ => absurd ((hon 4 (by kernel_rfl)).symm.trans h0_) (by decide), Q_HB5, Q_HK5⟩
        refine qag ?_ ?_
        ·rintro b a w' ⟨ha, Q_CC, Q_HB5, Q_HK5⟩ hb_ hon hoff
         refine ⟨_, rfl, fun K hK => ?_⟩
         have e74 : a.tmps[74]? = some (.bool true) := on_ ha 6 rfl rfl (hon 6 (by kernel_rfl)) rfl
         replace ha := Aside0.mk ha
         refine off_ (qaT rfl rfl rfl (e74.trans (by first | rfl | (simp [*]; done)))) ?_
         refine hK.out _ _ ⟨(by rw [ha.out]; exact qah 13 hb_ rfl rfl rfl), fun h0_ => absurd ((hon 4 (by kernel_rfl)).symm.trans h0_) (by decide), Q_HB5, Q_HK5⟩
        refine qag ?_ ?_
        ·rintro b a w' ⟨ha, Q_CC, Q_HB5, Q_HK5⟩ hb_ hon hoff
         refine ⟨_, rfl, fun K hK => ?_⟩
         have e74 : a.tmps[74]? = some (.bool true) := on_ ha 6 rfl rfl (hon 6 (by kernel_rfl)) rfl
         replace ha := Aside0.mk ha
         refine off_ (qaT rfl rfl rfl (e74.trans (by first | rfl | (simp [*]; done)))) ?_
         refine hK.out _ _ ⟨(by rw [ha.out]; exact qah 14 hb_ rfl rfl rfl), fun h0_ => absurd ((hon 4 (by kernel_rfl)).symm.trans h0_) (by decide), Q_HB5, Q_HK5⟩
        refine qag ?_ ?_
        ·rintro b a w' ⟨ha, Q_CC, Q_HB5, Q_HK5⟩ hb_ hon hoff
         refine ⟨_, rfl, fun K hK => ?_⟩
         have e74 : a.tmps[74]? = some (.bool true) := on_ ha 6 rfl rfl (hon 6 (by kernel_rfl)) rfl
         replace ha := Aside0.mk ha
         refine off_ (qaT rfl rfl rfl (e74.trans (by first | rfl | (simp [*]; done)))) ?_
         refine hK.out _ _ ⟨(by rw [ha.out]; exact qah 15 hb_ rfl rfl rfl), fun h0_ => absurd ((hon 4 (by kernel_rfl)).symm.trans h0_) (by decide), Q_HB5, Q_HK5⟩
        refine qag ?_ ?_
        ·rintro b a w' ⟨ha, Q_CC, Q_HB5, Q_HK5⟩ hb_ hon hoff
         refine ⟨_, rfl, fun K hK => ?_⟩
         have e74 : a.tmps[74]? = some (.bool true) := on_ ha 6 rfl rfl (hon 6 (by kernel_rfl)) rfl
         replace ha := Aside0.mk ha
         refine off_ (qaT rfl rfl rfl (e74.trans (by first | rfl | (simp [*]; done)))) ?_
         refine hK.out _ _ ⟨(by rw [ha.out]; exact qah 16 hb_ rfl rfl rfl), fun h0_ => absurd ((hon 4 (by kernel_rfl)).symm.trans h0_) (by decide), Q_HB5, Q_HK5⟩
        refine qag ?_ ?_
        ·rintro b a w' ⟨ha, Q_CC, Q_HB5, Q_HK5⟩ hb_ hon hoff
         refine ⟨_, rfl, fun K hK => ?_⟩
         have e74 : a.tmps[74]? = some (.bool true) := on_ ha 6 rfl rfl (hon 6 (by kernel_rfl)) rfl
         replace ha := Aside0.mk ha
         refine off_ (qaT rfl rfl rfl (e74.trans (by first | rfl | (simp [*]; done)))) ?_
         refine hK.out _ _ ⟨(by rw [ha.out]; exact qah 17 hb_ rfl rfl rfl), fun h0_ => absurd ((hon 4 (by kernel_rfl)).symm.trans h0_) (by decide), Q_HB5, Q_HK5⟩
        refine qag ?_ ?_
        ·rintro b a w' ⟨ha, Q_CC, Q_HB5, Q_HK5⟩ hb_ hon hoff
         refine ⟨_, rfl, fun K hK => ?_⟩
         have e74 : a.tmps[74]? = some (.bool true) := on_ ha 6 rfl rfl (hon 6 (by kernel_rfl)) rfl
         replace ha := Aside0.mk ha
         refine off_ (qaT rfl rfl rfl (e74.trans (by first | rfl | (simp [*]; done)))) ?_
         refine hK.out _ _ ⟨(by rw [ha.out]; exact qah 18 hb_ rfl rfl rfl), fun h0_ => absurd ((hon 4 (by kernel_rfl)).symm.trans h0_) (by decide), Q_HB5, Q_HK5⟩
        refine qag ?_ ?_
        ·rintro b a w' ⟨ha, Q_CC, Q_HB5, Q_HK5⟩ hb_ hon hoff
         refine ⟨_, rfl, fun K hK => ?_⟩
         have e74 : a.tmps[74]? = some (.bool true) := on_ ha 6 rfl rfl (hon 6 (by kernel_rfl)) rfl
         replace ha := Aside0.mk ha
         refine off_ (qaT rfl rfl rfl (e74.trans (by first | rfl | (simp [*]; done)))) ?_
         refine hK.out _ _ ⟨(by rw [ha.out]; exact qah 19 hb_ rfl rfl rfl), fun h0_ => absurd ((hon 4 (by kernel_rfl)).symm.trans h0_) (by decide), Q_HB5, Q_HK5⟩
        refine qag ?_ ?_
        ·rintro b a w' ⟨ha, Q_CC, Q_HB5, Q_HK5⟩ hb_ hon hoff
         refine ⟨_, rfl, fun K hK => ?_⟩
         have e74 : a.tmps[74]? = some (.bool true) := on_ ha 6 rfl rfl (hon 6 (by kernel_rfl)) rfl
         replace ha := Aside0.mk ha
         refine off_ (qaT rfl rfl rfl (e74.trans (by first | rfl | (simp [*]; done)))) ?_
         refine hK.out _ _ ⟨(by rw [ha.out]; exact qah 20 hb_ rfl rfl rfl), fun h0_ => absurd ((hon 4 (by kernel_rfl)).symm.trans h0_) (by decide), Q_HB5, Q_HK5⟩
        refine qag ?_ ?_
        ·rintro b a w' ⟨ha, Q_CC, Q_HB5, Q_HK5⟩ hb_ hon hoff
         refine ⟨_, rfl, fun K hK => ?_⟩
         have e74 : a.tmps[74]? = some (.bool true) := on_ ha 6 rfl rfl (hon 6 (by kernel_rfl)) rfl
         have e88 : a.tmps[88]? = some (undef) := on_ ha 20 rfl rfl (hon 20 (by kernel_rfl)) rfl
         replace ha := Aside0.mk ha
         refine qaJ (w1 := w') (v := .bool true) (by rfl) rfl ?_ ?_
         ·go_simp
          (try simp only [qaS])
          try rfl
         refine hK.out _ _ ⟨(by rw [ha.out]; exact qah 21 hb_ rfl rfl rfl), fun h0_ => absurd ((hon 4 (by kernel_rfl)).symm.trans h0_) (by decide), Q_HB5, Q_HK5⟩
        exact qb7
       rintro b a w' hall ⟨ha, Q_CC, Q_HB5, Q_HK5⟩
       clear CC
       have hb0_ := hall 0 (by kernel_rfl)
       have hb1_ := hall 1 (by kernel_rfl)
       have hb2_ := hall 2 (by kernel_rfl)
       have hb3_ := hall 3 (by kernel_rfl)
       have hb4_ := hall 4 (by kernel_rfl)
       have hb5_ := hall 5 (by kernel_rfl)
       have hb6_ := hall 6 (by kernel_rfl)
       have hb7_ := hall 7 (by kernel_rfl)
       have hb8_ := hall 8 (by kernel_rfl)
       have hb9_ := hall 9 (by kernel_rfl)
       have hb10_ := hall 10 (by kernel_rfl)
       have hb11_ := hall 11 (by kernel_rfl)
       have hb12_ := hall 12 (by kernel_rfl)
       have hb13_ := hall 13 (by kernel_rfl)
       have hb14_ := hall 14 (by kernel_rfl)
       have hb15_ := hall 15 (by kernel_rfl)
       have hb16_ := hall 16 (by kernel_rfl)
       have hb17_ := hall 17 (by kernel_rfl)
       have hb18_ := hall 18 (by kernel_rfl)
       have hb19_ := hall 19 (by kernel_rfl)
       have hb20_ := hall 20 (by kernel_rfl)
       have hb21_ := hall 21 (by kernel_rfl)
       subst ha
       simp only [qbq, hb0_, hb1_, hb2_, hb3_, hb4_, hb5_, hb6_, hb7_, hb8_, hb9_, hb10_, hb11_, hb12_, hb13_, hb14_, hb15_, hb16_, hb17_, hb18_, hb19_, hb20_, hb21_, if_true, Act.put, List.setIfInBounds_toArray, List.set_cons_zero, List.set_cons_succ]
       clear Q_CC
       have HB5 := Aside0.mk (Q_HB5 hb4_)
       clear Q_HB5
       have HK5 := Aside0.mk (Q_HK5 hb4_)
       clear Q_HK5
       clear hall hb0_ hb1_ hb2_ hb3_ hb4_ hb5_ hb6_ hb7_ hb8_ hb9_ hb10_ hb11_ hb12_ hb13_ hb14_ hb15_ hb16_ hb17_ hb18_ hb19_ hb20_ hb21_
       go_wp2_with fail
       go_ret
       rw [HF.out]
       exact ⟨rfl, HB5.out, HKD.out.trans HK5.out, fun h => by cases h⟩
      | true =>
       have hmore := qeU ns n (kn : Int) S P (by rw [hres])
       rw [hres] at hmore
       have HMO := Aside0.mk (show P.length < P2.length from hmore)
       obtain ⟨ky, hky⟩ : ∃ ky, ky = qcG P2 P.length := ⟨_, rfl⟩
       have HKY := Aside0.mk hky.symm
       have CC := Aside0.mk hih
       have HI2_ := Aside0.mk (And.intro i0 i2)
       obtain ⟨be, hbe⟩ : ∃ be, (ky.toList == m.toList) = be := ⟨_, rfl⟩
       have HEQ := Aside0.mk hbe
       have HE := Aside0.mk hE
       clear hE hih hinv hres hd3 hd2 hkn hm hroom hgn hlt2 hkid k2 hmore hky hbe
       go_upto_region 14 with fail
       clear k3 dd0 dd1 dd2 dd3
       refine qcz (n := 22) (S := fun w' => True) (ds := []) #[false, false, false, false, false, false, false, false, false, false, false, false, false, false, false, false, false, false, false, false, false, false] (by kernel_rfl) rfl rfl trivial (fun hHeld => ?_)
       refine qbU walkI.tab14 walkI.bits14 (fun HT_ HW_ => ?_)
       generalize wr.drew = wd at CC HKD HND ⊢
       refine qcY [0, 1, 2, 3, 4, 5, 6, 7, 8, 9, 10, 11, 12, 13, 14, 15, 16, 17, 18, 19, 20, 21] (fun a0_ b a w' => ∃ (vs2 : Value) (gp : Nat) (cp : Nat) (m10_ : Value) (m12_ : Value) (m13_ : Value), a = qbq a0_ b [(0, 68, .pointer (some ⟨g, 0, none⟩)), (1, 69, .int .i64 (kn : Int)), (2, 70, .int .i64 d), (3, 71, .int .i64 (d + 1)), (4, 72, .bool true), (5, 73, .bool false), (6, 74, .bool false), (7, 75, .pointer (some ⟨g, 0, none⟩)), (8, 76, .pointer (some ⟨g, 0, none⟩)), (9, 77, .pointer (some ⟨g, 2, none⟩)), (10, 78, m10_), (11, 79, .int .i64 (P.length : Int)), (12, 80, m12_), (13, 81, m13_), (14, 82, .string ky), (15, 83, .pointer (some ⟨W1.heap.size, 2, none⟩)), (16, 84, .slice (some ad2) x.f2.length b2), (17, 85, .int .i64 (i : Int)), (18, 86, .pointer (some (ad2.add i))), (19, 87, .string m), (20, 88, .bool (!be)), (21, 89, .bool (!be))] ∧ (b 4 = false → Calls Try.prog 121 #[.pointer (some ⟨g, 0, none⟩), .int .i64 (kn : Int), .int .i64 (d + 1)] w' (WkPost w0 (.slice (some adh) ns.length ch) g wd (true, S2, P2))) ∧ (b 4 = true → Below w0.heap.size w0 w') ∧ (b 4 = true → KeptT wd w' g) ∧ (b 4 = true → WkAt w0 w' g (.slice (some adh) ns.length ch) vs2 (.slice (some ⟨gp, 0, none⟩) P2.length cp) S2 P2) ∧ (b 10 = true → (m10_ : Value) = .slice (some ⟨gp, 0, none⟩) P2.length cp) ∧ (b 12 = true → (m12_ : Value) = .pointer (some ⟨gp, P.length * 2, none⟩)) ∧ (b 13 = true → (m13_ : Value) = .pointer (some ⟨gp, P.length * 2, none⟩))) HT_.out HW_.out (by kernel_rfl) (by kernel_rfl) ?_ ?_ ?_
       ·exact ⟨.bool false, 0, 0, .bool false, .bool false, .bool false, by simp only [qbq, Bool.false_eq_true, if_false], fun _ => CC.out, fun h_ => absurd h_ (by decide), fun h_ => absurd h_ (by decide), fun h_ => absurd h_ (by decide), fun h_ => absurd h_ (by decide), fun h_ => absurd h_ (by decide), fun h_ => absurd h_ (by decide)⟩
       ·skip
        clear CC
        refine qag ?_ ?_
        ·rintro b a w' ⟨vs2, gp, cp, m10_, m12_, m13_, ha, Q_CC, Q_HB5, Q_HK5, Q_HW5, Q_X10_, Q_X12_, Q_X13_⟩ hb_ hon hoff
         refine ⟨_, rfl, fun K hK => ?_⟩
         have e0 : a.tmps[0]? = some (.pointer (some ⟨g, 0, none⟩)) := by rw [ha]; exact (qa7 rfl).trans rfl
         replace ha := Aside0.mk ha
         refine qaJ (w1 := w') (v := .pointer (some ⟨g, 0, none⟩)) (by rfl) rfl ?_ ?_
         ·go_simp
          (try simp only [qaS])
          try rfl
         refine hK.out _ _ ⟨vs2, gp, cp, m10_, m12_, m13_, (by rw [ha.out]; exact qah 0 hb_ rfl rfl rfl), Q_CC, fun h0_ => absurd ((hoff 4 (by kernel_rfl)).symm.trans h0_) (by decide), fun h0_ => absurd ((hoff 4 (by kernel_rfl)).symm.trans h0_) (by decide), fun h0_ => absurd ((hoff 4 (by kernel_rfl)).symm.trans h0_) (by decide), fun h0_ => absurd ((hoff 10 (by kernel_rfl)).symm.trans h0_) (by decide), fun h0_ => absurd ((hoff 12 (by kernel_rfl)).symm.trans h0_) (by decide), fun h0_ => absurd ((hoff 13 (by kernel_rfl)).symm.trans h0_) (by decide)⟩
        refine qag ?_ ?_
        ·rintro b a w' ⟨vs2, gp, cp, m10_, m12_, m13_, ha, Q_CC, Q_HB5, Q_HK5, Q_HW5, Q_X10_, Q_X12_, Q_X13_⟩ hb_ hon hoff
         refine ⟨_, rfl, fun K hK => ?_⟩
         have e9 : a.tmps[9]? = some (.int .i64 (kn : Int)) := by rw [ha]; exact (qa7 rfl).trans rfl
         replace ha := Aside0.mk ha
         refine qaJ (w1 := w') (v := .int .i64 (kn : Int)) (by rfl) rfl ?_ ?_
         ·go_simp
          (try simp only [qaS])
          try rfl
         refine hK.out _ _ ⟨vs2, gp, cp, m10_, m12_, m13_, (by rw [ha.out]; exact qah 1 hb_ rfl rfl rfl), Q_CC, fun h0_ => absurd ((hoff 4 (by kernel_rfl)).symm.trans h0_) (by decide), fun h0_ => absurd ((hoff 4 (by kernel_rfl)).symm.trans h0_) (by decide), fun h0_ => absurd ((hoff 4 (by kernel_rfl)).symm.trans h0_) (by decide), fun h0_ => absurd ((hoff 10 (by kernel_rfl)).symm.trans h0_) (by decide), fun h0_ => absurd ((hoff 12 (by kernel_rfl)).symm.trans h0_) (by decide), fun h0_ => absurd ((hoff 13 (by kernel_rfl)).symm.trans h0_) (by decide)⟩
        refine qag ?_ ?_
        ·rintro b a w' ⟨vs2, gp, cp, m10_, m12_, m13_, ha, Q_CC, Q_HB5, Q_HK5, Q_HW5, Q_X10_, Q_X12_, Q_X13_⟩ hb_ hon hoff
         refine ⟨_, rfl, fun K hK => ?_⟩
         have e2 : a.tmps[2]? = some (.int .i64 d) := by rw [ha]; exact (qa7 rfl).trans rfl
         replace ha := Aside0.mk ha
         refine qaJ (w1 := w') (v := .int .i64 d) (by rfl) rfl ?_ ?_
         ·go_simp
          (try simp only [qaS])
          try rfl
         refine hK.out _ _ ⟨vs2, gp, cp, m10_, m12_, m13_, (by rw [ha.out]; exact qah 2 hb_ rfl rfl rfl), Q_CC, fun h0_ => absurd ((hoff 4 (by kernel_rfl)).symm.trans h0_) (by decide), fun h0_ => absurd ((hoff 4 (by kernel_rfl)).symm.trans h0_) (by decide), fun h0_ => absurd ((hoff 4 (by kernel_rfl)).symm.trans h0_) (by decide), fun h0_ => absurd ((hoff 10 (by kernel_rfl)).symm.trans h0_) (by decide), fun h0_ => absurd ((hoff 12 (by kernel_rfl)).symm.trans h0_) (by decide), fun h0_ => absurd ((hoff 13 (by kernel_rfl)).symm.trans h0_) (by decide)⟩
        refine qag ?_ ?_
        ·rintro b a w' ⟨vs2, gp, cp, m10_, m12_, m13_, ha, Q_CC, Q_HB5, Q_HK5, Q_HW5, Q_X10_, Q_X12_, Q_X13_⟩ hb_ hon hoff
         refine ⟨_, rfl, fun K hK => ?_⟩
         have e70 : a.tmps[70]? = some (.int .i64 d) := on_ ha 2 rfl rfl (hon 2 (by kernel_rfl)) rfl
         replace ha := Aside0.mk ha
         have hw_ := HWR.out
         refine qaJ (w1 := w') (v := .int .i64 (d + 1)) (by rfl) rfl ?_ ?_
         ·go_simp
          (try simp only [qaS])
          try rfl
         refine hK.out _ _ ⟨vs2, gp, cp, m10_, m12_, m13_, (by rw [ha.out]; exact qah 3 hb_ rfl rfl rfl), Q_CC, fun h0_ => absurd ((hoff 4 (by kernel_rfl)).symm.trans h0_) (by decide), fun h0_ => absurd ((hoff 4 (by kernel_rfl)).symm.trans h0_) (by decide), fun h0_ => absurd ((hoff 4 (by kernel_rfl)).symm.trans h0_) (by decide), fun h0_ => absurd ((hoff 10 (by kernel_rfl)).symm.trans h0_) (by decide), fun h0_ => absurd ((hoff 12 (by kernel_rfl)).symm.trans h0_) (by decide), fun h0_ => absurd ((hoff 13 (by kernel_rfl)).symm.trans h0_) (by decide)⟩
        refine qag ?_ ?_
        ·rintro b a w' ⟨vs2, gp, cp, m10_, m12_, m13_, ha, Q_CC, Q_HB5, Q_HK5, Q_HW5, Q_X10_, Q_X12_, Q_X13_⟩ hb_ hon hoff
         refine ⟨_, rfl, fun K hK => ?_⟩
         have e68 : a.tmps[68]? = some (.pointer (some ⟨g, 0, none⟩)) := on_ ha 0 rfl rfl (hon 0 (by kernel_rfl)) rfl
         have e69 : a.tmps[69]? = some (.int .i64 (kn : Int)) := on_ ha 1 rfl rfl (hon 1 (by kernel_rfl)) rfl
         have e71 : a.tmps[71]? = some (.int .i64 (d + 1)) := on_ ha 3 rfl rfl (hon 3 (by kernel_rfl)) rfl
         replace ha := Aside0.mk ha
         have CC := Aside0.mk (Q_CC hb_)
         refine qgw Try.func121 (by kernel_rfl) rfl #[.pointer (some ⟨g, 0, none⟩), .int .i64 (kn : Int), .int .i64 (d + 1)] (by rfl) rfl rfl (by first | (simp only [List.map_toArray, List.map_cons, List.map_nil, Act.eval, Array.getD_eq_getD_getElem?, Option.getD_some, e68, e69, e71]; done) | (simp only [List.map_toArray, List.map_cons, List.map_nil, Act.eval, Array.getD_eq_getD_getElem?, Option.getD_some, e68, e69, e71]; rfl)) ?_
         refine CC.out.mono ?_
         rintro e_ w1 ⟨rfl, hb1, hk1, hst⟩
         obtain ⟨vs2_, vp2_, hw2⟩ := hst rfl
         obtain ⟨gp_, cp_, ev_, _⟩ := Kd.qce hw2.2.2.2 (by have := HMO.out; show 0 < P2.length; omega)
         subst ev_
         refine ⟨_, rfl, ?_⟩
         refine hK.out _ _ ⟨vs2_, gp_, cp_, m10_, m12_, m13_, (by rw [ha.out]; exact qah 4 hb_ rfl rfl rfl), fun h0_ => absurd ((qcy b 4).symm.trans h0_) (by decide), fun _ => hb1, fun _ => hk1, fun _ => hw2, fun h0_ => absurd ((hoff 10 (by kernel_rfl)).symm.trans h0_) (by decide), fun h0_ => absurd ((hoff 12 (by kernel_rfl)).symm.trans h0_) (by decide), fun h0_ => absurd ((hoff 13 (by kernel_rfl)).symm.trans h0_) (by decide)⟩
        refine qag ?_ ?_
        ·rintro b a w' ⟨vs2, gp, cp, m10_, m12_, m13_, ha, Q_CC, Q_HB5, Q_HK5, Q_HW5, Q_X10_, Q_X12_, Q_X13_⟩ hb_ hon hoff
         refine ⟨_, rfl, fun K hK => ?_⟩
         have e72 : a.tmps[72]? = some (.bool true) := on_ ha 4 rfl rfl (hon 4 (by kernel_rfl)) rfl
         replace ha := Aside0.mk ha
         refine qaJ (w1 := w') (v := .bool false) (by rfl) rfl ?_ ?_
         ·go_simp
          (try simp only [qaS])
          try rfl
         refine hK.out _ _ ⟨vs2, gp, cp, m10_, m12_, m13_, (by rw [ha.out]; exact qah 5 hb_ rfl rfl rfl), fun h0_ => absurd ((hon 4 (by kernel_rfl)).symm.trans h0_) (by decide), Q_HB5, Q_HK5, Q_HW5, fun h0_ => absurd ((hoff 10 (by kernel_rfl)).symm.trans h0_) (by decide), fun h0_ => absurd ((hoff 12 (by kernel_rfl)).symm.trans h0_) (by decide), fun h0_ => absurd ((hoff 13 (by kernel_rfl)).symm.trans h0_) (by decide)⟩
        refine qag ?_ ?_
        ·rintro b a w' ⟨vs2, gp, cp, m10_, m12_, m13_, ha, Q_CC, Q_HB5, Q_HK5, Q_HW5, Q_X10_, Q_X12_, Q_X13_⟩ hb_ hon hoff
         refine ⟨_, rfl, fun K hK => ?_⟩
         have e73 : a.tmps[73]? = some (.bool false) := on_ ha 5 rfl rfl (hon 5 (by kernel_rfl)) rfl
         replace ha := Aside0.mk ha
         refine qaJ (w1 := w') (v := .bool false) (by rfl) rfl ?_ ?_
         ·go_simp
          (try simp only [qaS])
          try rfl
         refine hK.out _ _ ⟨vs2, gp, cp, m10_, m12_, m13_, (by rw [ha.out]; exact qah 6 hb_ rfl rfl rfl), fun h0_ => absurd ((hon 4 (by kernel_rfl)).symm.trans h0_) (by decide), Q_HB5, Q_HK5, Q_HW5, fun h0_ => absurd ((hoff 10 (by kernel_rfl)).symm.trans h0_) (by decide), fun h0_ => absurd ((hoff 12 (by kernel_rfl)).symm.trans h0_) (by decide), fun h0_ => absurd ((hoff 13 (by kernel_rfl)).symm.trans h0_) (by decide)⟩
        refine qag ?_ ?_
        ·rintro b a w' ⟨vs2, gp, cp, m10_, m12_, m13_, ha, Q_CC, Q_HB5, Q_HK5, Q_HW5, Q_X10_, Q_X12_, Q_X13_⟩ hb_ hon hoff
         refine ⟨_, rfl, fun K hK => ?_⟩
         have e0 : a.tmps[0]? = some (.pointer (some ⟨g, 0, none⟩)) := by rw [ha]; exact (qa7 rfl).trans rfl
         have e74 : a.tmps[74]? = some (.bool false) := on_ ha 6 rfl rfl (hon 6 (by kernel_rfl)) rfl
         replace ha := Aside0.mk ha
         refine qaJ (w1 := w') (v := .pointer (some ⟨g, 0, none⟩)) (qa1 rfl rfl rfl (e74.trans (by first | rfl | (simp [*]; done)))) rfl ?_ ?_
         ·go_simp
          (try simp only [qaS])
          try rfl
         refine hK.out _ _ ⟨vs2, gp, cp, m10_, m12_, m13_, (by rw [ha.out]; exact qah 7 hb_ rfl rfl rfl), fun h0_ => absurd ((hon 4 (by kernel_rfl)).symm.trans h0_) (by decide), Q_HB5, Q_HK5, Q_HW5, fun h0_ => absurd ((hoff 10 (by kernel_rfl)).symm.trans h0_) (by decide), fun h0_ => absurd ((hoff 12 (by kernel_rfl)).symm.trans h0_) (by decide), fun h0_ => absurd ((hoff 13 (by kernel_rfl)).symm.trans h0_) (by decide)⟩
        refine qag ?_ ?_
        ·rintro b a w' ⟨vs2, gp, cp, m10_, m12_, m13_, ha, Q_CC, Q_HB5, Q_HK5, Q_HW5, Q_X10_, Q_X12_, Q_X13_⟩ hb_ hon hoff
         refine ⟨_, rfl, fun K hK => ?_⟩
         have e75 : a.tmps[75]? = some (.pointer (some ⟨g, 0, none⟩)) := on_ ha 7 rfl rfl (hon 7 (by kernel_rfl)) rfl
         have e74 : a.tmps[74]? = some (.bool false) := on_ ha 6 rfl rfl (hon 6 (by kernel_rfl)) rfl
         replace ha := Aside0.mk ha
         refine qaJ (w1 := w') (v := .pointer (some ⟨g, 0, none⟩)) (qa1 rfl rfl rfl (e74.trans (by first | rfl | (simp [*]; done)))) rfl ?_ ?_
         ·go_simp
          (try simp only [qaS])
          try rfl
         refine hK.out _ _ ⟨vs2, gp, cp, m10_, m12_, m13_, (by rw [ha.out]; exact qah 8 hb_ rfl rfl rfl), fun h0_ => absurd ((hon 4 (by kernel_rfl)).symm.trans h0_) (by decide), Q_HB5, Q_HK5, Q_HW5, fun h0_ => absurd ((hoff 10 (by kernel_rfl)).symm.trans h0_) (by decide), fun h0_ => absurd ((hoff 12 (by kernel_rfl)).symm.trans h0_) (by decide), fun h0_ => absurd ((hoff 13 (by kernel_rfl)).symm.trans h0_) (by decide)⟩
        refine qag ?_ ?_
        ·rintro b a w' ⟨vs2, gp, cp, m10_, m12_, m13_, ha, Q_CC, Q_HB5, Q_HK5, Q_HW5, Q_X10_, Q_X12_, Q_X13_⟩ hb_ hon hoff
         refine ⟨_, rfl, fun K hK => ?_⟩
         have e76 : a.tmps[76]? = some (.pointer (some ⟨g, 0, none⟩)) := on_ ha 8 rfl rfl (hon 8 (by kernel_rfl)) rfl
         have e74 : a.tmps[74]? = some (.bool false) := on_ ha 6 rfl rfl (hon 6 (by kernel_rfl)) rfl
         replace ha := Aside0.mk ha
         refine qaJ (w1 := w') (v := .pointer (some ⟨g, 2, none⟩)) (qa1 rfl rfl rfl (e74.trans (by first | rfl | (simp [*]; done)))) rfl ?_ ?_
         ·go_simp
          (try simp only [qaS])
          try rfl
         refine hK.out _ _ ⟨vs2, gp, cp, m10_, m12_, m13_, (by rw [ha.out]; exact qah 9 hb_ rfl rfl rfl), fun h0_ => absurd ((hon 4 (by kernel_rfl)).symm.trans h0_) (by decide), Q_HB5, Q_HK5, Q_HW5, fun h0_ => absurd ((hoff 10 (by kernel_rfl)).symm.trans h0_) (by decide), fun h0_ => absurd ((hoff 12 (by kernel_rfl)).symm.trans h0_) (by decide), fun h0_ => absurd ((hoff 13 (by kernel_rfl)).symm.trans h0_) (by decide)⟩
        refine qag ?_ ?_
        ·rintro b a w' ⟨vs2, gp, cp, m10_, m12_, m13_, ha, Q_CC, Q_HB5, Q_HK5, Q_HW5, Q_X10_, Q_X12_, Q_X13_⟩ hb_ hon hoff
         refine ⟨_, rfl, fun K hK => ?_⟩
         have e77 : a.tmps[77]? = some (.pointer (some ⟨g, 2, none⟩)) := on_ ha 9 rfl rfl (hon 9 (by kernel_rfl)) rfl
         have e74 : a.tmps[74]? = some (.bool false) := on_ ha 6 rfl rfl (hon 6 (by kernel_rfl)) rfl
         replace ha := Aside0.mk ha
         have HW5 := Aside0.mk (Q_HW5 (hon 4 (by kernel_rfl)))
         have hc2_ := (cells3 HW5.out.2.1).2.2.1
         refine qaJ (w1 := w') (v := .slice (some ⟨gp, 0, none⟩) P2.length cp) (qa1 rfl rfl rfl (e74.trans (by first | rfl | (simp [*]; done)))) rfl ?_ ?_
         ·go_simp
          (try simp only [qaS])
          try rfl
         refine hK.out _ _ ⟨vs2, gp, cp, (.slice (some ⟨gp, 0, none⟩) P2.length cp), m12_, m13_, (by rw [ha.out]; exact qah 10 hb_ rfl rfl rfl), fun h0_ => absurd ((hon 4 (by kernel_rfl)).symm.trans h0_) (by decide), Q_HB5, Q_HK5, Q_HW5, fun _ => rfl, fun h0_ => absurd ((hoff 12 (by kernel_rfl)).symm.trans h0_) (by decide), fun h0_ => absurd ((hoff 13 (by kernel_rfl)).symm.trans h0_) (by decide)⟩
        refine qag ?_ ?_
        ·rintro b a w' ⟨vs2, gp, cp, m10_, m12_, m13_, ha, Q_CC, Q_HB5, Q_HK5, Q_HW5, Q_X10_, Q_X12_, Q_X13_⟩ hb_ hon hoff
         refine ⟨_, rfl, fun K hK => ?_⟩
         have e10 : a.tmps[10]? = some (.int .i64 (P.length : Int)) := by rw [ha]; exact (qa7 rfl).trans rfl
         have e74 : a.tmps[74]? = some (.bool false) := on_ ha 6 rfl rfl (hon 6 (by kernel_rfl)) rfl
         replace ha := Aside0.mk ha
         refine qaJ (w1 := w') (v := .int .i64 (P.length : Int)) (qa1 rfl rfl rfl (e74.trans (by first | rfl | (simp [*]; done)))) rfl ?_ ?_
         ·go_simp
          (try simp only [qaS])
          try rfl
         refine hK.out _ _ ⟨vs2, gp, cp, m10_, m12_, m13_, (by rw [ha.out]; exact qah 11 hb_ rfl rfl rfl), fun h0_ => absurd ((hon 4 (by kernel_rfl)).symm.trans h0_) (by decide), Q_HB5, Q_HK5, Q_HW5, Q_X10_, fun h0_ => absurd ((hoff 12 (by kernel_rfl)).symm.trans h0_) (by decide), fun h0_ => absurd ((hoff 13 (by kernel_rfl)).symm.trans h0_) (by decide)⟩
        refine qag ?_ ?_
        ·rintro b a w' ⟨vs2, gp, cp, m10_, m12_, m13_, ha, Q_CC, Q_HB5, Q_HK5, Q_HW5, Q_X10_, Q_X12_, Q_X13_⟩ hb_ hon hoff
         refine ⟨_, rfl, fun K hK => ?_⟩
         have e78 : a.tmps[78]? = some (m10_) := on_ ha 10 rfl rfl (hon 10 (by kernel_rfl)) rfl
         rw [Q_X10_ (hon 10 (by kernel_rfl))] at e78
         have e79 : a.tmps[79]? = some (.int .i64 (P.length : Int)) := on_ ha 11 rfl rfl (hon 11 (by kernel_rfl)) rfl
         have e74 : a.tmps[74]? = some (.bool false) := on_ ha 6 rfl rfl (hon 6 (by kernel_rfl)) rfl
         replace ha := Aside0.mk ha
         have y1_ : (P.length : Int) < (P2.length : Int) := by have := HMO.out; omega
         have y0_ : 0 ≤ (P.length : Int) := by omega
         refine qaJ (w1 := w') (v := .pointer (some ⟨gp, P.length * 2, none⟩)) (qa1 rfl rfl rfl (e74.trans (by first | rfl | (simp [*]; done)))) rfl ?_ ?_
         ·go_simp
          (try simp only [qaS])
          try rfl
         refine hK.out _ _ ⟨vs2, gp, cp, m10_, (.pointer (some ⟨gp, P.length * 2, none⟩)), m13_, (by rw [ha.out]; exact qah 12 hb_ rfl rfl rfl), fun h0_ => absurd ((hon 4 (by kernel_rfl)).symm.trans h0_) (by decide), Q_HB5, Q_HK5, Q_HW5, Q_X10_, fun _ => rfl, fun h0_ => absurd ((hoff 13 (by kernel_rfl)).symm.trans h0_) (by decide)⟩
        refine qag ?_ ?_
        ·rintro b a w' ⟨vs2, gp, cp, m10_, m12_, m13_, ha, Q_CC, Q_HB5, Q_HK5, Q_HW5, Q_X10_, Q_X12_, Q_X13_⟩ hb_ hon hoff
         refine ⟨_, rfl, fun K hK => ?_⟩
         have e80 : a.tmps[80]? = some (m12_) := on_ ha 12 rfl rfl (hon 12 (by kernel_rfl)) rfl
         rw [Q_X12_ (hon 12 (by kernel_rfl))] at e80
         have e74 : a.tmps[74]? = some (.bool false) := on_ ha 6 rfl rfl (hon 6 (by kernel_rfl)) rfl
         replace ha := Aside0.mk ha
         refine qaJ (w1 := w') (v := .pointer (some ⟨gp, P.length * 2, none⟩)) (qa1 rfl rfl rfl (e74.trans (by first | rfl | (simp [*]; done)))) rfl ?_ ?_
         ·go_simp
          (try simp only [qaS])
          try rfl
         refine hK.out _ _ ⟨vs2, gp, cp, m10_, m12_, (.pointer (some ⟨gp, P.length * 2, none⟩)), (by rw [ha.out]; exact qah 13 hb_ rfl rfl rfl), fun h0_ => absurd ((hon 4 (by kernel_rfl)).symm.trans h0_) (by decide), Q_HB5, Q_HK5, Q_HW5, Q_X10_, Q_X12_, fun _ => rfl⟩
        refine qag ?_ ?_
        ·rintro b a w' ⟨vs2, gp, cp, m10_, m12_, m13_, ha, Q_CC, Q_HB5, Q_HK5, Q_HW5, Q_X10_, Q_X12_, Q_X13_⟩ hb_ hon hoff
         refine ⟨_, rfl, fun K hK => ?_⟩
         have e81 : a.tmps[81]? = some (m13_) := on_ ha 13 rfl rfl (hon 13 (by kernel_rfl)) rfl
         rw [Q_X13_ (hon 13 (by kernel_rfl))] at e81
         have e74 : a.tmps[74]? = some (.bool false) := on_ ha 6 rfl rfl (hon 6 (by kernel_rfl)) rfl
         replace ha := Aside0.mk ha
         have HW5 := Aside0.mk (Q_HW5 (hon 4 (by kernel_rfl)))
         have hc2_ := qdX HW5.out.2.2.2 (j := P.length) HMO.out
         rw [HKY.out] at hc2_
         refine qaJ (w1 := w') (v := .string ky) (qa1 rfl rfl rfl (e74.trans (by first | rfl | (simp [*]; done)))) rfl ?_ ?_
         ·go_simp
          (try simp only [qaS])
          try rfl
         refine hK.out _ _ ⟨vs2, gp, cp, m10_, m12_, m13_, (by rw [ha.out]; exact qah 14 hb_ rfl rfl rfl), fun h0_ => absurd ((hon 4 (by kernel_rfl)).symm.trans h0_) (by decide), Q_HB5, Q_HK5, Q_HW5, Q_X10_, Q_X12_, Q_X13_⟩
        refine qag ?_ ?_
        ·rintro b a w' ⟨vs2, gp, cp, m10_, m12_, m13_, ha, Q_CC, Q_HB5, Q_HK5, Q_HW5, Q_X10_, Q_X12_, Q_X13_⟩ hb_ hon hoff
         refine ⟨_, rfl, fun K hK => ?_⟩
         have e7 : a.tmps[7]? = some (.pointer (some ⟨W1.heap.size, 0, none⟩)) := by rw [ha]; exact (qa7 rfl).trans rfl
         have e74 : a.tmps[74]? = some (.bool false) := on_ ha 6 rfl rfl (hon 6 (by kernel_rfl)) rfl
         replace ha := Aside0.mk ha
         refine qaJ (w1 := w') (v := .pointer (some ⟨W1.heap.size, 2, none⟩)) (qa1 rfl rfl rfl (e74.trans (by first | rfl | (simp [*]; done)))) rfl ?_ ?_
         ·go_simp
          (try simp only [qaS])
          try rfl
         refine hK.out _ _ ⟨vs2, gp, cp, m10_, m12_, m13_, (by rw [ha.out]; exact qah 15 hb_ rfl rfl rfl), fun h0_ => absurd ((hon 4 (by kernel_rfl)).symm.trans h0_) (by decide), Q_HB5, Q_HK5, Q_HW5, Q_X10_, Q_X12_, Q_X13_⟩
        refine qag ?_ ?_
        ·rintro b a w' ⟨vs2, gp, cp, m10_, m12_, m13_, ha, Q_CC, Q_HB5, Q_HK5, Q_HW5, Q_X10_, Q_X12_, Q_X13_⟩ hb_ hon hoff
         refine ⟨_, rfl, fun K hK => ?_⟩
         have e83 : a.tmps[83]? = some (.pointer (some ⟨W1.heap.size, 2, none⟩)) := on_ ha 15 rfl rfl (hon 15 (by kernel_rfl)) rfl
         have e74 : a.tmps[74]? = some (.bool false) := on_ ha 6 rfl rfl (hon 6 (by kernel_rfl)) rfl
         replace ha := Aside0.mk ha
         have HK5 := Aside0.mk (Q_HK5 (hon 4 (by kernel_rfl)))
         have hc2_ := qae (HK5.out _ _ _ HND.out HGN.out (by decide) (by decide)) 2
         simp only [List.getElem?_toArray, List.getElem?_cons_zero, List.getElem?_cons_succ] at hc2_
         refine qaJ (w1 := w') (v := .slice (some ad2) x.f2.length b2) (qa1 rfl rfl rfl (e74.trans (by first | rfl | (simp [*]; done)))) rfl ?_ ?_
         ·go_simp
          (try simp only [qaS])
          try rfl
         refine hK.out _ _ ⟨vs2, gp, cp, m10_, m12_, m13_, (by rw [ha.out]; exact qah 16 hb_ rfl rfl rfl), fun h0_ => absurd ((hon 4 (by kernel_rfl)).symm.trans h0_) (by decide), Q_HB5, Q_HK5, Q_HW5, Q_X10_, Q_X12_, Q_X13_⟩
        refine qag ?_ ?_
        ·rintro b a w' ⟨vs2, gp, cp, m10_, m12_, m13_, ha, Q_CC, Q_HB5, Q_HK5, Q_HW5, Q_X10_, Q_X12_, Q_X13_⟩ hb_ hon hoff
         refine ⟨_, rfl, fun K hK => ?_⟩
         have e8 : a.tmps[8]? = some (.int .i64 (i : Int)) := by rw [ha]; exact (qa7 rfl).trans rfl
         have e74 : a.tmps[74]? = some (.bool false) := on_ ha 6 rfl rfl (hon 6 (by kernel_rfl)) rfl
         replace ha := Aside0.mk ha
         refine qaJ (w1 := w') (v := .int .i64 (i : Int)) (qa1 rfl rfl rfl (e74.trans (by first | rfl | (simp [*]; done)))) rfl ?_ ?_
         ·go_simp
          (try simp only [qaS])
          try rfl
         refine hK.out _ _ ⟨vs2, gp, cp, m10_, m12_, m13_, (by rw [ha.out]; exact qah 17 hb_ rfl rfl rfl), fun h0_ => absurd ((hon 4 (by kernel_rfl)).symm.trans h0_) (by decide), Q_HB5, Q_HK5, Q_HW5, Q_X10_, Q_X12_, Q_X13_⟩
        refine qag ?_ ?_
        ·rintro b a w' ⟨vs2, gp, cp, m10_, m12_, m13_, ha, Q_CC, Q_HB5, Q_HK5, Q_HW5, Q_X10_, Q_X12_, Q_X13_⟩ hb_ hon hoff
         refine ⟨_, rfl, fun K hK => ?_⟩
         have e84 : a.tmps[84]? = some (.slice (some ad2) x.f2.length b2) := on_ ha 16 rfl rfl (hon 16 (by kernel_rfl)) rfl
         have e85 : a.tmps[85]? = some (.int .i64 (i : Int)) := on_ ha 17 rfl rfl (hon 17 (by kernel_rfl)) rfl
         have e74 : a.tmps[74]? = some (.bool false) := on_ ha 6 rfl rfl (hon 6 (by kernel_rfl)) rfl
         replace ha := Aside0.mk ha
         have y2_ := HI2_.out
         refine qaJ (w1 := w') (v := .pointer (some (ad2.add i))) (qa1 rfl rfl rfl (e74.trans (by first | rfl | (simp [*]; done)))) rfl ?_ ?_
         ·go_simp
          (try simp only [qaS])
          try rfl
         refine hK.out _ _ ⟨vs2, gp, cp, m10_, m12_, m13_, (by rw [ha.out]; exact qah 18 hb_ rfl rfl rfl), fun h0_ => absurd ((hon 4 (by kernel_rfl)).symm.trans h0_) (by decide), Q_HB5, Q_HK5, Q_HW5, Q_X10_, Q_X12_, Q_X13_⟩
        refine qag ?_ ?_
        ·rintro b a w' ⟨vs2, gp, cp, m10_, m12_, m13_, ha, Q_CC, Q_HB5, Q_HK5, Q_HW5, Q_X10_, Q_X12_, Q_X13_⟩ hb_ hon hoff
         refine ⟨_, rfl, fun K hK => ?_⟩
         have e86 : a.tmps[86]? = some (.pointer (some (ad2.add i))) := on_ ha 18 rfl rfl (hon 18 (by kernel_rfl)) rfl
         have e74 : a.tmps[74]? = some (.bool false) := on_ ha 6 rfl rfl (hon 6 (by kernel_rfl)) rfl
         replace ha := Aside0.mk ha
         have HB5 := Aside0.mk (Q_HB5 (hon 4 (by kernel_rfl)))
         have hc2_ := (HB5.out.cell (World.block_lt_of_cell? w0 _ K2.out)).trans K2.out
         refine qaJ (w1 := w') (v := .string m) (qa1 rfl rfl rfl (e74.trans (by first | rfl | (simp [*]; done)))) rfl ?_ ?_
         ·go_simp
          (try simp only [qaS])
          try rfl
         refine hK.out _ _ ⟨vs2, gp, cp, m10_, m12_, m13_, (by rw [ha.out]; exact qah 19 hb_ rfl rfl rfl), fun h0_ => absurd ((hon 4 (by kernel_rfl)).symm.trans h0_) (by decide), Q_HB5, Q_HK5, Q_HW5, Q_X10_, Q_X12_, Q_X13_⟩
        refine qag ?_ ?_
        ·rintro b a w' ⟨vs2, gp, cp, m10_, m12_, m13_, ha, Q_CC, Q_HB5, Q_HK5, Q_HW5, Q_X10_, Q_X12_, Q_X13_⟩ hb_ hon hoff
         refine ⟨_, rfl, fun K hK => ?_⟩
         have e82 : a.tmps[82]? = some (.string ky) := on_ ha 14 rfl rfl (hon 14 (by kernel_rfl)) rfl
         have e87 : a.tmps[87]? = some (.string m) := on_ ha 19 rfl rfl (hon 19 (by kernel_rfl)) rfl
         have e74 : a.tmps[74]? = some (.bool false) := on_ ha 6 rfl rfl (hon 6 (by kernel_rfl)) rfl
         replace ha := Aside0.mk ha
         have hc2_ := HEQ.out
         refine qaJ (w1 := w') (v := .bool (!be)) (qa1 rfl rfl rfl (e74.trans (by first | rfl | (simp [*]; done)))) rfl ?_ ?_
         ·go_simp
          (try simp only [qaS])
          try rfl
         refine hK.out _ _ ⟨vs2, gp, cp, m10_, m12_, m13_, (by rw [ha.out]; exact qah 20 hb_ rfl rfl rfl), fun h0_ => absurd ((hon 4 (by kernel_rfl)).symm.trans h0_) (by decide), Q_HB5, Q_HK5, Q_HW5, Q_X10_, Q_X12_, Q_X13_⟩
        refine qag ?_ ?_
        ·rintro b a w' ⟨vs2, gp, cp, m10_, m12_, m13_, ha, Q_CC, Q_HB5, Q_HK5, Q_HW5, Q_X10_, Q_X12_, Q_X13_⟩ hb_ hon hoff
         refine ⟨_, rfl, fun K hK => ?_⟩
         have e74 : a.tmps[74]? = some (.bool false) := on_ ha 6 rfl rfl (hon 6 (by kernel_rfl)) rfl
         have e88 : a.tmps[88]? = some (.bool (!be)) := on_ ha 20 rfl rfl (hon 20 (by kernel_rfl)) rfl
         replace ha := Aside0.mk ha
         refine qaJ (w1 := w') (v := .bool (!be)) (by rfl) rfl ?_ ?_
         ·go_simp
          (try simp only [qaS])
          try rfl
         refine hK.out _ _ ⟨vs2, gp, cp, m10_, m12_, m13_, (by rw [ha.out]; exact qah 21 hb_ rfl rfl rfl), fun h0_ => absurd ((hon 4 (by kernel_rfl)).symm.trans h0_) (by decide), Q_HB5, Q_HK5, Q_HW5, Q_X10_, Q_X12_, Q_X13_⟩
        exact qb7
       rintro b a w' hall ⟨vs2, gp, cp, m10_, m12_, m13_, ha, Q_CC, Q_HB5, Q_HK5, Q_HW5, Q_X10_, Q_X12_, Q_X13_⟩
       clear CC
       have hb0_ := hall 0 (by kernel_rfl)
       have hb1_ := hall 1 (by kernel_rfl)
       have hb2_ := hall 2 (by kernel_rfl)
       have hb3_ := hall 3 (by kernel_rfl)
       have hb4_ := hall 4 (by kernel_rfl)
       have hb5_ := hall 5 (by kernel_rfl)
       have hb6_ := hall 6 (by kernel_rfl)
       have hb7_ := hall 7 (by kernel_rfl)
       have hb8_ := hall 8 (by kernel_rfl)
       have hb9_ := hall 9 (by kernel_rfl)
       have hb10_ := hall 10 (by kernel_rfl)
       have hb11_ := hall 11 (by kernel_rfl)
       have hb12_ := hall 12 (by kernel_rfl)
       have hb13_ := hall 13 (by kernel_rfl)
       have hb14_ := hall 14 (by kernel_rfl)
       have hb15_ := hall 15 (by kernel_rfl)
       have hb16_ := hall 16 (by kernel_rfl)
       have hb17_ := hall 17 (by kernel_rfl)
       have hb18_ := hall 18 (by kernel_rfl)
       have hb19_ := hall 19 (by kernel_rfl)
       have hb20_ := hall 20 (by kernel_rfl)
       have hb21_ := hall 21 (by kernel_rfl)
       subst ha
       obtain rfl := Q_X10_ hb10_
       obtain rfl := Q_X12_ hb12_
       obtain rfl := Q_X13_ hb13_
       simp only [qbq, hb0_, hb1_, hb2_, hb3_, hb4_, hb5_, hb6_, hb7_, hb8_, hb9_, hb10_, hb11_, hb12_, hb13_, hb14_, hb15_, hb16_, hb17_, hb18_, hb19_, hb20_, hb21_, if_true, Act.put, List.setIfInBounds_toArray, List.set_cons_zero, List.set_cons_succ]
       clear Q_CC
       have HB5 := Aside0.mk (Q_HB5 hb4_)
       clear Q_HB5
       have HK5 := Aside0.mk (Q_HK5 hb4_)
       clear Q_HK5
       have HW5 := Aside0.mk (Q_HW5 hb4_)
       clear Q_HW5
       clear hall hb0_ hb1_ hb2_ hb3_ hb4_ hb5_ hb6_ hb7_ hb8_ hb9_ hb10_ hb11_ hb12_ hb13_ hb14_ hb15_ hb16_ hb17_ hb18_ hb19_ hb20_ hb21_
       cases be with
       | true =>
        have HE2 := Aside0.mk (show kidsW (walkW ns n) (x.f3.drop (i + 1)) (x.f2.drop (i + 1)) S2 P2 = kidsW (walkW ns n) x.f3 x.f2 (s.set k true) p from by
         have h := HE.out
         rw [if_pos ⟨rfl, HMO.out, by show (qcG P2 P.length).toList = _; rw [HKY.out]; exact beq_iff_eq.1 HEQ.out⟩] at h
         exact h)
        go_wp2_with fail
        go_roundw
        case rel => exact ⟨i + 1, S2, P2, _, _, by omega, by go_num, HI2, HW5, HB5, ⟨HKD.out.trans HK5.out⟩, ⟨HK5.out _ _ _ HND.out HGN.out (by decide) (by decide)⟩, HE2⟩
        case measure => simp [intOf]; omega
       | false =>
        have HF := Aside0.mk (show (walkW ns (n + 1) (k : Int) s p).1 = false from by
         have h := HE.out
         rw [if_neg (fun h => by have h2 : (qcG P2 P.length).toList = m.toList := h.2.2; rw [HKY.out] at h2; have h3 := HEQ.out; rw [h2, beq_self_eq_true] at h3; cases h3)] at h
         rw [HGD.out, ← h])
        go_wp2_with fail
        go_ret
        rw [HF.out]
        exact ⟨rfl, HB5.out, HKD.out.trans HK5.out, fun h => by cases h⟩
     ·have he : i = x.f3.length := by omega
      have c5 : decide ((i : Int) < (x.f3.length : Int)) = false := decide_eq_false (by omega)
      have hE := HEr.out
      rw [he, List.drop_length, qek] at hE
      have HF := Aside0.mk (show walkW ns (n + 1) (k : Int) s p = (true, S, P) from by rw [HGD.out, ← hE])
      clear hE he
      go_wp2_with fail
      go_ret
      rw [HF.out]
      exact ⟨rfl, HBr.out, HKr.out, fun _ => ⟨_, _, HWr.out⟩⟩
end Go.Proofs.Ytenfomejccfkgaa.X
