import Derived.Test.YtenfomejccfkgaaKFnExactCountRefs4
import Derived.Test.YtenfomejccfkgaaKFnExactCountRefs6
import Derived.Test.YtenfomejccfkgaaKFnExactCountRefs7
import Derived.Test.YtenfomejccfkgaaKFnExactCountRefs8
import Derived.Test.YtenfomejccfkgaaKFnExactCountRefs9
import Derived.Test.YtenfomejccfkgaaKFnExactCountRefs12
import Derived.Test.YtenfomejccfkgaaKFnExactCountRefs13
import Derived.LoopTactic
import Derived.WalkSpells
import Derived.Deep.RegionLaw
import Derived.Deep.RegionHeld3
namespace Go.Proofs.Ytenfomejccfkgaa.X
open Go.RowKit Go.Proofs.YtenfomejccfkgaaW.PrintWords Go.Proofs.YtenfomejccfkgaaW.PrintLast Go.Proofs.YtenfomejccfkgaaW.PrintMore
attribute [local go_sem] qaC qaD qaE qay qaz qaO qaP qas qat qaA qaB
set_option linter.unusedVariables false
set_option linter.unusedSimpArgs false
def LkAt (w0 w : World) (g : Nat) (vh vp vs : Value) (b : Bool) (p : List S99) (s : List Bool) : Prop :=
 w0.heap.size ≤ g ∧ w.heap[g]? = some (.cells #[vh, vp, vs, .bool b] 152 (0, 0)) ∧ Kd.R Kd.bool 4 w w0.heap.size (fun _ => True) vs s ∧ Kd.R k99 99 w w0.heap.size (fun _ => True) vp p
theorem LkAt.below {w0 w w1 : World} {g : Nat} {vh vp vs : Value} {b : Bool} {s : List Bool} {p : List S99} (h : LkAt w0 w g vh vp vs b p s) (hb : Below w.heap.size w w1) : LkAt w0 w1 g vh vp vs b p s :=
 ⟨h.1, qar h.2.1 hb, Kd.qbj h.2.2.1 hb, Kd.qbj h.2.2.2 hb⟩
theorem LkAt.qdl {w0 w : World} {g : Nat} {vh vp vs : Value} {b : Bool} {s : List Bool} {p : List S99} (h : LkAt w0 w g vh vp vs b p s) (b' : Bool) : LkAt w0 (w.setCell ⟨g, 3, none⟩ (.bool b')) g vh vp vs b' p s :=
 ⟨h.1, qdY h.2.1 3 _, Kd.qfq h.2.2.1 h.2.1 (qeq (by decide)) _ _, Kd.qfq h.2.2.2 h.2.1 (qer (by decide)) _ _⟩
theorem KeptT.set {w w' : World} {g : Nat} (h : KeptT w w' g) (j : Nat) (v : Value) : KeptT w (w'.setCell ⟨g, j, none⟩ v) g := fun kk cells t h1 h2 h3 h4 => qb8 (h kk cells t h1 h2 h3 h4) h2 _
def walkS.T10 : Bool × List (List Nat × List Nat) := (true, [([], []), ([], []), ([1], [1]), ([2], [2]), ([3], [3]), ([4], [4]), ([5], [5]), ([5], [5]), ([7, 5], [5, 7]), ([8, 5], [5, 8]), ([9, 5], [5, 9]), ([10, 5], [5, 10]), ([6, 11, 5], [5, 6, 11]), ([5, 12], [5, 12]), ([13, 5], [13]), ([14], [14]), ([15, 14], [14, 15]), ([16, 14], [14, 16]), ([17, 14], [14, 17]), ([14], [14]), ([18, 19, 14], [14, 18, 19]), ([20, 14], [14, 20]), ([21, 14], [14, 21]), ([14], [14]), ([23, 14], [14, 23]), ([14], [14]), ([24, 25, 14], [14, 24, 25]), ([26, 14], [14, 26]), ([22, 27, 14], [14, 22, 27]), ([14, 28], [14, 28]), ([0, 0, 1, 2, 3, 4, 5, 6, 7, 8, 9, 10, 11, 12, 13, 14, 15, 16, 17, 18, 19, 20, 21, 22, 23, 24, 25, 26, 27, 28, 29], [0]), ([30, 0, 1, 2, 3, 4, 5, 6, 7, 8, 9, 10, 11, 12, 13, 14, 15, 16, 17, 18, 19, 20, 21, 22, 23, 24, 25, 26, 27, 28, 29], [30]), ([31, 29, 14, 0, 1, 2, 3, 4, 5, 6, 7, 8, 9, 10, 11, 12, 13, 14, 15, 16, 17, 18, 19, 20, 21, 22, 23, 24, 25, 26, 27, 28, 29], [29, 31])])
def walkS.B10 : List Nat := [0, 0, 2, 6, 14, 30, 62, 62, 190, 446, 958, 1982, 4094, 8190, 16382, 32766, 65534, 131070, 262142, 32766, 1048574, 2097150, 4194302, 32766, 8421374, 32766, 58753022, 125861886, 268435454, 536870910, 1073741823, 2147483647, 4294967295]
theorem walkS.tab10 : rtab .any (opsOf Try.f119 10) = walkS.T10 := by kernel_rfl
theorem walkS.qhg : qbX walkS.T10.2 walkS.B10 = true := by kernel_rfl
def walkS.T4 : Bool × List (List Nat × List Nat) := (true, [([], []), ([], []), ([1], [1]), ([2], [2]), ([3], [3]), ([], []), ([5], [5]), ([4, 6], [4, 6]), ([0, 0, 1, 2, 3, 4, 5, 6, 7], [0]), ([8, 0, 1, 2, 3, 4, 5, 6, 7], [8]), ([9, 7, 7, 0, 1, 2, 3, 4, 5, 6, 7], [7, 9])])
def walkS.B4 : List Nat := [0, 0, 2, 6, 14, 0, 32, 126, 255, 511, 1023]
theorem walkS.tab4 : rtab .any (opsOf Try.f119 4) = walkS.T4 := by kernel_rfl
theorem walkS.bits4 : qbX walkS.T4.2 walkS.B4 = true := by kernel_rfl
set_option maxHeartbeats 16000000 in
set_option maxRecDepth 100000 in
theorem qhj (ns : List S56) (w0 : World) (Ah : Option Addr) (ch : Nat) (hh : Kd.C k56 w0 Ah ns.length ns) (hl : ns.length = 50) (hbd : qdk ns) : ∀ (n : Nat) (k d : Int) (s : List Bool) (p : List S99) (w : World) (g : Nat) (vp vs : Value), 0 ≤ d → d + (n : Int) = 21 → WI 50 150 s p → Below w0.heap.size w0 w → LkAt w0 w g (.slice Ah ns.length ch) vp vs true p s →
  Calls Try.prog 119 #[.pointer (some ⟨g, 0, none⟩), .int .i64 k, .int .i64 d] w fun e w' => e = .returned (.tuple #[]) ∧ Below w0.heap.size w0 w' ∧ KeptT w w' g ∧ ∃ vp' vs' : Value, LkAt w0 w' g (.slice Ah ns.length ch) vp' vs' (walkW ns n k s p).1 (walkW ns n k s p).2.2 (walkW ns n k s p).2.1 := by
 have hu := Try.underlying56
 have hu2 := Try.underlying152
 have hu3 := Try.underlying29
 intro n
 induction n with
 | zero =>
  intro k d s p w g vp vs hd0 hd hI hB hW
  have HB := Aside0.mk hB
  have HW := Aside0.mk hW
  have c1 : decide (20 < d) = true := decide_eq_true (by omega)
  obtain ⟨d0, d1, d2, d3⟩ := qbH hW.2.1
  have d4 := qad hW.2.1 3
  clear hI hB hW hd hd0 hh hbd
  go_enter Try.func119, Try.ntmps119
  go_wp2_with fail
  ((try simp only [Exit.inBlock, Exit.then]); refine bodyPost_ret (results_none rfl _ _ _) rfl ?_)
  exact ⟨rfl, HB.out.setCell (p := ⟨g, 3, none⟩) HW.out.1 _, (KeptT.refl _ _).set _ _, _, _, HW.out.qdl false⟩
 | succ n ih =>
  intro k d s p w g vp vs hd0 hd hI hB hW
  have c1 : decide (20 < d) = false := decide_eq_false (by omega)
  have hlen := hI.len
  obtain ⟨gs, cs, rfl, hgs, _, scells, hsc⟩ := Kd.qce hW.2.2.1 (by omega)
  obtain ⟨d0, d1, d2, d3⟩ := qbH hW.2.1
  have d4 := qad hW.2.1 3
  have hwr : IntKind.i64.wrap ((ns.length : Int) - 1) = (ns.length : Int) - 1 := by rw [IntKind.wrap_i64]; omega
  have hin := qf9 k 0 ((ns.length : Int) - 1)
  cases hr : inB k 0 ((ns.length : Int) - 1) with
  | false =>
   have hgd : walkW ns (n + 1) k s p = (false, s, p) := by
    unfold walkW
    rw [if_neg (fun h => by have h1 := h.1; have h2 := h.2.1; unfold inB at hr; rw [decide_eq_true h1, decide_eq_true (by omega)] at hr; cases hr)]
   rw [hgd]
   rw [hr] at hin
   have HIN := Aside0.mk hin
   have HB := Aside0.mk hB
   have HW := Aside0.mk hW
   clear hI hB hW hsc hgs hh ih hd hd0 hgd hlen hl hbd hin hr
   go_enter Try.func119, Try.ntmps119
   go_wp2_with fail
   refine (qaK.calls _ _ _ _ _ HIN.out).mono ?_
   rintro e W1 ⟨rfl, hdr⟩
   have HB1 := Aside0.mk (qai HB.out hdr.below)
   have HW1 := Aside0.mk (HW.out.below hdr.below)
   have HK1 := Aside0.mk ((KeptT.refl w g).below hdr.below)
   clear hdr d0 d1 d2 d3 d4
   obtain ⟨d0, d1, d2, d3⟩ := qbH HW1.out.2.1
   have d4 := qad HW1.out.2.1 3
   go_wp2_with fail
   ((try simp only [Exit.inBlock, Exit.then]); refine bodyPost_ret (results_none rfl _ _ _) rfl ?_)
   exact ⟨rfl, HB1.out.setCell (p := ⟨g, 3, none⟩) HW.out.1 _, HK1.out.set _ _, _, _, HW1.out.qdl false⟩
  | true =>
  have hk0 : 0 ≤ k ∧ k < 50 := by unfold inB at hr; simp only [Bool.and_eq_true, decide_eq_true_eq] at hr; omega
  rw [hr] at hin
  have HIN := Aside0.mk hin
  obtain ⟨kk, rfl⟩ : ∃ kk : Nat, k = (kk : Int) := ⟨k.toNat, by omega⟩
  have hk : kk < 50 := by omega
  have p1 : 0 ≤ (kk : Int) := by omega
  have q1 : (kk : Int) < (s.length : Int) := by omega
  have q2 : (kk : Int) < (ns.length : Int) := by omega
  have hIN2 := hr
  cases hsk : rdOf false s (kk : Int) with
  | true =>
   have hgd : walkW ns (n + 1) (kk : Int) s p = (false, s, p) := by
    unfold walkW
    rw [if_neg (fun h => by have := h.2.2.1; rw [hsk] at this; cases this)]
   rw [hgd]
   have HB := Aside0.mk hB
   have HW := Aside0.mk hW
   have HSK := Aside0.mk hsk
   clear hI hB hW hsc hgs hh ih hd hd0 hgd hlen hl hbd hin hr hsk hk hk0 hIN2
   go_enter Try.func119, Try.ntmps119
   go_wp2_with fail
   refine (qaK.calls _ _ _ _ _ HIN.out).mono ?_
   rintro e W1 ⟨rfl, hdr⟩
   have HB1 := Aside0.mk (qai HB.out hdr.below)
   have HW1 := Aside0.mk (HW.out.below hdr.below)
   have HK1 := Aside0.mk ((KeptT.refl w g).below hdr.below)
   clear hdr d0 d1 d2 d3 d4
   obtain ⟨d0, d1, d2, d3⟩ := qbH HW1.out.2.1
   have d4 := qad HW1.out.2.1 3
   obtain ⟨hx0, hx1⟩ := Kd.qca false HW1.out.2.2.1 (kk : Int) p1 q1
   rw [Int.toNat_natCast] at hx0 hx1
   rw [HSK.out] at hx0
   go_wp2_with fail
   ((try simp only [Exit.inBlock, Exit.then]); refine bodyPost_ret (results_none rfl _ _ _) rfl ?_)
   exact ⟨rfl, HB1.out.setCell (p := ⟨g, 3, none⟩) HW.out.1 _, HK1.out.set _ _, _, _, HW1.out.qdl false⟩
  | false =>
   obtain ⟨adh, B1, b1, B2, b2, B3, b3, e1, n0, n1, n2, n3, l1, C1, l2, C2, l3, C3⟩ := qdj hh (kk : Int) p1 q2
   cases e1
   obtain ⟨x, hx⟩ : ∃ x, x = qaG ns (kk : Int) := ⟨_, rfl⟩
   rw [← hx] at n0 n1 n2 n3 l1 C1 l2 C2 l3 C3
   rw [Int.toNat_natCast] at n0 n1 n2 n3
   have hmax : x.f3.length < 9223372036854775807 := by have := qfO hbd q2 p1; rw [← hx] at this; omega
   obtain ⟨ko, hko⟩ := Ev.rounds (qgb x.f0 x.f1 x.f2 x.f3 hmax)
   have HKO := Aside0.mk (show qaw.f ko x.f0 x.f1 x.f2 x.f3 = some (nbN x) from hko)
   have HFO := Aside0.mk (show qbz.f x.f0 x.f1 x.f2 x.f3 = some (fbN x) from qfM x.f0 x.f1 x.f2 x.f3)
   have HI := Aside0.mk hI
   have HB := Aside0.mk hB
   have HW := Aside0.mk hW
   have HX := Aside0.mk hx
   have HLL := Aside0.mk hlen
   have HC1 := Aside0.mk (And.intro l1 C1)
   have HC2 := Aside0.mk (And.intro l2 C2)
   have HC3 := Aside0.mk (And.intro l3 C3)
   have HH := Aside0.mk hh
   have HIH := Aside0.mk ih
   have HD := Aside0.mk (And.intro hd hd0)
   have HSK := Aside0.mk hsk
   have HL := Aside0.mk hl
   have HBD := Aside0.mk hbd
   have HG := Aside0.mk hW.1
   have N0 := Aside0.mk (And.intro n0 (And.intro n1 (And.intro n2 n3)))
   clear hI hB hW hsc hgs hh ih hd hd0 hlen hl hbd hin hr hsk hk hk0 hIN2 hx C1 C2 C3 l1 l2 l3 hko hmax n0 n1 n2 n3
   go_enter Try.func119, Try.ntmps119
   go_wp2_with fail
   refine (qaK.calls _ _ _ _ _ HIN.out).mono ?_
   rintro e W1 ⟨rfl, hdr⟩
   have HB1 := Aside0.mk (qai HB.out hdr.below)
   have HW1 := Aside0.mk (HW.out.below hdr.below)
   have HK1 := Aside0.mk ((KeptT.refl w g).below hdr.below)
   clear hdr d0 d1 d2 d3 d4 HB HW
   obtain ⟨d0, d1, d2, d3⟩ := qbH HW1.out.2.1
   have d4 := qad HW1.out.2.1 3
   obtain ⟨hx0, hx1⟩ := Kd.qca false HW1.out.2.2.1 (kk : Int) p1 q1
   rw [Int.toNat_natCast] at hx0 hx1
   rw [HSK.out] at hx0
   have n0 := (HB1.out.cell (World.block_lt_of_cell? w0 _ N0.out.1)).trans N0.out.1
   have n1 := (HB1.out.cell (World.block_lt_of_cell? w0 _ N0.out.2.1)).trans N0.out.2.1
   have n2 := (HB1.out.cell (World.block_lt_of_cell? w0 _ N0.out.2.2.1)).trans N0.out.2.2.1
   have n3 := (HB1.out.cell (World.block_lt_of_cell? w0 _ N0.out.2.2.2)).trans N0.out.2.2.2
   go_wp2_with fail
   refine (qaw.calls (hr0_1 := Kd.qav HC1.out.2 HB1.out) (hc0_1 := HC1.out.1) (hr0_2 := Kd.qav HC2.out.2 HB1.out) (hc0_2 := HC2.out.1) (hr0_3 := Kd.qav HC3.out.2 HB1.out) (hc0_3 := HC3.out.1) (h := HKO.out)).mono ?_
   rintro e W3 ⟨rfl, hb3⟩
   have HB3 := Aside0.mk (qai HB1.out hb3)
   have HW3 := Aside0.mk (HW1.out.below hb3)
   have HK3 := Aside0.mk (HK1.out.below hb3)
   clear hb3 d0 d1 d2 d3 d4 hx0 hx1 n0 n1 n2 n3 HB1 HW1 HK1
   obtain ⟨d0, d1, d2, d3⟩ := qbH HW3.out.2.1
   have d4 := qad HW3.out.2.1 3
   obtain ⟨hx0, hx1⟩ := Kd.qca false HW3.out.2.2.1 (kk : Int) p1 q1
   rw [Int.toNat_natCast] at hx0 hx1
   have n0 := (HB3.out.cell (World.block_lt_of_cell? w0 _ N0.out.1)).trans N0.out.1
   have n1 := (HB3.out.cell (World.block_lt_of_cell? w0 _ N0.out.2.1)).trans N0.out.2.1
   have n2 := (HB3.out.cell (World.block_lt_of_cell? w0 _ N0.out.2.2.1)).trans N0.out.2.2.1
   have n3 := (HB3.out.cell (World.block_lt_of_cell? w0 _ N0.out.2.2.2)).trans N0.out.2.2.2
   cases hnb : nbN x with
   | false =>
    have hgd : walkW ns (n + 1) (kk : Int) s p = (false, s, p) := by
     unfold walkW
     rw [if_neg (fun h => by have := h.2.2.2.1; rw [← HX.out, hnb] at this; cases this)]
    have HGD := Aside0.mk hgd
    clear hnb hgd n0 n1 n2 n3 hx0 hx1
    go_wp2_with fail
    ((try simp only [Exit.inBlock, Exit.then]); refine bodyPost_ret (results_none rfl _ _ _) rfl ?_)
    rw [HGD.out]
    exact ⟨rfl, HB3.out.setCell (p := ⟨g, 3, none⟩) HG.out _, HK3.out.set _ _, _, _, HW3.out.qdl false⟩
   | true =>
   go_wp2_with fail
   refine (qbz.calls (hr0_1 := Kd.qav HC1.out.2 HB3.out) (hc0_1 := HC1.out.1) (hr0_2 := Kd.qav HC2.out.2 HB3.out) (hc0_2 := HC2.out.1) (hr0_3 := Kd.qav HC3.out.2 HB3.out) (hc0_3 := HC3.out.1) (h := HFO.out)).mono ?_
   rintro e W4 ⟨rfl, hb4⟩
   have HB4 := Aside0.mk (qai HB3.out hb4)
   have HW4 := Aside0.mk (HW3.out.below hb4)
   have HK4 := Aside0.mk (HK3.out.below hb4)
   clear hb4 d0 d1 d2 d3 d4 hx0 hx1 n0 n1 n2 n3 HB3 HW3 HK3
   obtain ⟨d0, d1, d2, d3⟩ := qbH HW4.out.2.1
   have d4 := qad HW4.out.2.1 3
   cases hfb : fbN x with
   | true =>
    have hgd : walkW ns (n + 1) (kk : Int) s p = (false, s, p) := by
     unfold walkW
     rw [if_neg (fun h => by have := h.2.2.2.2; rw [← HX.out, hfb] at this; cases this)]
    have HGD := Aside0.mk hgd
    clear hfb hgd
    go_wp2_with fail
    ((try simp only [Exit.inBlock, Exit.then]); refine bodyPost_ret (results_none rfl _ _ _) rfl ?_)
    rw [HGD.out]
    exact ⟨rfl, HB4.out.setCell (p := ⟨g, 3, none⟩) HG.out _, HK4.out.set _ _, _, _, HW4.out.qdl false⟩
   | false =>
   have hgd : walkW ns (n + 1) (kk : Int) s p = kidsW (walkW ns n) x.f3 x.f2 (s.set kk true) (p ++ x.f1) := by
    unfold walkW
    rw [if_pos (show goodW ns (kk : Int) s from ⟨p1, q2, HSK.out, by rw [← HX.out]; exact hnb, by rw [← HX.out]; exact hfb⟩), ← HX.out, Int.toNat_natCast]
   have hkids : x.f3.length ≤ 4 ∧ x.f2.length = x.f3.length ∧ x.f1.length ≤ 3 ∧ (∀ q, q ∈ x.f1 → okP q = true) ∧ ∀ i : Nat, i < x.f3.length → 0 ≤ rd x.f3 i ∧ rd x.f3 i ≤ 49 := by
    cases hlf : x.f0 with
    | true =>
     obtain ⟨z3, z2, z1, z4, z5⟩ := qdw hnb hfb hlf
     rw [z3, z2]
     exact ⟨by simp, rfl, z4, z5, fun i hi => absurd hi (by simp)⟩
    | false =>
     obtain ⟨z1, z2, z3, z4, z5⟩ := qda hnb hfb hlf
     rw [z1]
     exact ⟨z3, z4, by simp, fun q hq => (by cases hq), z5⟩
   have HGD := Aside0.mk hgd
   have HZ := Aside0.mk hkids
   have hz3 : x.f3.length ≤ 4 := hkids.1
   have HI4 := Aside0.mk (show WI 50 150 (s.set kk true) (p ++ x.f1) from by
    have hc := qel (s := s) (i := kk) (by have := HLL.out; omega) (by have := HSK.out; unfold rdOf at this; rw [Int.toNat_natCast] at this; exact this)
    exact ⟨by rw [List.length_set]; exact HLL.out, by have := HI.out.room; have := HZ.out.2.2.1; rw [List.length_append]; omega, fun q hq => (List.mem_append.1 hq).elim (HI.out.good q) (HZ.out.2.2.2.1 q)⟩)
   have hroom := HI.out.room
   have HRM := Aside0.mk (show p.length ≤ 150 by omega)
   clear hroom hkids hgd hnb hfb
   obtain ⟨hx0, hx1⟩ := Kd.qca false HW4.out.2.2.1 (kk : Int) p1 q1
   rw [Int.toNat_natCast] at hx0 hx1
   obtain ⟨_, _, _, _, _, scells, hsc⟩ := Kd.qce HW4.out.2.2.1 (by have := HLL.out; omega)
   rename_i gs_ cs_ hv_ hgs_ _
   injection hv_ with v1 _ v2
   injection v1 with v1
   injection v1 with v1
   subst v1; subst v2
   obtain ⟨W1, hW1⟩ : ∃ W1, W1 = W4.setCell ⟨gs, kk, none⟩ (.bool true) := ⟨_, rfl⟩
   have hB1 : Below w0.heap.size w0 W1 := hW1 ▸ HB4.out.setCell (p := ⟨gs, kk, none⟩) hgs_ _
   have hL1 : LkAt w0 W1 g (.slice (some adh) ns.length ch) vp (.slice (some ⟨gs, 0, none⟩) s.length cs) true p (s.set kk true) := hW1 ▸ ⟨HG.out, qb8 HW4.out.2.1 (qfm HW4.out.2.1 hsc (by decide)) _, Kd.qgW HW4.out.2.2.1 (kk : Int) true, Kd.qfq HW4.out.2.2.2 hsc (qer (by decide)) _ _⟩
   have hK1 : KeptT w W1 g := fun q cells t h1 h0 h2 h3 => hW1 ▸ qb8 (HK4.out q cells t h1 h0 h2 h3) (qfm (HK4.out q cells t h1 h0 h2 h3) hsc (Ne.symm h2)) _
   have n0 := (hB1.cell (World.block_lt_of_cell? w0 _ N0.out.1)).trans N0.out.1
   have n1 := (hB1.cell (World.block_lt_of_cell? w0 _ N0.out.2.1)).trans N0.out.2.1
   have n2 := (hB1.cell (World.block_lt_of_cell? w0 _ N0.out.2.2.1)).trans N0.out.2.2.1
   have n3 := (hB1.cell (World.block_lt_of_cell? w0 _ N0.out.2.2.2)).trans N0.out.2.2.2
   obtain ⟨dd0, dd1, dd2, dd3⟩ := qbH hL1.2.1
   obtain ⟨W2, hW2⟩ : ∃ W2, W2 = W1.alloc (.cells #[.bool x.f0, .slice B1 x.f1.length b1, .slice B2 x.f2.length b2, .slice B3 x.f3.length b3] 56 (0, 0)) := ⟨_, rfl⟩
   obtain ⟨nb, hnbq⟩ : ∃ nb, nb = W1.heap.size := ⟨_, rfl⟩
   have HGN := Aside0.mk (show nb ≠ g by have := qbt hL1.2.1; omega)
   have HB2 := Aside0.mk (show Below w0.heap.size w0 W2 from hW2 ▸ qab hB1 _)
   have HW2 := Aside0.mk (show LkAt w0 W2 g (.slice (some adh) ns.length ch) vp (.slice (some ⟨gs, 0, none⟩) s.length cs) true p (s.set kk true) from hW2 ▸ hL1.below (qab (Below.refl _ _) _))
   have HK2 := Aside0.mk (show KeptT w W2 g from hW2 ▸ hK1.below (qab (Below.refl _ _) _))
   have HN2 := Aside0.mk (show W2.heap[nb]? = some (.cells #[.bool x.f0, .slice B1 x.f1.length b1, .slice B2 x.f2.length b2, .slice B3 x.f3.length b3] 56 (0, 0)) from hW2 ▸ hnbq ▸ qcn W1 _)
   clear hgs_ hsc hB1 hL1 hK1 HB4 HK4 HW4
   go_upto_region 3 with fail
   rw [← hW1]
   clear hW1 d0 d1 d2 d3 d4 hx0 hx1
   go_upto_region 4 with fail
   rw [← hW2, ← hnbq]
   clear hW2 n0 n1 n2 n3 dd0 dd1 dd2 dd3 hnbq
   obtain ⟨vpA, vpc, ev, _, _⟩ := Kd.qbP HW2.out.2.2.2
   subst ev
   have BK0 := Aside0.mk (qao HW2.out.2.1)
   have HPo := Aside0.mk (Kd.qbi HW2.out.2.2.2)
   have HSx := Aside0.mk (Kd.qbi HW2.out.2.2.1)
   have HB5 := Aside0.mk (qbr HB2.out)
   have HK5 := Aside0.mk (HK2.out.below (qbr (Below.refl _ W2)))
   have NBX := Aside0.mk (qao HN2.out)
   clear HB2 HK2 HN2 HW2
   refine qcz (n := 11) (S := fun w' => True) (ds := []) #[false, false, false, false, false, false, false, false, false, false, false] (by kernel_rfl) rfl rfl trivial (fun hHeld => ?_)
   refine qbU walkS.tab4 walkS.bits4 (fun HT_ HW_ => ?_)
   generalize W2.drew = wd at BK0 HPo HSx HB5 HK5 NBX ⊢
   refine qcY [0, 1, 2, 3, 4, 5, 6, 7, 8, 9, 10] (fun a0_ b a w' => ∃ (Az : Option Addr) (cz : Nat) (m7_ : Value), a = qbq a0_ b [(0, 79, .pointer (some ⟨g, 0, none⟩)), (1, 80, .pointer (some ⟨g, 0, none⟩)), (2, 81, .pointer (some ⟨g, 0, none⟩)), (3, 82, .pointer (some ⟨g, 1, none⟩)), (4, 83, .slice vpA p.length vpc), (5, 84, .pointer (some ⟨nb, 1, none⟩)), (6, 85, .slice B1 x.f1.length b1), (7, 86, m7_), (8, 87, .pointer (some ⟨g, 0, none⟩)), (9, 88, .pointer (some ⟨g, 1, none⟩))] ∧ (b 10 = false → w'.heap[g]? = some (.cells #[.slice (some adh) ns.length ch, .slice vpA p.length vpc, .slice (some ⟨gs, 0, none⟩) s.length cs, .bool true] 152 (0, 0))) ∧ (b 7 = false → Kd.R k99 99 w' w0.heap.size (fun _ => True) (.slice vpA p.length vpc) p) ∧ (b 7 = true → Kd.R k99 99 w' w0.heap.size (fun _ => True) (.slice Az (p ++ x.f1).length cz) (p ++ x.f1)) ∧ (b 10 = true → w'.heap[g]? = some (.cells #[.slice (some adh) ns.length ch, .slice Az (p ++ x.f1).length cz, .slice (some ⟨gs, 0, none⟩) s.length cs, .bool true] 152 (0, 0))) ∧ (Kd.R Kd.bool 4 w' w0.heap.size (fun _ => True) (.slice (some ⟨gs, 0, none⟩) s.length cs) (s.set kk true)) ∧ (Below w0.heap.size w0 w') ∧ (KeptT w w' g) ∧ (w'.heap[nb]? = some (.cells #[.bool x.f0, .slice B1 x.f1.length b1, .slice B2 x.f2.length b2, .slice B3 x.f3.length b3] 56 (0, 0))) ∧ (b 7 = true → (m7_ : Value) = .slice Az (p ++ x.f1).length cz)) HT_.out HW_.out (by kernel_rfl) (by kernel_rfl) ?_ ?_ ?_
   ·exact ⟨none, 0, .bool false, by simp only [qbq, Bool.false_eq_true, if_false], fun _ => BK0.out, fun _ => HPo.out, fun h_ => absurd h_ (by decide), fun h_ => absurd h_ (by decide), HSx.out, HB5.out, HK5.out, NBX.out, fun h_ => absurd h_ (by decide)⟩
   ·skip
    clear BK0 HB5 HK5 HPo HSx NBX
    refine qag ?_ ?_
    ·rintro b a w' ⟨Az, cz, m7_, ha, Q_BK0, Q_HPo, Q_HPn, Q_BK1, Q_HSx, Q_HB5, Q_HK5, Q_NBX, Q_X7_⟩ hb_ hon hoff
     refine ⟨_, rfl, fun K hK => ?_⟩
     have e0 : a.tmps[0]? = some (.pointer (some ⟨g, 0, none⟩)) := by rw [ha]; exact (qa7 rfl).trans rfl
     replace ha := Aside0.mk ha
     refine qaJ (w1 := w') (v := .pointer (some ⟨g, 0, none⟩)) (by rfl) rfl ?_ ?_
     ·go_simp
      (try simp only [qaS])
      try rfl
     refine hK.out _ _ ⟨Az, cz, m7_, (by rw [ha.out]; exact qah 0 hb_ rfl rfl rfl), Q_BK0, Q_HPo, Q_HPn, fun h0_ => absurd ((hoff 10 (by kernel_rfl)).symm.trans h0_) (by decide), Q_HSx, Q_HB5, Q_HK5, Q_NBX, Q_X7_⟩
    refine qag ?_ ?_
    ·rintro b a w' ⟨Az, cz, m7_, ha, Q_BK0, Q_HPo, Q_HPn, Q_BK1, Q_HSx, Q_HB5, Q_HK5, Q_NBX, Q_X7_⟩ hb_ hon hoff
     refine ⟨_, rfl, fun K hK => ?_⟩
     have e0 : a.tmps[0]? = some (.pointer (some ⟨g, 0, none⟩)) := by rw [ha]; exact (qa7 rfl).trans rfl
     replace ha := Aside0.mk ha
     refine qaJ (w1 := w') (v := .pointer (some ⟨g, 0, none⟩)) (by rfl) rfl ?_ ?_
     ·go_simp
      (try simp only [qaS])
      try rfl
     refine hK.out _ _ ⟨Az, cz, m7_, (by rw [ha.out]; exact qah 1 hb_ rfl rfl rfl), Q_BK0, Q_HPo, fun h0_ => absurd ((hoff 7 (by kernel_rfl)).symm.trans h0_) (by decide), fun h0_ => absurd ((hoff 10 (by kernel_rfl)).symm.trans h0_) (by decide), Q_HSx, Q_HB5, Q_HK5, Q_NBX, fun h0_ => absurd ((hoff 7 (by kernel_rfl)).symm.trans h0_) (by decide)⟩
    refine qag ?_ ?_
    ·rintro b a w' ⟨Az, cz, m7_, ha, Q_BK0, Q_HPo, Q_HPn, Q_BK1, Q_HSx, Q_HB5, Q_HK5, Q_NBX, Q_X7_⟩ hb_ hon hoff
     refine ⟨_, rfl, fun K hK => ?_⟩
     have e80 : a.tmps[80]? = some (.pointer (some ⟨g, 0, none⟩)) := on_ ha 1 rfl rfl (hon 1 (by kernel_rfl)) rfl
     replace ha := Aside0.mk ha
     refine qaJ (w1 := w') (v := .pointer (some ⟨g, 0, none⟩)) (by rfl) rfl ?_ ?_
     ·go_simp
      (try simp only [qaS])
      try rfl
     refine hK.out _ _ ⟨Az, cz, m7_, (by rw [ha.out]; exact qah 2 hb_ rfl rfl rfl), Q_BK0, Q_HPo, fun h0_ => absurd ((hoff 7 (by kernel_rfl)).symm.trans h0_) (by decide), fun h0_ => absurd ((hoff 10 (by kernel_rfl)).symm.trans h0_) (by decide), Q_HSx, Q_HB5, Q_HK5, Q_NBX, fun h0_ => absurd ((hoff 7 (by kernel_rfl)).symm.trans h0_) (by decide)⟩
    refine qag ?_ ?_
    ·rintro b a w' ⟨Az, cz, m7_, ha, Q_BK0, Q_HPo, Q_HPn, Q_BK1, Q_HSx, Q_HB5, Q_HK5, Q_NBX, Q_X7_⟩ hb_ hon hoff
     refine ⟨_, rfl, fun K hK => ?_⟩
     have e81 : a.tmps[81]? = some (.pointer (some ⟨g, 0, none⟩)) := on_ ha 2 rfl rfl (hon 2 (by kernel_rfl)) rfl
     replace ha := Aside0.mk ha
     refine qaJ (w1 := w') (v := .pointer (some ⟨g, 1, none⟩)) (by rfl) rfl ?_ ?_
     ·go_simp
      (try simp only [qaS])
      try rfl
     refine hK.out _ _ ⟨Az, cz, m7_, (by rw [ha.out]; exact qah 3 hb_ rfl rfl rfl), Q_BK0, Q_HPo, fun h0_ => absurd ((hoff 7 (by kernel_rfl)).symm.trans h0_) (by decide), fun h0_ => absurd ((hoff 10 (by kernel_rfl)).symm.trans h0_) (by decide), Q_HSx, Q_HB5, Q_HK5, Q_NBX, fun h0_ => absurd ((hoff 7 (by kernel_rfl)).symm.trans h0_) (by decide)⟩
    refine qag ?_ ?_
    ·rintro b a w' ⟨Az, cz, m7_, ha, Q_BK0, Q_HPo, Q_HPn, Q_BK1, Q_HSx, Q_HB5, Q_HK5, Q_NBX, Q_X7_⟩ hb_ hon hoff
     refine ⟨_, rfl, fun K hK => ?_⟩
     have e82 : a.tmps[82]? = some (.pointer (some ⟨g, 1, none⟩)) := on_ ha 3 rfl rfl (hon 3 (by kernel_rfl)) rfl
     replace ha := Aside0.mk ha
     have BK0 := Aside0.mk (Q_BK0 (hoff 10 (by kernel_rfl)))
     have hc_ := (qbH BK0.out).2.1
     refine qaJ (w1 := w') (v := .slice vpA p.length vpc) (by rfl) rfl ?_ ?_
     ·go_simp
      (try simp only [qaS])
      try rfl
     refine hK.out _ _ ⟨Az, cz, m7_, (by rw [ha.out]; exact qah 4 hb_ rfl rfl rfl), Q_BK0, Q_HPo, fun h0_ => absurd ((hoff 7 (by kernel_rfl)).symm.trans h0_) (by decide), fun h0_ => absurd ((hoff 10 (by kernel_rfl)).symm.trans h0_) (by decide), Q_HSx, Q_HB5, Q_HK5, Q_NBX, fun h0_ => absurd ((hoff 7 (by kernel_rfl)).symm.trans h0_) (by decide)⟩
    refine qag ?_ ?_
    ·rintro b a w' ⟨Az, cz, m7_, ha, Q_BK0, Q_HPo, Q_HPn, Q_BK1, Q_HSx, Q_HB5, Q_HK5, Q_NBX, Q_X7_⟩ hb_ hon hoff
     refine ⟨_, rfl, fun K hK => ?_⟩
     have e6 : a.tmps[6]? = some (.pointer (some ⟨nb, 0, none⟩)) := by rw [ha]; exact (qa7 rfl).trans rfl
     replace ha := Aside0.mk ha
     refine qaJ (w1 := w') (v := .pointer (some ⟨nb, 1, none⟩)) (by rfl) rfl ?_ ?_
     ·go_simp
      (try simp only [qaS])
      try rfl
     refine hK.out _ _ ⟨Az, cz, m7_, (by rw [ha.out]; exact qah 5 hb_ rfl rfl rfl), Q_BK0, Q_HPo, fun h0_ => absurd ((hoff 7 (by kernel_rfl)).symm.trans h0_) (by decide), fun h0_ => absurd ((hoff 10 (by kernel_rfl)).symm.trans h0_) (by decide), Q_HSx, Q_HB5, Q_HK5, Q_NBX, fun h0_ => absurd ((hoff 7 (by kernel_rfl)).symm.trans h0_) (by decide)⟩
    refine qag ?_ ?_
    ·rintro b a w' ⟨Az, cz, m7_, ha, Q_BK0, Q_HPo, Q_HPn, Q_BK1, Q_HSx, Q_HB5, Q_HK5, Q_NBX, Q_X7_⟩ hb_ hon hoff
     refine ⟨_, rfl, fun K hK => ?_⟩
     have e84 : a.tmps[84]? = some (.pointer (some ⟨nb, 1, none⟩)) := on_ ha 5 rfl rfl (hon 5 (by kernel_rfl)) rfl
     replace ha := Aside0.mk ha
     have NBX := Aside0.mk Q_NBX
     have hc_ := (qbH NBX.out).2.1
     refine qaJ (w1 := w') (v := .slice B1 x.f1.length b1) (by rfl) rfl ?_ ?_
     ·go_simp
      (try simp only [qaS])
      try rfl
     refine hK.out _ _ ⟨Az, cz, m7_, (by rw [ha.out]; exact qah 6 hb_ rfl rfl rfl), Q_BK0, Q_HPo, fun h0_ => absurd ((hoff 7 (by kernel_rfl)).symm.trans h0_) (by decide), fun h0_ => absurd ((hoff 10 (by kernel_rfl)).symm.trans h0_) (by decide), Q_HSx, Q_HB5, Q_HK5, Q_NBX, fun h0_ => absurd ((hoff 7 (by kernel_rfl)).symm.trans h0_) (by decide)⟩
    refine qag ?_ ?_
    ·rintro b a w' ⟨Az, cz, m7_, ha, Q_BK0, Q_HPo, Q_HPn, Q_BK1, Q_HSx, Q_HB5, Q_HK5, Q_NBX, Q_X7_⟩ hb_ hon hoff
     refine ⟨_, rfl, fun K hK => ?_⟩
     have e83 : a.tmps[83]? = some (.slice vpA p.length vpc) := on_ ha 4 rfl rfl (hon 4 (by kernel_rfl)) rfl
     have e85 : a.tmps[85]? = some (.slice B1 x.f1.length b1) := on_ ha 6 rfl rfl (hon 6 (by kernel_rfl)) rfl
     replace ha := Aside0.mk ha
     have BK0 := Aside0.mk (Q_BK0 (hoff 10 (by kernel_rfl)))
     have HPo := Aside0.mk (Q_HPo hb_)
     have HSx := Aside0.mk Q_HSx
     have HB5 := Aside0.mk Q_HB5
     have HK5 := Aside0.mk Q_HK5
     have NBX := Aside0.mk Q_NBX
     refine Kd.qcL k99 (w0 := w0) w0.heap.size (by rfl) (.tmp 83) (.tmp 85) 33 99 (.agg #[.string ⟨#[]⟩, .string ⟨#[]⟩]) 32 rfl Try.underlying33 qg9 rfl (by decide) (by omega) (.slice vpA p.length vpc) p x.f1 _ _ _ (fun _ => True) (fun _ => False) (qg8 e83) (qg8 e85) HPo.out (Kd.qav HC1.out.2 HB5.out) (fun _ _ h => h) (fun _ h => h.elim) (fun _ _ => trivial) HB5.out HB5.out.size (by have := HZ.out.2.2.1; have := HRM.out; omega) ?_
     intro v1 w1 ho1 hb1 hg1 hat1
     obtain ⟨Az_, cz_, ev_, _, _⟩ := Kd.qbP ho1
     subst ev_
     refine hK.out _ _ ⟨Az_, cz_, (.slice Az_ (p ++ x.f1).length cz_), (by rw [ha.out]; exact qah 7 hb_ rfl rfl rfl), fun _ => qbR BK0.out hg1 (Kd.R_ne HPo.out BK0.out (by decide)), fun h0_ => absurd ((qcy b 7).symm.trans h0_) (by decide), fun _ => ho1, fun h0_ => absurd ((hoff 10 (by kernel_rfl)).symm.trans h0_) (by decide), Kd.R_over HSx.out HPo.out (qeq (by decide)) hg1, hb1, fun kk cells t h1 h2 h3 h4 => qbR (HK5.out kk cells t h1 h2 h3 h4) hg1 (Kd.R_ne HPo.out (HK5.out kk cells t h1 h2 h3 h4) h4), qbR NBX.out hg1 (Kd.R_ne HPo.out NBX.out (by decide)), fun _ => rfl⟩
    refine qag ?_ ?_
    ·rintro b a w' ⟨Az, cz, m7_, ha, Q_BK0, Q_HPo, Q_HPn, Q_BK1, Q_HSx, Q_HB5, Q_HK5, Q_NBX, Q_X7_⟩ hb_ hon hoff
     refine ⟨_, rfl, fun K hK => ?_⟩
     have e79 : a.tmps[79]? = some (.pointer (some ⟨g, 0, none⟩)) := on_ ha 0 rfl rfl (hon 0 (by kernel_rfl)) rfl
     replace ha := Aside0.mk ha
     refine qaJ (w1 := w') (v := .pointer (some ⟨g, 0, none⟩)) (by rfl) rfl ?_ ?_
     ·go_simp
      (try simp only [qaS])
      try rfl
     refine hK.out _ _ ⟨Az, cz, m7_, (by rw [ha.out]; exact qah 8 hb_ rfl rfl rfl), Q_BK0, fun h0_ => absurd ((hon 7 (by kernel_rfl)).symm.trans h0_) (by decide), Q_HPn, fun h0_ => absurd ((hoff 10 (by kernel_rfl)).symm.trans h0_) (by decide), Q_HSx, Q_HB5, Q_HK5, Q_NBX, Q_X7_⟩
    refine qag ?_ ?_
    ·rintro b a w' ⟨Az, cz, m7_, ha, Q_BK0, Q_HPo, Q_HPn, Q_BK1, Q_HSx, Q_HB5, Q_HK5, Q_NBX, Q_X7_⟩ hb_ hon hoff
     refine ⟨_, rfl, fun K hK => ?_⟩
     have e87 : a.tmps[87]? = some (.pointer (some ⟨g, 0, none⟩)) := on_ ha 8 rfl rfl (hon 8 (by kernel_rfl)) rfl
     replace ha := Aside0.mk ha
     refine qaJ (w1 := w') (v := .pointer (some ⟨g, 1, none⟩)) (by rfl) rfl ?_ ?_
     ·go_simp
      (try simp only [qaS])
      try rfl
     refine hK.out _ _ ⟨Az, cz, m7_, (by rw [ha.out]; exact qah 9 hb_ rfl rfl rfl), Q_BK0, fun h0_ => absurd ((hon 7 (by kernel_rfl)).symm.trans h0_) (by decide), Q_HPn, fun h0_ => absurd ((hoff 10 (by kernel_rfl)).symm.trans h0_) (by decide), Q_HSx, Q_HB5, Q_HK5, Q_NBX, Q_X7_⟩
    refine qag ?_ ?_
    ·rintro b a w' ⟨Az, cz, m7_, ha, Q_BK0, Q_HPo, Q_HPn, Q_BK1, Q_HSx, Q_HB5, Q_HK5, Q_NBX, Q_X7_⟩ hb_ hon hoff
     refine ⟨_, rfl, fun K hK => ?_⟩
     have e88 : a.tmps[88]? = some (.pointer (some ⟨g, 1, none⟩)) := on_ ha 9 rfl rfl (hon 9 (by kernel_rfl)) rfl
     have e86 : a.tmps[86]? = some (m7_) := on_ ha 7 rfl rfl (hon 7 (by kernel_rfl)) rfl
     rw [Q_X7_ (hon 7 (by kernel_rfl))] at e86
     replace ha := Aside0.mk ha
     have BK0 := Aside0.mk (Q_BK0 hb_)
     have HPn := Aside0.mk (Q_HPn (hon 7 (by kernel_rfl)))
     have HSx := Aside0.mk Q_HSx
     have HB5 := Aside0.mk Q_HB5
     have HK5 := Aside0.mk Q_HK5
     have NBX := Aside0.mk Q_NBX
     have hc_ := (qbH BK0.out).2.1
     have hf_ := qad BK0.out 1
     refine qgY (w1 := w'.setCell ⟨g, 1, none⟩ (.slice Az (p ++ x.f1).length cz)) (by rfl) rfl ?_ ?_
     ·go_simp
     refine hK.out _ _ ⟨Az, cz, m7_, (by rw [ha.out]; exact qcD (v := undef) rfl), fun h0_ => absurd ((qcy b 10).symm.trans h0_) (by decide), fun h0_ => absurd ((hon 7 (by kernel_rfl)).symm.trans h0_) (by decide), fun _ => Kd.qfq HPn.out BK0.out (qer (by decide)) _ _, fun _ => qdY BK0.out 1 _, Kd.qfq HSx.out BK0.out (qeq (by decide)) _ _, HB5.out.setCell (p := ⟨g, 1, none⟩) HG.out _, HK5.out.set _ _, qb8 NBX.out HGN.out _, Q_X7_⟩
    exact qb7
   rintro b a wA hall ⟨Az, cz, m7_, ha, Q_BK0, Q_HPo, Q_HPn, Q_BK1, Q_HSx, Q_HB5, Q_HK5, Q_NBX, Q_X7_⟩
   clear BK0 HB5 HK5 HPo HSx NBX
   have hb0_ := hall 0 (by kernel_rfl)
   have hb1_ := hall 1 (by kernel_rfl)
   have hb2_ := hall 2 (by kernel_rfl)
   have hb3_ := hall 3 (by kernel_rfl)
   have hb4_ := hall 4 (by kernel_rfl)
   have hb5_ := hall 5 (by kernel_rfl)
   have hb6_ := hall 6 (by kernel_rfl)
   have hb7_ := hall 7 (by kernel_rfl)
   have hb8_ := hall 8 (by kernel_rfl)
   have hb9_ := hall 9 (by kernel_rfl)
   have hb10_ := hall 10 (by kernel_rfl)
   subst ha
   obtain rfl := Q_X7_ hb7_
   simp only [qbq, hb0_, hb1_, hb2_, hb3_, hb4_, hb5_, hb6_, hb7_, hb8_, hb9_, hb10_, if_true, Act.put, List.setIfInBounds_toArray, List.set_cons_zero, List.set_cons_succ]
   clear Q_BK0
   clear Q_HPo
   have HPn := Aside0.mk (Q_HPn hb7_)
   clear Q_HPn
   have BK1 := Aside0.mk (Q_BK1 hb10_)
   clear Q_BK1
   have HSx := Aside0.mk Q_HSx
   clear Q_HSx
   have HB5 := Aside0.mk Q_HB5
   clear Q_HB5
   have HK5 := Aside0.mk Q_HK5
   clear Q_HK5
   have NBX := Aside0.mk Q_NBX
   clear Q_NBX
   clear hall hb0_ hb1_ hb2_ hb3_ hb4_ hb5_ hb6_ hb7_ hb8_ hb9_ hb10_
   have HW6 := Aside0.mk (show LkAt w0 wA g (.slice (some adh) ns.length ch) (.slice Az (p ++ x.f1).length cz) (.slice (some ⟨gs, 0, none⟩) s.length cs) true (p ++ x.f1) (s.set kk true) from ⟨HG.out, BK1.out, HSx.out, HPn.out⟩)
   have HB6 := HB5
   have HK6 := HK5
   have HN6 := NBX
   clear BK1 HSx HPn HB5 HK5 NBX
   go_upto_region 6 with fail
   go_loopw [7] (fun v7 wr => ∃ (i : Nat) (b : Bool) (S : List Bool) (P : List S99) (vp vs : Value), i ≤ x.f3.length ∧ v7 = .int .i64 (i : Int) ∧ Aside0 (WI 50 150 S P) ∧ Aside0 (LkAt w0 wr g (.slice (some adh) ns.length ch) vp vs b P S) ∧ Aside0 (Below w0.heap.size w0 wr) ∧ Aside0 (KeptT w wr g) ∧ Aside0 (wr.heap[nb]? = some (.cells #[.bool x.f0, .slice B1 x.f1.length b1, .slice B2 x.f2.length b2, .slice B3 x.f3.length b3] 56 (0, 0))) ∧ Aside0 ((if b = true then kidsW (walkW ns n) (x.f3.drop i) (x.f2.drop i) S P else (false, S, P)) = walkW ns (n + 1) (kk : Int) s p)) (fun v7 _ => x.f3.length - (intOf v7).toNat)
   case atStart => exact ⟨0, true, s.set kk true, p ++ x.f1, _, _, by omega, rfl, HI4, HW6, HB6, HK6, HN6, ⟨by rw [HGD.out, if_pos rfl]; rfl⟩⟩
   case round =>
    clear HI4 HW6 HB6 HK6 HN6 HI HSK HFO HKO c1
    obtain ⟨i, b, S, P, vp', vs', hi, rfl, HIr, HWr, HBr, HKr, HNr, HEr⟩ := hrel
    obtain ⟨m0, m1, m2, m3⟩ := qbH HNr.out
    obtain ⟨dd0, dd1, dd2, dd3⟩ := qbH HWr.out.2.1
    by_cases hlt : i < x.f3.length
    ·have c5 : decide ((i : Int) < (x.f3.length : Int)) = true := decide_eq_true (by omega)
     cases b with
     | false =>
      have HF := Aside0.mk (show (false, S, P) = walkW ns (n + 1) (kk : Int) s p from by have h := HEr.out; rw [if_neg (by decide)] at h; exact h)
      clear HEr
      go_wp2_with fail
      go_end0
      rw [← HF.out]
      exact ⟨rfl, HBr.out, HKr.out, _, _, HWr.out⟩
     | true =>
      have i0 : 0 ≤ (i : Int) := by omega
      have i1 : (i : Int) < (x.f3.length : Int) := by omega
      have i2 : (i : Int) < (x.f2.length : Int) := by have := HZ.out.2.1; omega
      have hkid := HZ.out.2.2.2.2 i hlt
      obtain ⟨kn, hkn⟩ : ∃ kn : Nat, rd x.f3 (i : Int) = (kn : Int) := ⟨(rd x.f3 (i : Int)).toNat, by omega⟩
      obtain ⟨ad3, e3, k3⟩ := Kd.qbS HC3.out.2 (i : Int) i0 i1
      cases e3
      rw [Int.toNat_natCast, hkn] at k3
      obtain ⟨ad2, e2, k2⟩ := Kd.qbw HC2.out.2 (i : Int) i0 i2
      cases e2
      obtain ⟨m, hm⟩ : ∃ m, m = rdOf ByteArray.empty x.f2 (i : Int) := ⟨_, rfl⟩
      rw [Int.toNat_natCast, ← hm] at k2
      have hd3 : x.f3.drop i = (kn : Int) :: x.f3.drop (i + 1) := by
       rw [List.drop_eq_getElem_cons hlt, ← hkn]
       unfold rd
       simp [List.getD_eq_getElem?_getD, hlt]
      have hlt2 : i < x.f2.length := by omega
      have hd2 : x.f2.drop i = m :: x.f2.drop (i + 1) := by
       rw [List.drop_eq_getElem_cons hlt2, hm]
       unfold rdOf
       simp [List.getD_eq_getElem?_getD, hlt2]
      have K2 := Aside0.mk k2
      replace k3 := (HBr.out.cell (World.block_lt_of_cell? w0 _ k3)).trans k3
      obtain ⟨vA, vc, ev, _, _⟩ := Kd.qbP HWr.out.2.2.2
      subst ev
      have hroom := HIr.out.room
      have hpl : P.length ≤ 150 := by omega
      have hw1 : IntKind.i64.wrap (d + 1) = d + 1 := by have := HD.out; rw [IntKind.wrap_i64]; omega
      obtain ⟨rb, S2, P2, hres⟩ : ∃ rb S2 P2, walkW ns n (kn : Int) S P = (rb, S2, P2) := ⟨_, _, _, rfl⟩
      have hE := HEr.out
      rw [if_pos rfl, hd3, hd2, qdH, hres] at hE
      have hinv := (qem (M := 150) ns HL.out n (kn : Int) S P HIr.out).1
      rw [hres] at hinv
      have HI2 := Aside0.mk hinv
      have hih := HIH.out (kn : Int) (d + 1) S P wr g _ vs' (by have := HD.out; omega) (by have := HD.out; omega) HIr.out HBr.out HWr.out
      rw [hres] at hih
      have HIHC := Aside0.mk hih
      have HND := HNr
      have hmv : rb = true → P.length < P2.length := fun h => by
       have h2 := qeU ns n (kn : Int) S P (by rw [hres]; exact h)
       rw [hres] at h2
       exact h2
      have HMV := Aside0.mk hmv
      have HE := Aside0.mk hE
      have HI2_ := Aside0.mk (And.intro i0 i2)
      clear hE hih hinv hres hd3 hd2 hkn hm hroom hlt2 hkid k2 hmv HEr
      go_wp2_with fail
      refine HIHC.out.mono ?_
      rintro e we ⟨rfl, hb2, hk2, vp2, vs2, hl2⟩
      clear m0 m1 m2 m3 dd0 dd1 dd2 dd3 k3
      go_upto_region 10 with fail
      have HB5 := Aside0.mk (qbr hb2)
      have HK5 := Aside0.mk (KeptT.below hk2 (qbr (Below.refl _ we)))
      cases rb with
      | false =>
       have LA := Aside0.mk (hl2.below (qbr (Below.refl _ we)))
       have HE2 := Aside0.mk (show (if false = true then kidsW (walkW ns n) (x.f3.drop (i + 1)) (x.f2.drop (i + 1)) S2 P2 else (false, S2, P2)) = walkW ns (n + 1) (kk : Int) s p from by
        have h := HE.out
        rw [if_neg (fun h => by cases h.1)] at h
        rw [if_neg (by decide)]
        exact h)
       clear HE hb2 hk2 hl2 HMV
       refine qcz (n := 33) (S := fun w' => True) (ds := []) #[false, false, false, false, false, false, false, false, false, false, false, false, false, false, false, false, false, false, false, false, false, false, false, false, false, false, false, false, false, false, false, false, false] (by kernel_rfl) rfl rfl trivial (fun hHeld => ?_)
       refine qbU walkS.tab10 walkS.qhg (fun HT_ HW_ => ?_)
       generalize we.drew = wd at LA HB5 HK5 ⊢
       refine qcY [0, 1, 2, 3, 4, 5, 6, 7, 8, 9, 10, 11, 12, 13, 14, 15, 16, 17, 18, 19, 20, 21, 22, 23, 24, 25, 26, 27, 28, 29, 30, 31, 32] (fun a0_ b a w' => a = qbq a0_ b [(0, 116, .pointer (some ⟨g, 0, none⟩)), (1, 117, .pointer (some ⟨g, 0, none⟩)), (2, 118, .pointer (some ⟨g, 0, none⟩)), (3, 119, .pointer (some ⟨g, 3, none⟩)), (4, 120, .bool false), (5, 121, .bool false), (6, 122, undef), (7, 123, undef), (8, 124, undef), (9, 125, undef), (10, 126, undef), (11, 127, undef), (12, 128, undef), (13, 129, .bool false), (14, 130, .bool false), (15, 131, undef), (16, 132, undef), (17, 133, undef), (18, 134, undef), (19, 135, undef), (20, 136, undef), (21, 137, undef), (22, 138, undef), (23, 139, undef), (24, 140, undef), (25, 141, undef), (26, 142, undef), (27, 143, undef), (28, 144, undef), (29, 145, .bool false), (30, 146, .pointer (some ⟨g, 0, none⟩)), (31, 147, .pointer (some ⟨g, 3, none⟩))] ∧ (b 32 = false → LkAt w0 w' g (.slice (some adh) ns.length ch) vp2 vs2 false P2 S2) ∧ (b 32 = true → LkAt w0 w' g (.slice (some adh) ns.length ch) vp2 vs2 false P2 S2) ∧ (Below w0.heap.size w0 w') ∧ (KeptT wr w' g)) HT_.out HW_.out (by kernel_rfl) (by kernel_rfl) ?_ ?_ ?_
       ·exact ⟨by simp only [qbq, Bool.false_eq_true, if_false], fun _ => LA.out, fun h_ => absurd h_ (by decide), HB5.out, HK5.out⟩
       ·skip
        clear HB5 HK5 LA
        refine qag ?_ ?_
        ·rintro b a w' ⟨ha, Q_LA, Q_LB, Q_HB5, Q_HK5⟩ hb_ hon hoff
         refine ⟨_, rfl, fun K hK => ?_⟩
         have e0 : a.tmps[0]? = some (.pointer (some ⟨g, 0, none⟩)) := by rw [ha]; exact (qa7 rfl).trans rfl
         replace ha := Aside0.mk ha
         refine qaJ (w1 := w') (v := .pointer (some ⟨g, 0, none⟩)) (by rfl) rfl ?_ ?_
         ·go_simp
          (try simp only [qaS])
          try rfl
         refine hK.out _ _ ⟨(by rw [ha.out]; exact qah 0 hb_ rfl rfl rfl), Q_LA, fun h0_ => absurd ((hoff 32 (by kernel_rfl)).symm.trans h0_) (by decide), Q_HB5, Q_HK5⟩
        refine qag ?_ ?_
        ·rintro b a w' ⟨ha, Q_LA, Q_LB, Q_HB5, Q_HK5⟩ hb_ hon hoff
         refine ⟨_, rfl, fun K hK => ?_⟩
         have e0 : a.tmps[0]? = some (.pointer (some ⟨g, 0, none⟩)) := by rw [ha]; exact (qa7 rfl).trans rfl
         replace ha := Aside0.mk ha
         refine qaJ (w1 := w') (v := .pointer (some ⟨g, 0, none⟩)) (by rfl) rfl ?_ ?_
         ·go_simp
          (try simp only [qaS])
          try rfl
         refine hK.out _ _ ⟨(by rw [ha.out]; exact qah 1 hb_ rfl rfl rfl), Q_LA, fun h0_ => absurd ((hoff 32 (by kernel_rfl)).symm.trans h0_) (by decide), Q_HB5, Q_HK5⟩
        refine qag ?_ ?_
        ·rintro b a w' ⟨ha, Q_LA, Q_LB, Q_HB5, Q_HK5⟩ hb_ hon hoff
         refine ⟨_, rfl, fun K hK => ?_⟩
         have e117 : a.tmps[117]? = some (.pointer (some ⟨g, 0, none⟩)) := on_ ha 1 rfl rfl (hon 1 (by kernel_rfl)) rfl
         replace ha := Aside0.mk ha
         refine qaJ (w1 := w') (v := .pointer (some ⟨g, 0, none⟩)) (by rfl) rfl ?_ ?_
         ·go_simp
          (try simp only [qaS])
          try rfl
         refine hK.out _ _ ⟨(by rw [ha.out]; exact qah 2 hb_ rfl rfl rfl), Q_LA, fun h0_ => absurd ((hoff 32 (by kernel_rfl)).symm.trans h0_) (by decide), Q_HB5, Q_HK5⟩
        refine qag ?_ ?_
        ·rintro b a w' ⟨ha, Q_LA, Q_LB, Q_HB5, Q_HK5⟩ hb_ hon hoff
         refine ⟨_, rfl, fun K hK => ?_⟩
         have e118 : a.tmps[118]? = some (.pointer (some ⟨g, 0, none⟩)) := on_ ha 2 rfl rfl (hon 2 (by kernel_rfl)) rfl
         replace ha := Aside0.mk ha
         refine qaJ (w1 := w') (v := .pointer (some ⟨g, 3, none⟩)) (by rfl) rfl ?_ ?_
         ·go_simp
          (try simp only [qaS])
          try rfl
         refine hK.out _ _ ⟨(by rw [ha.out]; exact qah 3 hb_ rfl rfl rfl), Q_LA, fun h0_ => absurd ((hoff 32 (by kernel_rfl)).symm.trans h0_) (by decide), Q_HB5, Q_HK5⟩
        refine qag ?_ ?_
        ·rintro b a w' ⟨ha, Q_LA, Q_LB, Q_HB5, Q_HK5⟩ hb_ hon hoff
         refine ⟨_, rfl, fun K hK => ?_⟩
         have e119 : a.tmps[119]? = some (.pointer (some ⟨g, 3, none⟩)) := on_ ha 3 rfl rfl (hon 3 (by kernel_rfl)) rfl
         replace ha := Aside0.mk ha
         have LA := Aside0.mk (Q_LA (hoff 32 (by kernel_rfl)))
         have hcs_ := qbH LA.out.2.1
         have hc0_ := hcs_.2.2.2
         refine qaJ (w1 := w') (v := .bool false) (by rfl) rfl ?_ ?_
         ·go_simp
          (try simp only [qaS])
          try rfl
         refine hK.out _ _ ⟨(by rw [ha.out]; exact qah 4 hb_ rfl rfl rfl), Q_LA, fun h0_ => absurd ((hoff 32 (by kernel_rfl)).symm.trans h0_) (by decide), Q_HB5, Q_HK5⟩
        refine qag ?_ ?_
        ·rintro b a w' ⟨ha, Q_LA, Q_LB, Q_HB5, Q_HK5⟩ hb_ hon hoff
         refine ⟨_, rfl, fun K hK => ?_⟩
         have e120 : a.tmps[120]? = some (.bool false) := on_ ha 4 rfl rfl (hon 4 (by kernel_rfl)) rfl
         replace ha := Aside0.mk ha
         refine qaJ (w1 := w') (v := .bool false) (by rfl) rfl ?_ ?_
         ·go_simp
          (try simp only [qaS])
          try rfl
         refine hK.out _ _ ⟨(by rw [ha.out]; exact qah 5 hb_ rfl rfl rfl), Q_LA, fun h0_ => absurd ((hoff 32 (by kernel_rfl)).symm.trans h0_) (by decide), Q_HB5, Q_HK5⟩
        refine qag ?_ ?_
        ·rintro b a w' ⟨ha, Q_LA, Q_LB, Q_HB5, Q_HK5⟩ hb_ hon hoff
         refine ⟨_, rfl, fun K hK => ?_⟩
         have e121 : a.tmps[121]? = some (.bool false) := on_ ha 5 rfl rfl (hon 5 (by kernel_rfl)) rfl
         replace ha := Aside0.mk ha
         refine off_ (qaT rfl rfl rfl (e121.trans (by first | rfl | (simp [*]; done)))) ?_
         refine hK.out _ _ ⟨(by rw [ha.out]; exact qah 6 hb_ rfl rfl rfl), Q_LA, fun h0_ => absurd ((hoff 32 (by kernel_rfl)).symm.trans h0_) (by decide), Q_HB5, Q_HK5⟩
        refine qag ?_ ?_
        ·rintro b a w' ⟨ha, Q_LA, Q_LB, Q_HB5, Q_HK5⟩ hb_ hon hoff
         refine ⟨_, rfl, fun K hK => ?_⟩
         have e121 : a.tmps[121]? = some (.bool false) := on_ ha 5 rfl rfl (hon 5 (by kernel_rfl)) rfl
         replace ha := Aside0.mk ha
         refine off_ (qaT rfl rfl rfl (e121.trans (by first | rfl | (simp [*]; done)))) ?_
         refine hK.out _ _ ⟨(by rw [ha.out]; exact qah 7 hb_ rfl rfl rfl), Q_LA, fun h0_ => absurd ((hoff 32 (by kernel_rfl)).symm.trans h0_) (by decide), Q_HB5, Q_HK5⟩
        refine qag ?_ ?_
        ·rintro b a w' ⟨ha, Q_LA, Q_LB, Q_HB5, Q_HK5⟩ hb_ hon hoff
         refine ⟨_, rfl, fun K hK => ?_⟩
         have e121 : a.tmps[121]? = some (.bool false) := on_ ha 5 rfl rfl (hon 5 (by kernel_rfl)) rfl
         replace ha := Aside0.mk ha
         refine off_ (qaT rfl rfl rfl (e121.trans (by first | rfl | (simp [*]; done)))) ?_
         refine hK.out _ _ ⟨(by rw [ha.out]; exact qah 8 hb_ rfl rfl rfl), Q_LA, fun h0_ => absurd ((hoff 32 (by kernel_rfl)).symm.trans h0_) (by decide), Q_HB5, Q_HK5⟩
        refine qag ?_ ?_
        ·rintro b a w' ⟨ha, Q_LA, Q_LB, Q_HB5, Q_HK5⟩ hb_ hon hoff
         refine ⟨_, rfl, fun K hK => ?_⟩
         have e121 : a.tmps[121]? = some (.bool false) := on_ ha 5 rfl rfl (hon 5 (by kernel_rfl)) rfl
         replace ha := Aside0.mk ha
         refine off_ (qaT rfl rfl rfl (e121.trans (by first | rfl | (simp [*]; done)))) ?_
         refine hK.out _ _ ⟨(by rw [ha.out]; exact qah 9 hb_ rfl rfl rfl), Q_LA, fun h0_ => absurd ((hoff 32 (by kernel_rfl)).symm.trans h0_) (by decide), Q_HB5, Q_HK5⟩
        refine qag ?_ ?_
        ·rintro b a w' ⟨ha, Q_LA, Q_LB, Q_HB5, Q_HK5⟩ hb_ hon hoff
         refine ⟨_, rfl, fun K hK => ?_⟩
         have e121 : a.tmps[121]? = some (.bool false) := on_ ha 5 rfl rfl (hon 5 (by kernel_rfl)) rfl
         replace ha := Aside0.mk ha
         refine off_ (qaT rfl rfl rfl (e121.trans (by first | rfl | (simp [*]; done)))) ?_
         refine hK.out _ _ ⟨(by rw [ha.out]; exact qah 10 hb_ rfl rfl rfl), Q_LA, fun h0_ => absurd ((hoff 32 (by kernel_rfl)).symm.trans h0_) (by decide), Q_HB5, Q_HK5⟩
        refine qag ?_ ?_
        ·rintro b a w' ⟨ha, Q_LA, Q_LB, Q_HB5, Q_HK5⟩ hb_ hon hoff
         refine ⟨_, rfl, fun K hK => ?_⟩
         have e121 : a.tmps[121]? = some (.bool false) := on_ ha 5 rfl rfl (hon 5 (by kernel_rfl)) rfl
         replace ha := Aside0.mk ha
         refine off_ (qaT rfl rfl rfl (e121.trans (by first | rfl | (simp [*]; done)))) ?_
         refine hK.out _ _ ⟨(by rw [ha.out]; exact qah 11 hb_ rfl rfl rfl), Q_LA, fun h0_ => absurd ((hoff 32 (by kernel_rfl)).symm.trans h0_) (by decide), Q_HB5, Q_HK5⟩
        refine qag ?_ ?_
        ·rintro b a w' ⟨ha, Q_LA, Q_LB, Q_HB5, Q_HK5⟩ hb_ hon hoff
         refine ⟨_, rfl, fun K hK => ?_⟩
         have e121 : a.tmps[121]? = some (.bool false) := on_ ha 5 rfl rfl (hon 5 (by kernel_rfl)) rfl
         replace ha := Aside0.mk ha
         refine off_ (qaT rfl rfl rfl (e121.trans (by first | rfl | (simp [*]; done)))) ?_
         refine hK.out _ _ ⟨(by rw [ha.out]; exact qah 12 hb_ rfl rfl rfl), Q_LA, fun h0_ => absurd ((hoff 32 (by kernel_rfl)).symm.trans h0_) (by decide), Q_HB5, Q_HK5⟩
        refine qag ?_ ?_
        ·rintro b a w' ⟨ha, Q_LA, Q_LB, Q_HB5, Q_HK5⟩ hb_ hon hoff
         refine ⟨_, rfl, fun K hK => ?_⟩
         have e121 : a.tmps[121]? = some (.bool false) := on_ ha 5 rfl rfl (hon 5 (by kernel_rfl)) rfl
         have e128 : a.tmps[128]? = some (undef) := on_ ha 12 rfl rfl (hon 12 (by kernel_rfl)) rfl
         replace ha := Aside0.mk ha
         refine qaJ (w1 := w') (v := .bool false) (by rfl) rfl ?_ ?_
         ·go_simp
          (try simp only [qaS])
          try rfl
         refine hK.out _ _ ⟨(by rw [ha.out]; exact qah 13 hb_ rfl rfl rfl), Q_LA, fun h0_ => absurd ((hoff 32 (by kernel_rfl)).symm.trans h0_) (by decide), Q_HB5, Q_HK5⟩
        refine qag ?_ ?_
        ·rintro b a w' ⟨ha, Q_LA, Q_LB, Q_HB5, Q_HK5⟩ hb_ hon hoff
         refine ⟨_, rfl, fun K hK => ?_⟩
         have e129 : a.tmps[129]? = some (.bool false) := on_ ha 13 rfl rfl (hon 13 (by kernel_rfl)) rfl
         replace ha := Aside0.mk ha
         refine qaJ (w1 := w') (v := .bool false) (by rfl) rfl ?_ ?_
         ·go_simp
          (try simp only [qaS])
          try rfl
         refine hK.out _ _ ⟨(by rw [ha.out]; exact qah 14 hb_ rfl rfl rfl), Q_LA, fun h0_ => absurd ((hoff 32 (by kernel_rfl)).symm.trans h0_) (by decide), Q_HB5, Q_HK5⟩
        refine qag ?_ ?_
        ·rintro b a w' ⟨ha, Q_LA, Q_LB, Q_HB5, Q_HK5⟩ hb_ hon hoff
         refine ⟨_, rfl, fun K hK => ?_⟩
         have e130 : a.tmps[130]? = some (.bool false) := on_ ha 14 rfl rfl (hon 14 (by kernel_rfl)) rfl
         replace ha := Aside0.mk ha
         refine off_ (qaT rfl rfl rfl (e130.trans (by first | rfl | (simp [*]; done)))) ?_
         refine hK.out _ _ ⟨(by rw [ha.out]; exact qah 15 hb_ rfl rfl rfl), Q_LA, fun h0_ => absurd ((hoff 32 (by kernel_rfl)).symm.trans h0_) (by decide), Q_HB5, Q_HK5⟩
        refine qag ?_ ?_
        ·rintro b a w' ⟨ha, Q_LA, Q_LB, Q_HB5, Q_HK5⟩ hb_ hon hoff
         refine ⟨_, rfl, fun K hK => ?_⟩
         have e130 : a.tmps[130]? = some (.bool false) := on_ ha 14 rfl rfl (hon 14 (by kernel_rfl)) rfl
         replace ha := Aside0.mk ha
         refine off_ (qaT rfl rfl rfl (e130.trans (by first | rfl | (simp [*]; done)))) ?_
         refine hK.out _ _ ⟨(by rw [ha.out]; exact qah 16 hb_ rfl rfl rfl), Q_LA, fun h0_ => absurd ((hoff 32 (by kernel_rfl)).symm.trans h0_) (by decide), Q_HB5, Q_HK5⟩
        refine qag ?_ ?_
        ·rintro b a w' ⟨ha, Q_LA, Q_LB, Q_HB5, Q_HK5⟩ hb_ hon hoff
         refine ⟨_, rfl, fun K hK => ?_⟩
         have e130 : a.tmps[130]? = some (.bool false) := on_ ha 14 rfl rfl (hon 14 (by kernel_rfl)) rfl
         replace ha := Aside0.mk ha
         refine off_ (qaT rfl rfl rfl (e130.trans (by first | rfl | (simp [*]; done)))) ?_
         refine hK.out _ _ ⟨(by rw [ha.out]; exact qah 17 hb_ rfl rfl rfl), Q_LA, fun h0_ => absurd ((hoff 32 (by kernel_rfl)).symm.trans h0_) (by decide), Q_HB5, Q_HK5⟩
        refine qag ?_ ?_
        ·rintro b a w' ⟨ha, Q_LA, Q_LB, Q_HB5, Q_HK5⟩ hb_ hon hoff
         refine ⟨_, rfl, fun K hK => ?_⟩
         have e130 : a.tmps[130]? = some (.bool false) := on_ ha 14 rfl rfl (hon 14 (by kernel_rfl)) rfl
         replace ha := Aside0.mk ha
         refine off_ (qaT rfl rfl rfl (e130.trans (by first | rfl | (simp [*]; done)))) ?_
         refine hK.out _ _ ⟨(by rw [ha.out]; exact qah 18 hb_ rfl rfl rfl), Q_LA, fun h0_ => absurd ((hoff 32 (by kernel_rfl)).symm.trans h0_) (by decide), Q_HB5, Q_HK5⟩
        refine qag ?_ ?_
        ·rintro b a w' ⟨ha, Q_LA, Q_LB, Q_HB5, Q_HK5⟩ hb_ hon hoff
         refine ⟨_, rfl, fun K hK => ?_⟩
         have e130 : a.tmps[130]? = some (.bool false) := on_ ha 14 rfl rfl (hon 14 (by kernel_rfl)) rfl
         replace ha := Aside0.mk ha
         refine off_ (qaT rfl rfl rfl (e130.trans (by first | rfl | (simp [*]; done)))) ?_
         refine hK.out _ _ ⟨(by rw [ha.out]; exact qah 19 hb_ rfl rfl rfl), Q_LA, fun h0_ => absurd ((hoff 32 (by kernel_rfl)).symm.trans h0_) (by decide), Q_HB5, Q_HK5⟩
        refine qag ?_ ?_
        ·rintro b a w' ⟨ha, Q_LA, Q_LB, Q_HB5, Q_HK5⟩ hb_ hon hoff
         refine ⟨_, rfl, fun K hK => ?_⟩
         have e130 : a.tmps[130]? = some (.bool false) := on_ ha 14 rfl rfl (hon 14 (by kernel_rfl)) rfl
         replace ha := Aside0.mk ha
         refine off_ (qaT rfl rfl rfl (e130.trans (by first | rfl | (simp [*]; done)))) ?_
         refine hK.out _ _ ⟨(by rw [ha.out]; exact qah 20 hb_ rfl rfl rfl), Q_LA, fun h0_ => absurd ((hoff 32 (by kernel_rfl)).symm.trans h0_) (by decide), Q_HB5, Q_HK5⟩
        refine qag ?_ ?_
        ·rintro b a w' ⟨ha, Q_LA, Q_LB, Q_HB5, Q_HK5⟩ hb_ hon hoff
         refine ⟨_, rfl, fun K hK => ?_⟩
         have e130 : a.tmps[130]? = some (.bool false) := on_ ha 14 rfl rfl (hon 14 (by kernel_rfl)) rfl
         replace ha := Aside0.mk ha
         refine off_ (qaT rfl rfl rfl (e130.trans (by first | rfl | (simp [*]; done)))) ?_
         refine hK.out _ _ ⟨(by rw [ha.out]; exact qah 21 hb_ rfl rfl rfl), Q_LA, fun h0_ => absurd ((hoff 32 (by kernel_rfl)).symm.trans h0_) (by decide), Q_HB5, Q_HK5⟩
        refine qag ?_ ?_
        ·rintro b a w' ⟨ha, Q_LA, Q_LB, Q_HB5, Q_HK5⟩ hb_ hon hoff
         refine ⟨_, rfl, fun K hK => ?_⟩
         have e130 : a.tmps[130]? = some (.bool false) := on_ ha 14 rfl rfl (hon 14 (by kernel_rfl)) rfl
         replace ha := Aside0.mk ha
         refine off_ (qaT rfl rfl rfl (e130.trans (by first | rfl | (simp [*]; done)))) ?_
         refine hK.out _ _ ⟨(by rw [ha.out]; exact qah 22 hb_ rfl rfl rfl), Q_LA, fun h0_ => absurd ((hoff 32 (by kernel_rfl)).symm.trans h0_) (by decide), Q_HB5, Q_HK5⟩
        refine qag ?_ ?_
        ·rintro b a w' ⟨ha, Q_LA, Q_LB, Q_HB5, Q_HK5⟩ hb_ hon hoff
         refine ⟨_, rfl, fun K hK => ?_⟩
         have e130 : a.tmps[130]? = some (.bool false) := on_ ha 14 rfl rfl (hon 14 (by kernel_rfl)) rfl
         replace ha := Aside0.mk ha
         refine off_ (qaT rfl rfl rfl (e130.trans (by first | rfl | (simp [*]; done)))) ?_
         refine hK.out _ _ ⟨(by rw [ha.out]; exact qah 23 hb_ rfl rfl rfl), Q_LA, fun h0_ => absurd ((hoff 32 (by kernel_rfl)).symm.trans h0_) (by decide), Q_HB5, Q_HK5⟩
        refine qag ?_ ?_
        ·rintro b a w' ⟨ha, Q_LA, Q_LB, Q_HB5, Q_HK5⟩ hb_ hon hoff
         refine ⟨_, rfl, fun K hK => ?_⟩
         have e130 : a.tmps[130]? = some (.bool false) := on_ ha 14 rfl rfl (hon 14 (by kernel_rfl)) rfl
         replace ha := Aside0.mk ha
         refine off_ (qaT rfl rfl rfl (e130.trans (by first | rfl | (simp [*]; done)))) ?_
         refine hK.out _ _ ⟨(by rw [ha.out]; exact qah 24 hb_ rfl rfl rfl), Q_LA, fun h0_ => absurd ((hoff 32 (by kernel_rfl)).symm.trans h0_) (by decide), Q_HB5, Q_HK5⟩
        refine qag ?_ ?_
        ·rintro b a w' ⟨ha, Q_LA, Q_LB, Q_HB5, Q_HK5⟩ hb_ hon hoff
         refine ⟨_, rfl, fun K hK => ?_⟩
         have e130 : a.tmps[130]? = some (.bool false) := on_ ha 14 rfl rfl (hon 14 (by kernel_rfl)) rfl
         replace ha := Aside0.mk ha
         refine off_ (qaT rfl rfl rfl (e130.trans (by first | rfl | (simp [*]; done)))) ?_
         refine hK.out _ _ ⟨(by rw [ha.out]; exact qah 25 hb_ rfl rfl rfl), Q_LA, fun h0_ => absurd ((hoff 32 (by kernel_rfl)).symm.trans h0_) (by decide), Q_HB5, Q_HK5⟩
        refine qag ?_ ?_
        ·rintro b a w' ⟨ha, Q_LA, Q_LB, Q_HB5, Q_HK5⟩ hb_ hon hoff
         refine ⟨_, rfl, fun K hK => ?_⟩
         have e130 : a.tmps[130]? = some (.bool false) := on_ ha 14 rfl rfl (hon 14 (by kernel_rfl)) rfl
         replace ha := Aside0.mk ha
         refine off_ (qaT rfl rfl rfl (e130.trans (by first | rfl | (simp [*]; done)))) ?_
         refine hK.out _ _ ⟨(by rw [ha.out]; exact qah 26 hb_ rfl rfl rfl), Q_LA, fun h0_ => absurd ((hoff 32 (by kernel_rfl)).symm.trans h0_) (by decide), Q_HB5, Q_HK5⟩
        refine qag ?_ ?_
        ·rintro b a w' ⟨ha, Q_LA, Q_LB, Q_HB5, Q_HK5⟩ hb_ hon hoff
         refine ⟨_, rfl, fun K hK => ?_⟩
         have e130 : a.tmps[130]? = some (.bool false) := on_ ha 14 rfl rfl (hon 14 (by kernel_rfl)) rfl
         replace ha := Aside0.mk ha
         refine off_ (qaT rfl rfl rfl (e130.trans (by first | rfl | (simp [*]; done)))) ?_
         refine hK.out _ _ ⟨(by rw [ha.out]; exact qah 27 hb_ rfl rfl rfl), Q_LA, fun h0_ => absurd ((hoff 32 (by kernel_rfl)).symm.trans h0_) (by decide), Q_HB5, Q_HK5⟩
        refine qag ?_ ?_
        ·rintro b a w' ⟨ha, Q_LA, Q_LB, Q_HB5, Q_HK5⟩ hb_ hon hoff
         refine ⟨_, rfl, fun K hK => ?_⟩
         have e130 : a.tmps[130]? = some (.bool false) := on_ ha 14 rfl rfl (hon 14 (by kernel_rfl)) rfl
         replace ha := Aside0.mk ha
         refine off_ (qaT rfl rfl rfl (e130.trans (by first | rfl | (simp [*]; done)))) ?_
         refine hK.out _ _ ⟨(by rw [ha.out]; exact qah 28 hb_ rfl rfl rfl), Q_LA, fun h0_ => absurd ((hoff 32 (by kernel_rfl)).symm.trans h0_) (by decide), Q_HB5, Q_HK5⟩
        refine qag ?_ ?_
        ·rintro b a w' ⟨ha, Q_LA, Q_LB, Q_HB5, Q_HK5⟩ hb_ hon hoff
         refine ⟨_, rfl, fun K hK => ?_⟩
         have e130 : a.tmps[130]? = some (.bool false) := on_ ha 14 rfl rfl (hon 14 (by kernel_rfl)) rfl
         have e144 : a.tmps[144]? = some (undef) := on_ ha 28 rfl rfl (hon 28 (by kernel_rfl)) rfl
         replace ha := Aside0.mk ha
         refine qaJ (w1 := w') (v := .bool false) (by rfl) rfl ?_ ?_
         ·go_simp
          (try simp only [qaS])
          try rfl
         refine hK.out _ _ ⟨(by rw [ha.out]; exact qah 29 hb_ rfl rfl rfl), Q_LA, fun h0_ => absurd ((hoff 32 (by kernel_rfl)).symm.trans h0_) (by decide), Q_HB5, Q_HK5⟩
        refine qag ?_ ?_
        ·rintro b a w' ⟨ha, Q_LA, Q_LB, Q_HB5, Q_HK5⟩ hb_ hon hoff
         refine ⟨_, rfl, fun K hK => ?_⟩
         have e116 : a.tmps[116]? = some (.pointer (some ⟨g, 0, none⟩)) := on_ ha 0 rfl rfl (hon 0 (by kernel_rfl)) rfl
         replace ha := Aside0.mk ha
         refine qaJ (w1 := w') (v := .pointer (some ⟨g, 0, none⟩)) (by rfl) rfl ?_ ?_
         ·go_simp
          (try simp only [qaS])
          try rfl
         refine hK.out _ _ ⟨(by rw [ha.out]; exact qah 30 hb_ rfl rfl rfl), Q_LA, fun h0_ => absurd ((hoff 32 (by kernel_rfl)).symm.trans h0_) (by decide), Q_HB5, Q_HK5⟩
        refine qag ?_ ?_
        ·rintro b a w' ⟨ha, Q_LA, Q_LB, Q_HB5, Q_HK5⟩ hb_ hon hoff
         refine ⟨_, rfl, fun K hK => ?_⟩
         have e146 : a.tmps[146]? = some (.pointer (some ⟨g, 0, none⟩)) := on_ ha 30 rfl rfl (hon 30 (by kernel_rfl)) rfl
         replace ha := Aside0.mk ha
         refine qaJ (w1 := w') (v := .pointer (some ⟨g, 3, none⟩)) (by rfl) rfl ?_ ?_
         ·go_simp
          (try simp only [qaS])
          try rfl
         refine hK.out _ _ ⟨(by rw [ha.out]; exact qah 31 hb_ rfl rfl rfl), Q_LA, fun h0_ => absurd ((hoff 32 (by kernel_rfl)).symm.trans h0_) (by decide), Q_HB5, Q_HK5⟩
        refine qag ?_ ?_
        ·rintro b a w' ⟨ha, Q_LA, Q_LB, Q_HB5, Q_HK5⟩ hb_ hon hoff
         refine ⟨_, rfl, fun K hK => ?_⟩
         have e147 : a.tmps[147]? = some (.pointer (some ⟨g, 3, none⟩)) := on_ ha 31 rfl rfl (hon 31 (by kernel_rfl)) rfl
         have e145 : a.tmps[145]? = some (.bool false) := on_ ha 29 rfl rfl (hon 29 (by kernel_rfl)) rfl
         replace ha := Aside0.mk ha
         have LA := Aside0.mk (Q_LA hb_)
         have HB5 := Aside0.mk Q_HB5
         have HK5 := Aside0.mk Q_HK5
         have hc0_ := (qbH LA.out.2.1).2.2.2
         have hf0_ := qad LA.out.2.1 3
         refine qgY (w1 := w'.setCell ⟨g, 3, none⟩ (.bool false)) (by rfl) rfl ?_ ?_
         ·go_simp
         refine hK.out _ _ ⟨(by rw [ha.out]; exact qcD (v := undef) rfl), fun h0_ => absurd ((qcy b 32).symm.trans h0_) (by decide), fun _ => LA.out.qdl false, HB5.out.setCell (p := ⟨g, 3, none⟩) LA.out.1 _, HK5.out.set _ _⟩
        exact qb7
       rintro b a w' hall ⟨ha, Q_LA, Q_LB, Q_HB5, Q_HK5⟩
       clear HB5 HK5 LA
       have hb0_ := hall 0 (by kernel_rfl)
       have hb1_ := hall 1 (by kernel_rfl)
       have hb2_ := hall 2 (by kernel_rfl)
       have hb3_ := hall 3 (by kernel_rfl)
       have hb4_ := hall 4 (by kernel_rfl)
       have hb5_ := hall 5 (by kernel_rfl)
       have hb6_ := hall 6 (by kernel_rfl)
       have hb7_ := hall 7 (by kernel_rfl)
       have hb8_ := hall 8 (by kernel_rfl)
       have hb9_ := hall 9 (by kernel_rfl)
       have hb10_ := hall 10 (by kernel_rfl)
       have hb11_ := hall 11 (by kernel_rfl)
       have hb12_ := hall 12 (by kernel_rfl)
       have hb13_ := hall 13 (by kernel_rfl)
       have hb14_ := hall 14 (by kernel_rfl)
       have hb15_ := hall 15 (by kernel_rfl)
       have hb16_ := hall 16 (by kernel_rfl)
       have hb17_ := hall 17 (by kernel_rfl)
       have hb18_ := hall 18 (by kernel_rfl)
       have hb19_ := hall 19 (by kernel_rfl)
       have hb20_ := hall 20 (by kernel_rfl)
       have hb21_ := hall 21 (by kernel_rfl)
       have hb22_ := hall 22 (by kernel_rfl)
       have hb23_ := hall 23 (by kernel_rfl)
       have hb24_ := hall 24 (by kernel_rfl)
       have hb25_ := hall 25 (by kernel_rfl)
       have hb26_ := hall 26 (by kernel_rfl)
       have hb27_ := hall 27 (by kernel_rfl)
       have hb28_ := hall 28 (by kernel_rfl)
       have hb29_ := hall 29 (by kernel_rfl)
       have hb30_ := hall 30 (by kernel_rfl)
       have hb31_ := hall 31 (by kernel_rfl)
       have hb32_ := hall 32 (by kernel_rfl)
       subst ha
       simp only [qbq, hb0_, hb1_, hb2_, hb3_, hb4_, hb5_, hb6_, hb7_, hb8_, hb9_, hb10_, hb11_, hb12_, hb13_, hb14_, hb15_, hb16_, hb17_, hb18_, hb19_, hb20_, hb21_, hb22_, hb23_, hb24_, hb25_, hb26_, hb27_, hb28_, hb29_, hb30_, hb31_, hb32_, if_true, Act.put, List.setIfInBounds_toArray, List.set_cons_zero, List.set_cons_succ]
       clear Q_LA
       have LB := Aside0.mk (Q_LB hb32_)
       clear Q_LB
       have HB5 := Aside0.mk Q_HB5
       clear Q_HB5
       have HK5 := Aside0.mk Q_HK5
       clear Q_HK5
       clear hall hb0_ hb1_ hb2_ hb3_ hb4_ hb5_ hb6_ hb7_ hb8_ hb9_ hb10_ hb11_ hb12_ hb13_ hb14_ hb15_ hb16_ hb17_ hb18_ hb19_ hb20_ hb21_ hb22_ hb23_ hb24_ hb25_ hb26_ hb27_ hb28_ hb29_ hb30_ hb31_ hb32_
       go_wp2_with fail
       go_roundw
       case rel => exact ⟨i + 1, false, S2, P2, _, _, by omega, by go_num, HI2, LB, HB5, ⟨HKr.out.trans HK5.out⟩, ⟨HK5.out _ _ _ HND.out HGN.out (by decide) (by decide)⟩, HE2⟩
       case measure => simp [intOf]; omega
      | true =>
       have HMO := Aside0.mk (HMV.out rfl)
       obtain ⟨gp, cp, ev_, _⟩ := Kd.qce hl2.2.2.2 (by have := HMO.out; show 0 < P2.length; omega)
       subst ev_
       have LA := Aside0.mk (hl2.below (qbr (Below.refl _ we)))
       obtain ⟨ky, hky⟩ : ∃ ky, ky = qcG P2 P.length := ⟨_, rfl⟩
       have HKY := Aside0.mk hky.symm
       obtain ⟨be, hbe⟩ : ∃ be, (ky.toList == m.toList) = be := ⟨_, rfl⟩
       have HEQ := Aside0.mk hbe
       have HE2 := Aside0.mk (show (if be = true then kidsW (walkW ns n) (x.f3.drop (i + 1)) (x.f2.drop (i + 1)) S2 P2 else (false, S2, P2)) = walkW ns (n + 1) (kk : Int) s p from by
        have h := HE.out
        cases be with
        | true =>
         rw [if_pos ⟨rfl, HMO.out, by show (qcG P2 P.length).toList = _; rw [← hky]; exact beq_iff_eq.1 hbe⟩] at h
         rw [if_pos rfl]
         exact h
        | false =>
         rw [if_neg (fun h => by have h2 : (qcG P2 P.length).toList = m.toList := h.2.2; rw [← hky] at h2; rw [h2, beq_self_eq_true] at hbe; cases hbe)] at h
         rw [if_neg (by decide)]
         exact h)
       clear HE hb2 hk2 hl2 HMV hky hbe
       refine qcz (n := 33) (S := fun w' => True) (ds := []) #[false, false, false, false, false, false, false, false, false, false, false, false, false, false, false, false, false, false, false, false, false, false, false, false, false, false, false, false, false, false, false, false, false] (by kernel_rfl) rfl rfl trivial (fun hHeld => ?_)
       refine qbU walkS.tab10 walkS.qhg (fun HT_ HW_ => ?_)
       generalize we.drew = wd at LA HB5 HK5 ⊢
       refine qcY [0, 1, 2, 3, 4, 5, 6, 7, 8, 9, 10, 11, 12, 13, 14, 15, 16, 17, 18, 19, 20, 21, 22, 23, 24, 25, 26, 27, 28, 29, 30, 31, 32] (fun a0_ b a w' => a = qbq a0_ b [(0, 116, .pointer (some ⟨g, 0, none⟩)), (1, 117, .pointer (some ⟨g, 0, none⟩)), (2, 118, .pointer (some ⟨g, 0, none⟩)), (3, 119, .pointer (some ⟨g, 3, none⟩)), (4, 120, .bool true), (5, 121, .bool true), (6, 122, .int .i64 (P.length : Int)), (7, 123, .pointer (some ⟨g, 0, none⟩)), (8, 124, .pointer (some ⟨g, 0, none⟩)), (9, 125, .pointer (some ⟨g, 1, none⟩)), (10, 126, .slice (some ⟨gp, 0, none⟩) P2.length cp), (11, 127, .int .i64 (P2.length : Int)), (12, 128, .bool true), (13, 129, .bool true), (14, 130, .bool true), (15, 131, .pointer (some ⟨g, 0, none⟩)), (16, 132, .pointer (some ⟨g, 0, none⟩)), (17, 133, .pointer (some ⟨g, 1, none⟩)), (18, 134, .slice (some ⟨gp, 0, none⟩) P2.length cp), (19, 135, .int .i64 (P.length : Int)), (20, 136, .pointer (some ⟨gp, P.length * 2, none⟩)), (21, 137, .pointer (some ⟨gp, P.length * 2, none⟩)), (22, 138, .string ky), (23, 139, .pointer (some ⟨nb, 2, none⟩)), (24, 140, .slice (some ad2) x.f2.length b2), (25, 141, .int .i64 (i : Int)), (26, 142, .pointer (some (ad2.add i))), (27, 143, .string m), (28, 144, .bool be), (29, 145, .bool be), (30, 146, .pointer (some ⟨g, 0, none⟩)), (31, 147, .pointer (some ⟨g, 3, none⟩))] ∧ (b 32 = false → LkAt w0 w' g (.slice (some adh) ns.length ch) (.slice (some ⟨gp, 0, none⟩) P2.length cp) vs2 true P2 S2) ∧ (b 32 = true → LkAt w0 w' g (.slice (some adh) ns.length ch) (.slice (some ⟨gp, 0, none⟩) P2.length cp) vs2 be P2 S2) ∧ (Below w0.heap.size w0 w') ∧ (KeptT wr w' g)) HT_.out HW_.out (by kernel_rfl) (by kernel_rfl) ?_ ?_ ?_
       ·exact ⟨by simp only [qbq, Bool.false_eq_true, if_false], fun _ => LA.out, fun h_ => absurd h_ (by decide), HB5.out, HK5.out⟩
       ·skip
        clear HB5 HK5 LA
        refine qag ?_ ?_
        ·rintro b a w' ⟨ha, Q_LA, Q_LB, Q_HB5, Q_HK5⟩ hb_ hon hoff
         refine ⟨_, rfl, fun K hK => ?_⟩
         have e0 : a.tmps[0]? = some (.pointer (some ⟨g, 0, none⟩)) := by rw [ha]; exact (qa7 rfl).trans rfl
         replace ha := Aside0.mk ha
         refine qaJ (w1 := w') (v := .pointer (some ⟨g, 0, none⟩)) (by rfl) rfl ?_ ?_
         ·go_simp
          (try simp only [qaS])
          try rfl
         refine hK.out _ _ ⟨(by rw [ha.out]; exact qah 0 hb_ rfl rfl rfl), Q_LA, fun h0_ => absurd ((hoff 32 (by kernel_rfl)).symm.trans h0_) (by decide), Q_HB5, Q_HK5⟩
        refine qag ?_ ?_
        ·rintro b a w' ⟨ha, Q_LA, Q_LB, Q_HB5, Q_HK5⟩ hb_ hon hoff
         refine ⟨_, rfl, fun K hK => ?_⟩
         have e0 : a.tmps[0]? = some (.pointer (some ⟨g, 0, none⟩)) := by rw [ha]; exact (qa7 rfl).trans rfl
         replace ha := Aside0.mk ha
         refine qaJ (w1 := w') (v := .pointer (some ⟨g, 0, none⟩)) (by rfl) rfl ?_ ?_
         ·go_simp
          (try simp only [qaS])
          try rfl
         refine hK.out _ _ ⟨(by rw [ha.out]; exact qah 1 hb_ rfl rfl rfl), Q_LA, fun h0_ => absurd ((hoff 32 (by kernel_rfl)).symm.trans h0_) (by decide), Q_HB5, Q_HK5⟩
        refine qag ?_ ?_
        ·rintro b a w' ⟨ha, Q_LA, Q_LB, Q_HB5, Q_HK5⟩ hb_ hon hoff
         refine ⟨_, rfl, fun K hK => ?_⟩
         have e117 : a.tmps[117]? = some (.pointer (some ⟨g, 0, none⟩)) := on_ ha 1 rfl rfl (hon 1 (by kernel_rfl)) rfl
         replace ha := Aside0.mk ha
         refine qaJ (w1 := w') (v := .pointer (some ⟨g, 0, none⟩)) (by rfl) rfl ?_ ?_
         ·go_simp
          (try simp only [qaS])
          try rfl
         refine hK.out _ _ ⟨(by rw [ha.out]; exact qah 2 hb_ rfl rfl rfl), Q_LA, fun h0_ => absurd ((hoff 32 (by kernel_rfl)).symm.trans h0_) (by decide), Q_HB5, Q_HK5⟩
        refine qag ?_ ?_
        ·rintro b a w' ⟨ha, Q_LA, Q_LB, Q_HB5, Q_HK5⟩ hb_ hon hoff
         refine ⟨_, rfl, fun K hK => ?_⟩
         have e118 : a.tmps[118]? = some (.pointer (some ⟨g, 0, none⟩)) := on_ ha 2 rfl rfl (hon 2 (by kernel_rfl)) rfl
         replace ha := Aside0.mk ha
         refine qaJ (w1 := w') (v := .pointer (some ⟨g, 3, none⟩)) (by rfl) rfl ?_ ?_
         ·go_simp
          (try simp only [qaS])
          try rfl
         refine hK.out _ _ ⟨(by rw [ha.out]; exact qah 3 hb_ rfl rfl rfl), Q_LA, fun h0_ => absurd ((hoff 32 (by kernel_rfl)).symm.trans h0_) (by decide), Q_HB5, Q_HK5⟩
        refine qag ?_ ?_
        ·rintro b a w' ⟨ha, Q_LA, Q_LB, Q_HB5, Q_HK5⟩ hb_ hon hoff
         refine ⟨_, rfl, fun K hK => ?_⟩
         have e119 : a.tmps[119]? = some (.pointer (some ⟨g, 3, none⟩)) := on_ ha 3 rfl rfl (hon 3 (by kernel_rfl)) rfl
         replace ha := Aside0.mk ha
         have LA := Aside0.mk (Q_LA (hoff 32 (by kernel_rfl)))
         have hcs_ := qbH LA.out.2.1
         have hc0_ := hcs_.2.2.2
         refine qaJ (w1 := w') (v := .bool true) (by rfl) rfl ?_ ?_
         ·go_simp
          (try simp only [qaS])
          try rfl
         refine hK.out _ _ ⟨(by rw [ha.out]; exact qah 4 hb_ rfl rfl rfl), Q_LA, fun h0_ => absurd ((hoff 32 (by kernel_rfl)).symm.trans h0_) (by decide), Q_HB5, Q_HK5⟩
        refine qag ?_ ?_
        ·rintro b a w' ⟨ha, Q_LA, Q_LB, Q_HB5, Q_HK5⟩ hb_ hon hoff
         refine ⟨_, rfl, fun K hK => ?_⟩
         have e120 : a.tmps[120]? = some (.bool true) := on_ ha 4 rfl rfl (hon 4 (by kernel_rfl)) rfl
         replace ha := Aside0.mk ha
         refine qaJ (w1 := w') (v := .bool true) (by rfl) rfl ?_ ?_
         ·go_simp
          (try simp only [qaS])
          try rfl
         refine hK.out _ _ ⟨(by rw [ha.out]; exact qah 5 hb_ rfl rfl rfl), Q_LA, fun h0_ => absurd ((hoff 32 (by kernel_rfl)).symm.trans h0_) (by decide), Q_HB5, Q_HK5⟩
        refine qag ?_ ?_
        ·rintro b a w' ⟨ha, Q_LA, Q_LB, Q_HB5, Q_HK5⟩ hb_ hon hoff
         refine ⟨_, rfl, fun K hK => ?_⟩
         have e8 : a.tmps[8]? = some (.int .i64 (P.length : Int)) := by rw [ha]; exact (qa7 rfl).trans rfl
         have e121 : a.tmps[121]? = some (.bool true) := on_ ha 5 rfl rfl (hon 5 (by kernel_rfl)) rfl
         replace ha := Aside0.mk ha
         refine qaJ (w1 := w') (v := .int .i64 (P.length : Int)) (qa1 rfl rfl rfl (e121.trans (by first | rfl | (simp [*]; done)))) rfl ?_ ?_
         ·go_simp
          (try simp only [qaS])
          try rfl
         refine hK.out _ _ ⟨(by rw [ha.out]; exact qah 6 hb_ rfl rfl rfl), Q_LA, fun h0_ => absurd ((hoff 32 (by kernel_rfl)).symm.trans h0_) (by decide), Q_HB5, Q_HK5⟩
        refine qag ?_ ?_
        ·rintro b a w' ⟨ha, Q_LA, Q_LB, Q_HB5, Q_HK5⟩ hb_ hon hoff
         refine ⟨_, rfl, fun K hK => ?_⟩
         have e0 : a.tmps[0]? = some (.pointer (some ⟨g, 0, none⟩)) := by rw [ha]; exact (qa7 rfl).trans rfl
         have e121 : a.tmps[121]? = some (.bool true) := on_ ha 5 rfl rfl (hon 5 (by kernel_rfl)) rfl
         replace ha := Aside0.mk ha
         refine qaJ (w1 := w') (v := .pointer (some ⟨g, 0, none⟩)) (qa1 rfl rfl rfl (e121.trans (by first | rfl | (simp [*]; done)))) rfl ?_ ?_
         ·go_simp
          (try simp only [qaS])
          try rfl
         refine hK.out _ _ ⟨(by rw [ha.out]; exact qah 7 hb_ rfl rfl rfl), Q_LA, fun h0_ => absurd ((hoff 32 (by kernel_rfl)).symm.trans h0_) (by decide), Q_HB5, Q_HK5⟩
        refine qag ?_ ?_
        ·rintro b a w' ⟨ha, Q_LA, Q_LB, Q_HB5, Q_HK5⟩ hb_ hon hoff
         refine ⟨_, rfl, fun K hK => ?_⟩
         have e123 : a.tmps[123]? = some (.pointer (some ⟨g, 0, none⟩)) := on_ ha 7 rfl rfl (hon 7 (by kernel_rfl)) rfl
         have e121 : a.tmps[121]? = some (.bool true) := on_ ha 5 rfl rfl (hon 5 (by kernel_rfl)) rfl
         replace ha := Aside0.mk ha
         refine qaJ (w1 := w') (v := .pointer (some ⟨g, 0, none⟩)) (qa1 rfl rfl rfl (e121.trans (by first | rfl | (simp [*]; done)))) rfl ?_ ?_
         ·go_simp
          (try simp only [qaS])
          try rfl
         refine hK.out _ _ ⟨(by rw [ha.out]; exact qah 8 hb_ rfl rfl rfl), Q_LA, fun h0_ => absurd ((hoff 32 (by kernel_rfl)).symm.trans h0_) (by decide), Q_HB5, Q_HK5⟩
        refine qag ?_ ?_
        ·rintro b a w' ⟨ha, Q_LA, Q_LB, Q_HB5, Q_HK5⟩ hb_ hon hoff
         refine ⟨_, rfl, fun K hK => ?_⟩
         have e124 : a.tmps[124]? = some (.pointer (some ⟨g, 0, none⟩)) := on_ ha 8 rfl rfl (hon 8 (by kernel_rfl)) rfl
         have e121 : a.tmps[121]? = some (.bool true) := on_ ha 5 rfl rfl (hon 5 (by kernel_rfl)) rfl
         replace ha := Aside0.mk ha
         refine qaJ (w1 := w') (v := .pointer (some ⟨g, 1, none⟩)) (qa1 rfl rfl rfl (e121.trans (by first | rfl | (simp [*]; done)))) rfl ?_ ?_
         ·go_simp
          (try simp only [qaS])
          try rfl
         refine hK.out _ _ ⟨(by rw [ha.out]; exact qah 9 hb_ rfl rfl rfl), Q_LA, fun h0_ => absurd ((hoff 32 (by kernel_rfl)).symm.trans h0_) (by decide), Q_HB5, Q_HK5⟩
        refine qag ?_ ?_
        ·rintro b a w' ⟨ha, Q_LA, Q_LB, Q_HB5, Q_HK5⟩ hb_ hon hoff
         refine ⟨_, rfl, fun K hK => ?_⟩
         have e125 : a.tmps[125]? = some (.pointer (some ⟨g, 1, none⟩)) := on_ ha 9 rfl rfl (hon 9 (by kernel_rfl)) rfl
         have e121 : a.tmps[121]? = some (.bool true) := on_ ha 5 rfl rfl (hon 5 (by kernel_rfl)) rfl
         replace ha := Aside0.mk ha
         have LA := Aside0.mk (Q_LA (hoff 32 (by kernel_rfl)))
         have hc1_ := (qbH LA.out.2.1).2.1
         refine qaJ (w1 := w') (v := .slice (some ⟨gp, 0, none⟩) P2.length cp) (qa1 rfl rfl rfl (e121.trans (by first | rfl | (simp [*]; done)))) rfl ?_ ?_
         ·go_simp
          (try simp only [qaS])
          try rfl
         refine hK.out _ _ ⟨(by rw [ha.out]; exact qah 10 hb_ rfl rfl rfl), Q_LA, fun h0_ => absurd ((hoff 32 (by kernel_rfl)).symm.trans h0_) (by decide), Q_HB5, Q_HK5⟩
        refine qag ?_ ?_
        ·rintro b a w' ⟨ha, Q_LA, Q_LB, Q_HB5, Q_HK5⟩ hb_ hon hoff
         refine ⟨_, rfl, fun K hK => ?_⟩
         have e126 : a.tmps[126]? = some (.slice (some ⟨gp, 0, none⟩) P2.length cp) := on_ ha 10 rfl rfl (hon 10 (by kernel_rfl)) rfl
         have e121 : a.tmps[121]? = some (.bool true) := on_ ha 5 rfl rfl (hon 5 (by kernel_rfl)) rfl
         replace ha := Aside0.mk ha
         refine qaJ (w1 := w') (v := .int .i64 (P2.length : Int)) (qa1 rfl rfl rfl (e121.trans (by first | rfl | (simp [*]; done)))) rfl ?_ ?_
         ·go_simp
          (try simp only [qaS])
          try rfl
         refine hK.out _ _ ⟨(by rw [ha.out]; exact qah 11 hb_ rfl rfl rfl), Q_LA, fun h0_ => absurd ((hoff 32 (by kernel_rfl)).symm.trans h0_) (by decide), Q_HB5, Q_HK5⟩
        refine qag ?_ ?_
        ·rintro b a w' ⟨ha, Q_LA, Q_LB, Q_HB5, Q_HK5⟩ hb_ hon hoff
         refine ⟨_, rfl, fun K hK => ?_⟩
         have e122 : a.tmps[122]? = some (.int .i64 (P.length : Int)) := on_ ha 6 rfl rfl (hon 6 (by kernel_rfl)) rfl
         have e127 : a.tmps[127]? = some (.int .i64 (P2.length : Int)) := on_ ha 11 rfl rfl (hon 11 (by kernel_rfl)) rfl
         have e121 : a.tmps[121]? = some (.bool true) := on_ ha 5 rfl rfl (hon 5 (by kernel_rfl)) rfl
         replace ha := Aside0.mk ha
         have y1_ := HMO.out
         refine qaJ (w1 := w') (v := .bool true) (qa1 rfl rfl rfl (e121.trans (by first | rfl | (simp [*]; done)))) rfl ?_ ?_
         ·go_simp
          (try simp only [qaS])
          try rfl
         refine hK.out _ _ ⟨(by rw [ha.out]; exact qah 12 hb_ rfl rfl rfl), Q_LA, fun h0_ => absurd ((hoff 32 (by kernel_rfl)).symm.trans h0_) (by decide), Q_HB5, Q_HK5⟩
        refine qag ?_ ?_
        ·rintro b a w' ⟨ha, Q_LA, Q_LB, Q_HB5, Q_HK5⟩ hb_ hon hoff
         refine ⟨_, rfl, fun K hK => ?_⟩
         have e121 : a.tmps[121]? = some (.bool true) := on_ ha 5 rfl rfl (hon 5 (by kernel_rfl)) rfl
         have e128 : a.tmps[128]? = some (.bool true) := on_ ha 12 rfl rfl (hon 12 (by kernel_rfl)) rfl
         replace ha := Aside0.mk ha
         refine qaJ (w1 := w') (v := .bool true) (by rfl) rfl ?_ ?_
         ·go_simp
          (try simp only [qaS])
          try rfl
         refine hK.out _ _ ⟨(by rw [ha.out]; exact qah 13 hb_ rfl rfl rfl), Q_LA, fun h0_ => absurd ((hoff 32 (by kernel_rfl)).symm.trans h0_) (by decide), Q_HB5, Q_HK5⟩
        refine qag ?_ ?_
        ·rintro b a w' ⟨ha, Q_LA, Q_LB, Q_HB5, Q_HK5⟩ hb_ hon hoff
         refine ⟨_, rfl, fun K hK => ?_⟩
         have e129 : a.tmps[129]? = some (.bool true) := on_ ha 13 rfl rfl (hon 13 (by kernel_rfl)) rfl
         replace ha := Aside0.mk ha
         refine qaJ (w1 := w') (v := .bool true) (by rfl) rfl ?_ ?_
         ·go_simp
          (try simp only [qaS])
          try rfl
         refine hK.out _ _ ⟨(by rw [ha.out]; exact qah 14 hb_ rfl rfl rfl), Q_LA, fun h0_ => absurd ((hoff 32 (by kernel_rfl)).symm.trans h0_) (by decide), Q_HB5, Q_HK5⟩
        refine qag ?_ ?_
        ·rintro b a w' ⟨ha, Q_LA, Q_LB, Q_HB5, Q_HK5⟩ hb_ hon hoff
         refine ⟨_, rfl, fun K hK => ?_⟩
         have e0 : a.tmps[0]? = some (.pointer (some ⟨g, 0, none⟩)) := by rw [ha]; exact (qa7 rfl).trans rfl
         have e130 : a.tmps[130]? = some (.bool true) := on_ ha 14 rfl rfl (hon 14 (by kernel_rfl)) rfl
         replace ha := Aside0.mk ha
         refine qaJ (w1 := w') (v := .pointer (some ⟨g, 0, none⟩)) (qa1 rfl rfl rfl (e130.trans (by first | rfl | (simp [*]; done)))) rfl ?_ ?_
         ·go_simp
          (try simp only [qaS])
          try rfl
         refine hK.out _ _ ⟨(by rw [ha.out]; exact qah 15 hb_ rfl rfl rfl), Q_LA, fun h0_ => absurd ((hoff 32 (by kernel_rfl)).symm.trans h0_) (by decide), Q_HB5, Q_HK5⟩
        refine qag ?_ ?_
        ·rintro b a w' ⟨ha, Q_LA, Q_LB, Q_HB5, Q_HK5⟩ hb_ hon hoff
         refine ⟨_, rfl, fun K hK => ?_⟩
         have e131 : a.tmps[131]? = some (.pointer (some ⟨g, 0, none⟩)) := on_ ha 15 rfl rfl (hon 15 (by kernel_rfl)) rfl
         have e130 : a.tmps[130]? = some (.bool true) := on_ ha 14 rfl rfl (hon 14 (by kernel_rfl)) rfl
         replace ha := Aside0.mk ha
         refine qaJ (w1 := w') (v := .pointer (some ⟨g, 0, none⟩)) (qa1 rfl rfl rfl (e130.trans (by first | rfl | (simp [*]; done)))) rfl ?_ ?_
         ·go_simp
          (try simp only [qaS])
          try rfl
         refine hK.out _ _ ⟨(by rw [ha.out]; exact qah 16 hb_ rfl rfl rfl), Q_LA, fun h0_ => absurd ((hoff 32 (by kernel_rfl)).symm.trans h0_) (by decide), Q_HB5, Q_HK5⟩
        refine qag ?_ ?_
        ·rintro b a w' ⟨ha, Q_LA, Q_LB, Q_HB5, Q_HK5⟩ hb_ hon hoff
         refine ⟨_, rfl, fun K hK => ?_⟩
         have e132 : a.tmps[132]? = some (.pointer (some ⟨g, 0, none⟩)) := on_ ha 16 rfl rfl (hon 16 (by kernel_rfl)) rfl
         have e130 : a.tmps[130]? = some (.bool true) := on_ ha 14 rfl rfl (hon 14 (by kernel_rfl)) rfl
         replace ha := Aside0.mk ha
         refine qaJ (w1 := w') (v := .pointer (some ⟨g, 1, none⟩)) (qa1 rfl rfl rfl (e130.trans (by first | rfl | (simp [*]; done)))) rfl ?_ ?_
         ·go_simp
          (try simp only [qaS])
          try rfl
         refine hK.out _ _ ⟨(by rw [ha.out]; exact qah 17 hb_ rfl rfl rfl), Q_LA, fun h0_ => absurd ((hoff 32 (by kernel_rfl)).symm.trans h0_) (by decide), Q_HB5, Q_HK5⟩
        refine qag ?_ ?_
        ·rintro b a w' ⟨ha, Q_LA, Q_LB, Q_HB5, Q_HK5⟩ hb_ hon hoff
         refine ⟨_, rfl, fun K hK => ?_⟩
         have e133 : a.tmps[133]? = some (.pointer (some ⟨g, 1, none⟩)) := on_ ha 17 rfl rfl (hon 17 (by kernel_rfl)) rfl
         have e130 : a.tmps[130]? = some (.bool true) := on_ ha 14 rfl rfl (hon 14 (by kernel_rfl)) rfl
         replace ha := Aside0.mk ha
         have LA := Aside0.mk (Q_LA (hoff 32 (by kernel_rfl)))
         have hc1_ := (qbH LA.out.2.1).2.1
         refine qaJ (w1 := w') (v := .slice (some ⟨gp, 0, none⟩) P2.length cp) (qa1 rfl rfl rfl (e130.trans (by first | rfl | (simp [*]; done)))) rfl ?_ ?_
         ·go_simp
          (try simp only [qaS])
          try rfl
         refine hK.out _ _ ⟨(by rw [ha.out]; exact qah 18 hb_ rfl rfl rfl), Q_LA, fun h0_ => absurd ((hoff 32 (by kernel_rfl)).symm.trans h0_) (by decide), Q_HB5, Q_HK5⟩
        refine qag ?_ ?_
        ·rintro b a w' ⟨ha, Q_LA, Q_LB, Q_HB5, Q_HK5⟩ hb_ hon hoff
         refine ⟨_, rfl, fun K hK => ?_⟩
         have e8 : a.tmps[8]? = some (.int .i64 (P.length : Int)) := by rw [ha]; exact (qa7 rfl).trans rfl
         have e130 : a.tmps[130]? = some (.bool true) := on_ ha 14 rfl rfl (hon 14 (by kernel_rfl)) rfl
         replace ha := Aside0.mk ha
         refine qaJ (w1 := w') (v := .int .i64 (P.length : Int)) (qa1 rfl rfl rfl (e130.trans (by first | rfl | (simp [*]; done)))) rfl ?_ ?_
         ·go_simp
          (try simp only [qaS])
          try rfl
         refine hK.out _ _ ⟨(by rw [ha.out]; exact qah 19 hb_ rfl rfl rfl), Q_LA, fun h0_ => absurd ((hoff 32 (by kernel_rfl)).symm.trans h0_) (by decide), Q_HB5, Q_HK5⟩
        refine qag ?_ ?_
        ·rintro b a w' ⟨ha, Q_LA, Q_LB, Q_HB5, Q_HK5⟩ hb_ hon hoff
         refine ⟨_, rfl, fun K hK => ?_⟩
         have e134 : a.tmps[134]? = some (.slice (some ⟨gp, 0, none⟩) P2.length cp) := on_ ha 18 rfl rfl (hon 18 (by kernel_rfl)) rfl
         have e135 : a.tmps[135]? = some (.int .i64 (P.length : Int)) := on_ ha 19 rfl rfl (hon 19 (by kernel_rfl)) rfl
         have e130 : a.tmps[130]? = some (.bool true) := on_ ha 14 rfl rfl (hon 14 (by kernel_rfl)) rfl
         replace ha := Aside0.mk ha
         have y1_ : (P.length : Int) < (P2.length : Int) := by have := HMO.out; omega
         have y0_ : 0 ≤ (P.length : Int) := by omega
         refine qaJ (w1 := w') (v := .pointer (some ⟨gp, P.length * 2, none⟩)) (qa1 rfl rfl rfl (e130.trans (by first | rfl | (simp [*]; done)))) rfl ?_ ?_
         ·go_simp
          (try simp only [qaS])
          try rfl
         refine hK.out _ _ ⟨(by rw [ha.out]; exact qah 20 hb_ rfl rfl rfl), Q_LA, fun h0_ => absurd ((hoff 32 (by kernel_rfl)).symm.trans h0_) (by decide), Q_HB5, Q_HK5⟩
        refine qag ?_ ?_
        ·rintro b a w' ⟨ha, Q_LA, Q_LB, Q_HB5, Q_HK5⟩ hb_ hon hoff
         refine ⟨_, rfl, fun K hK => ?_⟩
         have e136 : a.tmps[136]? = some (.pointer (some ⟨gp, P.length * 2, none⟩)) := on_ ha 20 rfl rfl (hon 20 (by kernel_rfl)) rfl
         have e130 : a.tmps[130]? = some (.bool true) := on_ ha 14 rfl rfl (hon 14 (by kernel_rfl)) rfl
         replace ha := Aside0.mk ha
         refine qaJ (w1 := w') (v := .pointer (some ⟨gp, P.length * 2, none⟩)) (qa1 rfl rfl rfl (e130.trans (by first | rfl | (simp [*]; done)))) rfl ?_ ?_
         ·go_simp
          (try simp only [qaS])
          try rfl
         refine hK.out _ _ ⟨(by rw [ha.out]; exact qah 21 hb_ rfl rfl rfl), Q_LA, fun h0_ => absurd ((hoff 32 (by kernel_rfl)).symm.trans h0_) (by decide), Q_HB5, Q_HK5⟩
        refine qag ?_ ?_
        ·rintro b a w' ⟨ha, Q_LA, Q_LB, Q_HB5, Q_HK5⟩ hb_ hon hoff
         refine ⟨_, rfl, fun K hK => ?_⟩
         have e137 : a.tmps[137]? = some (.pointer (some ⟨gp, P.length * 2, none⟩)) := on_ ha 21 rfl rfl (hon 21 (by kernel_rfl)) rfl
         have e130 : a.tmps[130]? = some (.bool true) := on_ ha 14 rfl rfl (hon 14 (by kernel_rfl)) rfl
         replace ha := Aside0.mk ha
         have LA := Aside0.mk (Q_LA (hoff 32 (by kernel_rfl)))
         have hc2_ := qdX LA.out.2.2.2 (j := P.length) HMO.out
         rw [HKY.out] at hc2_
         refine qaJ (w1 := w') (v := .string ky) (qa1 rfl rfl rfl (e130.trans (by first | rfl | (simp [*]; done)))) rfl ?_ ?_
         ·go_simp
          (try simp only [qaS])
          try rfl
         refine hK.out _ _ ⟨(by rw [ha.out]; exact qah 22 hb_ rfl rfl rfl), Q_LA, fun h0_ => absurd ((hoff 32 (by kernel_rfl)).symm.trans h0_) (by decide), Q_HB5, Q_HK5⟩
        refine qag ?_ ?_
        ·rintro b a w' ⟨ha, Q_LA, Q_LB, Q_HB5, Q_HK5⟩ hb_ hon hoff
         refine ⟨_, rfl, fun K hK => ?_⟩
         have e6 : a.tmps[6]? = some (.pointer (some ⟨nb, 0, none⟩)) := by rw [ha]; exact (qa7 rfl).trans rfl
         have e130 : a.tmps[130]? = some (.bool true) := on_ ha 14 rfl rfl (hon 14 (by kernel_rfl)) rfl
         replace ha := Aside0.mk ha
         refine qaJ (w1 := w') (v := .pointer (some ⟨nb, 2, none⟩)) (qa1 rfl rfl rfl (e130.trans (by first | rfl | (simp [*]; done)))) rfl ?_ ?_
         ·go_simp
          (try simp only [qaS])
          try rfl
         refine hK.out _ _ ⟨(by rw [ha.out]; exact qah 23 hb_ rfl rfl rfl), Q_LA, fun h0_ => absurd ((hoff 32 (by kernel_rfl)).symm.trans h0_) (by decide), Q_HB5, Q_HK5⟩
        refine qag ?_ ?_
        ·rintro b a w' ⟨ha, Q_LA, Q_LB, Q_HB5, Q_HK5⟩ hb_ hon hoff
         refine ⟨_, rfl, fun K hK => ?_⟩
         have e139 : a.tmps[139]? = some (.pointer (some ⟨nb, 2, none⟩)) := on_ ha 23 rfl rfl (hon 23 (by kernel_rfl)) rfl
         have e130 : a.tmps[130]? = some (.bool true) := on_ ha 14 rfl rfl (hon 14 (by kernel_rfl)) rfl
         replace ha := Aside0.mk ha
         have HK5 := Aside0.mk Q_HK5
         have hc2_ := qae (HK5.out _ _ _ HND.out HGN.out (by decide) (by decide)) 2
         simp only [List.getElem?_toArray, List.getElem?_cons_zero, List.getElem?_cons_succ] at hc2_
         refine qaJ (w1 := w') (v := .slice (some ad2) x.f2.length b2) (qa1 rfl rfl rfl (e130.trans (by first | rfl | (simp [*]; done)))) rfl ?_ ?_
         ·go_simp
          (try simp only [qaS])
          try rfl
         refine hK.out _ _ ⟨(by rw [ha.out]; exact qah 24 hb_ rfl rfl rfl), Q_LA, fun h0_ => absurd ((hoff 32 (by kernel_rfl)).symm.trans h0_) (by decide), Q_HB5, Q_HK5⟩
        refine qag ?_ ?_
        ·rintro b a w' ⟨ha, Q_LA, Q_LB, Q_HB5, Q_HK5⟩ hb_ hon hoff
         refine ⟨_, rfl, fun K hK => ?_⟩
         have e7 : a.tmps[7]? = some (.int .i64 (i : Int)) := by rw [ha]; exact (qa7 rfl).trans rfl
         have e130 : a.tmps[130]? = some (.bool true) := on_ ha 14 rfl rfl (hon 14 (by kernel_rfl)) rfl
         replace ha := Aside0.mk ha
         refine qaJ (w1 := w') (v := .int .i64 (i : Int)) (qa1 rfl rfl rfl (e130.trans (by first | rfl | (simp [*]; done)))) rfl ?_ ?_
         ·go_simp
          (try simp only [qaS])
          try rfl
         refine hK.out _ _ ⟨(by rw [ha.out]; exact qah 25 hb_ rfl rfl rfl), Q_LA, fun h0_ => absurd ((hoff 32 (by kernel_rfl)).symm.trans h0_) (by decide), Q_HB5, Q_HK5⟩
        refine qag ?_ ?_
        ·rintro b a w' ⟨ha, Q_LA, Q_LB, Q_HB5, Q_HK5⟩ hb_ hon hoff
         refine ⟨_, rfl, fun K hK => ?_⟩
         have e140 : a.tmps[140]? = some (.slice (some ad2) x.f2.length b2) := on_ ha 24 rfl rfl (hon 24 (by kernel_rfl)) rfl
         have e141 : a.tmps[141]? = some (.int .i64 (i : Int)) := on_ ha 25 rfl rfl (hon 25 (by kernel_rfl)) rfl
         have e130 : a.tmps[130]? = some (.bool true) := on_ ha 14 rfl rfl (hon 14 (by kernel_rfl)) rfl
         replace ha := Aside0.mk ha
         have y2_ := HI2_.out
         refine qaJ (w1 := w') (v := .pointer (some (ad2.add i))) (qa1 rfl rfl rfl (e130.trans (by first | rfl | (simp [*]; done)))) rfl ?_ ?_
         ·go_simp
          (try simp only [qaS])
          try rfl
         refine hK.out _ _ ⟨(by rw [ha.out]; exact qah 26 hb_ rfl rfl rfl), Q_LA, fun h0_ => absurd ((hoff 32 (by kernel_rfl)).symm.trans h0_) (by decide), Q_HB5, Q_HK5⟩
        refine qag ?_ ?_
        ·rintro b a w' ⟨ha, Q_LA, Q_LB, Q_HB5, Q_HK5⟩ hb_ hon hoff
         refine ⟨_, rfl, fun K hK => ?_⟩
         have e142 : a.tmps[142]? = some (.pointer (some (ad2.add i))) := on_ ha 26 rfl rfl (hon 26 (by kernel_rfl)) rfl
         have e130 : a.tmps[130]? = some (.bool true) := on_ ha 14 rfl rfl (hon 14 (by kernel_rfl)) rfl
         replace ha := Aside0.mk ha
         have HB5 := Aside0.mk Q_HB5
         have hc2_ := (HB5.out.cell (World.block_lt_of_cell? w0 _ K2.out)).trans K2.out
         refine qaJ (w1 := w') (v := .string m) (qa1 rfl rfl rfl (e130.trans (by first | rfl | (simp [*]; done)))) rfl ?_ ?_
         ·go_simp
          (try simp only [qaS])
          try rfl
         refine hK.out _ _ ⟨(by rw [ha.out]; exact qah 27 hb_ rfl rfl rfl), Q_LA, fun h0_ => absurd ((hoff 32 (by kernel_rfl)).symm.trans h0_) (by decide), Q_HB5, Q_HK5⟩
        refine qag ?_ ?_
        ·rintro b a w' ⟨ha, Q_LA, Q_LB, Q_HB5, Q_HK5⟩ hb_ hon hoff
         refine ⟨_, rfl, fun K hK => ?_⟩
         have e138 : a.tmps[138]? = some (.string ky) := on_ ha 22 rfl rfl (hon 22 (by kernel_rfl)) rfl
         have e143 : a.tmps[143]? = some (.string m) := on_ ha 27 rfl rfl (hon 27 (by kernel_rfl)) rfl
         have e130 : a.tmps[130]? = some (.bool true) := on_ ha 14 rfl rfl (hon 14 (by kernel_rfl)) rfl
         replace ha := Aside0.mk ha
         have hc2_ := HEQ.out
         refine qaJ (w1 := w') (v := .bool be) (qa1 rfl rfl rfl (e130.trans (by first | rfl | (simp [*]; done)))) rfl ?_ ?_
         ·go_simp
          (try simp only [qaS])
          try rfl
         refine hK.out _ _ ⟨(by rw [ha.out]; exact qah 28 hb_ rfl rfl rfl), Q_LA, fun h0_ => absurd ((hoff 32 (by kernel_rfl)).symm.trans h0_) (by decide), Q_HB5, Q_HK5⟩
        refine qag ?_ ?_
        ·rintro b a w' ⟨ha, Q_LA, Q_LB, Q_HB5, Q_HK5⟩ hb_ hon hoff
         refine ⟨_, rfl, fun K hK => ?_⟩
         have e130 : a.tmps[130]? = some (.bool true) := on_ ha 14 rfl rfl (hon 14 (by kernel_rfl)) rfl
         have e144 : a.tmps[144]? = some (.bool be) := on_ ha 28 rfl rfl (hon 28 (by kernel_rfl)) rfl
         replace ha := Aside0.mk ha
         refine qaJ (w1 := w') (v := .bool be) (by rfl) rfl ?_ ?_
         ·go_simp
          (try simp only [qaS])
          try rfl
         refine hK.out _ _ ⟨(by rw [ha.out]; exact qah 29 hb_ rfl rfl rfl), Q_LA, fun h0_ => absurd ((hoff 32 (by kernel_rfl)).symm.trans h0_) (by decide), Q_HB5, Q_HK5⟩
        refine qag ?_ ?_
        ·rintro b a w' ⟨ha, Q_LA, Q_LB, Q_HB5, Q_HK5⟩ hb_ hon hoff
         refine ⟨_, rfl, fun K hK => ?_⟩
         have e116 : a.tmps[116]? = some (.pointer (some ⟨g, 0, none⟩)) := on_ ha 0 rfl rfl (hon 0 (by kernel_rfl)) rfl
         replace ha := Aside0.mk ha
         refine qaJ (w1 := w') (v := .pointer (some ⟨g, 0, none⟩)) (by rfl) rfl ?_ ?_
         ·go_simp
          (try simp only [qaS])
          try rfl
         refine hK.out _ _ ⟨(by rw [ha.out]; exact qah 30 hb_ rfl rfl rfl), Q_LA, fun h0_ => absurd ((hoff 32 (by kernel_rfl)).symm.trans h0_) (by decide), Q_HB5, Q_HK5⟩
        refine qag ?_ ?_
        ·rintro b a w' ⟨ha, Q_LA, Q_LB, Q_HB5, Q_HK5⟩ hb_ hon hoff
         refine ⟨_, rfl, fun K hK => ?_⟩
         have e146 : a.tmps[146]? = some (.pointer (some ⟨g, 0, none⟩)) := on_ ha 30 rfl rfl (hon 30 (by kernel_rfl)) rfl
         replace ha := Aside0.mk ha
         refine qaJ (w1 := w') (v := .pointer (some ⟨g, 3, none⟩)) (by rfl) rfl ?_ ?_
         ·go_simp
          (try simp only [qaS])
          try rfl
         refine hK.out _ _ ⟨(by rw [ha.out]; exact qah 31 hb_ rfl rfl rfl), Q_LA, fun h0_ => absurd ((hoff 32 (by kernel_rfl)).symm.trans h0_) (by decide), Q_HB5, Q_HK5⟩
        refine qag ?_ ?_
        ·rintro b a w' ⟨ha, Q_LA, Q_LB, Q_HB5, Q_HK5⟩ hb_ hon hoff
         refine ⟨_, rfl, fun K hK => ?_⟩
         have e147 : a.tmps[147]? = some (.pointer (some ⟨g, 3, none⟩)) := on_ ha 31 rfl rfl (hon 31 (by kernel_rfl)) rfl
         have e145 : a.tmps[145]? = some (.bool be) := on_ ha 29 rfl rfl (hon 29 (by kernel_rfl)) rfl
         replace ha := Aside0.mk ha
         have LA := Aside0.mk (Q_LA hb_)
         have HB5 := Aside0.mk Q_HB5
         have HK5 := Aside0.mk Q_HK5
         have hc0_ := (qbH LA.out.2.1).2.2.2
         have hf0_ := qad LA.out.2.1 3
         refine qgY (w1 := w'.setCell ⟨g, 3, none⟩ (.bool be)) (by rfl) rfl ?_ ?_
         ·go_simp
         refine hK.out _ _ ⟨(by rw [ha.out]; exact qcD (v := undef) rfl), fun h0_ => absurd ((qcy b 32).symm.trans h0_) (by decide), fun _ => LA.out.qdl be, HB5.out.setCell (p := ⟨g, 3, none⟩) LA.out.1 _, HK5.out.set _ _⟩
        exact qb7
       rintro b a w' hall ⟨ha, Q_LA, Q_LB, Q_HB5, Q_HK5⟩
       clear HB5 HK5 LA
       have hb0_ := hall 0 (by kernel_rfl)
       have hb1_ := hall 1 (by kernel_rfl)
       have hb2_ := hall 2 (by kernel_rfl)
       have hb3_ := hall 3 (by kernel_rfl)
       have hb4_ := hall 4 (by kernel_rfl)
       have hb5_ := hall 5 (by kernel_rfl)
       have hb6_ := hall 6 (by kernel_rfl)
       have hb7_ := hall 7 (by kernel_rfl)
       have hb8_ := hall 8 (by kernel_rfl)
       have hb9_ := hall 9 (by kernel_rfl)
       have hb10_ := hall 10 (by kernel_rfl)
       have hb11_ := hall 11 (by kernel_rfl)
       have hb12_ := hall 12 (by kernel_rfl)
       have hb13_ := hall 13 (by kernel_rfl)
       have hb14_ := hall 14 (by kernel_rfl)
       have hb15_ := hall 15 (by kernel_rfl)
       have hb16_ := hall 16 (by kernel_rfl)
       have hb17_ := hall 17 (by kernel_rfl)
       have hb18_ := hall 18 (by kernel_rfl)
       have hb19_ := hall 19 (by kernel_rfl)
       have hb20_ := hall 20 (by kernel_rfl)
       have hb21_ := hall 21 (by kernel_rfl)
       have hb22_ := hall 22 (by kernel_rfl)
       have hb23_ := hall 23 (by kernel_rfl)
       have hb24_ := hall 24 (by kernel_rfl)
       have hb25_ := hall 25 (by kernel_rfl)
       have hb26_ := hall 26 (by kernel_rfl)
       have hb27_ := hall 27 (by kernel_rfl)
       have hb28_ := hall 28 (by kernel_rfl)
       have hb29_ := hall 29 (by kernel_rfl)
       have hb30_ := hall 30 (by kernel_rfl)
       have hb31_ := hall 31 (by kernel_rfl)
       have hb32_ := hall 32 (by kernel_rfl)
       subst ha
       simp only [qbq, hb0_, hb1_, hb2_, hb3_, hb4_, hb5_, hb6_, hb7_, hb8_, hb9_, hb10_, hb11_, hb12_, hb13_, hb14_, hb15_, hb16_, hb17_, hb18_, hb19_, hb20_, hb21_, hb22_, hb23_, hb24_, hb25_, hb26_, hb27_, hb28_, hb29_, hb30_, hb31_, hb32_, if_true, Act.put, List.setIfInBounds_toArray, List.set_cons_zero, List.set_cons_succ]
       clear Q_LA
       have LB := Aside0.mk (Q_LB hb32_)
       clear Q_LB
       have HB5 := Aside0.mk Q_HB5
       clear Q_HB5
       have HK5 := Aside0.mk Q_HK5
       clear Q_HK5
       clear hall hb0_ hb1_ hb2_ hb3_ hb4_ hb5_ hb6_ hb7_ hb8_ hb9_ hb10_ hb11_ hb12_ hb13_ hb14_ hb15_ hb16_ hb17_ hb18_ hb19_ hb20_ hb21_ hb22_ hb23_ hb24_ hb25_ hb26_ hb27_ hb28_ hb29_ hb30_ hb31_ hb32_
       go_wp2_with fail
       go_roundw
       case rel => exact ⟨i + 1, be, S2, P2, _, _, by omega, by go_num, HI2, LB, HB5, ⟨HKr.out.trans HK5.out⟩, ⟨HK5.out _ _ _ HND.out HGN.out (by decide) (by decide)⟩, HE2⟩
       case measure => simp [intOf]; omega
    ·have he : i = x.f3.length := by omega
     have c5 : decide ((i : Int) < (x.f3.length : Int)) = false := decide_eq_false (by omega)
     have hE := HEr.out
     rw [he, List.drop_length, qek] at hE
     have HF := Aside0.mk (show (b, S, P) = walkW ns (n + 1) (kk : Int) s p from by
      cases b with
      | true => rw [if_pos rfl] at hE; exact hE
      | false => rw [if_neg (by decide)] at hE; exact hE)
     clear hE he HEr
     go_wp2_with fail
     go_end0
     rw [← HF.out]
     exact ⟨rfl, HBr.out, HKr.out, _, _, HWr.out⟩
end Go.Proofs.Ytenfomejccfkgaa.X
