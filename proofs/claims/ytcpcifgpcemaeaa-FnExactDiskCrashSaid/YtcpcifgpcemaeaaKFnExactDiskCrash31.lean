import Derived.Test.YtcpcifgpcemaeaaKFnExactDiskCrash3
import Derived.Test.YtcpcifgpcemaeaaKFnExactDiskCrash13
import Derived.Test.YtcpcifgpcemaeaaKFnExactDiskCrash14
import Derived.Test.YtcpcifgpcemaeaaKFnExactDiskCrash16
import Derived.Test.YtcpcifgpcemaeaaKFnExactDiskCrash17
import Derived.Test.YtcpcifgpcemaeaaKFnExactDiskCrash18
import Derived.Test.YtcpcifgpcemaeaaKFnExactDiskCrash20
import Derived.Test.YtcpcifgpcemaeaaKFnExactDiskCrash21
import Derived.Test.YtcpcifgpcemaeaaKFnExactDiskCrash23
import Derived.Test.YtcpcifgpcemaeaaKFnExactDiskCrash25
import Derived.Test.YtcpcifgpcemaeaaKFnExactDiskCrash26
import Derived.Test.YtcpcifgpcemaeaaKFnExactDiskCrash27
import Derived.Test.YtcpcifgpcemaeaaKFnExactDiskCrash29
import Derived.Test.YtcpcifgpcemaeaaKFnExactDiskCrash30
import Derived.LoopTactic
import Derived.WalkSpells
import Derived.Deep.RegionHeld3
import Derived.Test.YtcpcifgpcemaeaaRows
import Derived.WalkKit
import Derived.ProofKit
import Derived.OpenShut
import Derived.ShutString
import Derived.ChangeOld
import Derived.Below
import Derived.SizedLaws
namespace Go.Proofs.Ytcpcifgpcemaeaa.X
open Go.RowKit Go.Proofs.YtcpcifgpcemaeaaW.PrintWords Go.Proofs.YtcpcifgpcemaeaaW.PrintLast Go.Proofs.YtcpcifgpcemaeaaW.PrintMore
attribute [local go_sem] xbin_geq xbin_leq xbin_gtr max2_int min2_int max_two min_two max_three min_three max_four min_four
set_option linter.unusedVariables false
set_option linter.unusedSimpArgs false
set_option maxHeartbeats 16000000 in
set_option maxRecDepth 100000 in
theorem walk_DiskCrash (kl kel kml kz kt ks ki ke kA kM kR kh : Nat) (A0 : Option Addr) (c0 : Nat) (s : List ByteArray) (A1 : Option Addr) (c1 : Nat) (c : List S131) (a : Bool) (A3 : Option Addr) (c3 : Nat) (q : List Int) (A4 : Option Addr) (c4 : Nat) (l : List Int) (x : List S95) (r0 : List ByteArray) (r1 : List S95) (r2 : Bool) (r3 : List Int) (code : Int) (sA : List ByteArray) (xA : List S95) (qA : List Int) (mA : Int) (R0 : List ByteArray) (R1 : List S95) (R3 : List Int) (lA : List Int) (mL : Int) (m z : Int) (w : World)
    (hr0 : Kd.C Kd.string w A0 s.length s) (hc0 : s.length ≤ c0) (hr1 : Kd.C k131 w A1 c.length c) (hc1 : c.length ≤ c1) (hr3 : Kd.C (Kd.int .i64) w A3 q.length q) (hc3 : q.length ≤ c3) (hr4 : Kd.C (Kd.int .i64) w A4 l.length l) (hc4 : l.length ≤ c4)
    (hx_l : ¬ (l.length : Int) > 1048576) (htl : laws_toIntS.f kl l = some l) (hel : laws_eqIntS.f kel l l = some true) (hml : laws_markIntS.f kml l mA = some (mL, lA)) (hz : laws_szDisk.f kz s c a q 1048576 = some z) (hz0 : ¬ z < 0) (hto : laws_toDisk.f kt s c a q = some (s, x, a, q)) (hsp : spec_DiskCrash.f ks s x a q l = some (r0, r1, r2, r3, code)) (him : impl_DiskCrash.f s x a q l = some (r0, r1, r2, r3, code))
    (heR : laws_eqDisk.f ke r0 r1 r2 r3 r0 r1 r2 r3 = some true) (heA : laws_eqDisk.f kA s x a q s x a q = some true) (hmA : laws_markDisk.f kM s x a q 1 = some (mA, sA, xA, qA)) (hmA0 : ¬ mL < 0) (hmR : laws_markDisk.f kR r0 r1 r2 r3 1 = some (m, R0, R1, R3)) (hh : laws_heldDisk.f kh R0 R1 r2 R3 1 = some m) (hm0 : ¬ m < 0) :
    Calls Try.prog 8 #[.agg #[.slice A0 s.length c0, .slice A1 c.length c1, .bool a, .slice A3 q.length c3], .slice A4 l.length c4] w fun e w' => e = .returned (.bool true) ∧ Below w.heap.size w w' := by
  have hu := Try.underlying26
  have hu2 := Try.underlying34
  have HR0 := Aside0.mk hr0
  have HR1 := Aside0.mk hr1
  have HR3 := Aside0.mk hr3
  have HZ := Aside0.mk hz
  have HTO := Aside0.mk hto
  have HSP := Aside0.mk hsp
  have HIM := Aside0.mk him
  have HER := Aside0.mk heR
  have HEA := Aside0.mk heA
  have HMA := Aside0.mk hmA
  have HMR := Aside0.mk hmR
  have HH := Aside0.mk hh
  have HB0 := Aside0.mk ((Below.refl w.heap.size w).alloc (Nat.le_refl _) (.cells #[.slice A0 s.length c0, .slice A1 c.length c1, .bool a, .slice A3 q.length c3] 34 (0, 0)))
  have HA0 := Aside0.mk (blk_new w (.cells #[.slice A0 s.length c0, .slice A1 c.length c1, .bool a, .slice A3 q.length c3] 34 (0, 0)))
  have t1 : decide (z < 0) = false := decide_eq_false hz0
  have HR4 := Aside0.mk hr4
  have HTL := Aside0.mk htl
  have HEL := Aside0.mk hel
  have HML := Aside0.mk hml
  clear hr4 htl hel hml
  have t2 : decide (mL < 0) = false := decide_eq_false hmA0
  have t3 : decide (m < 0) = false := decide_eq_false hm0
  have t4 : (code != code) = false := bne_self_eq_false _
  have t5 : (m != m) = false := bne_self_eq_false _
  have tx_l : decide (1048576 < (l.length : Int)) = false := decide_eq_false hx_l
  clear hr0 hr1 hr3 hz hto hsp him heR heA hmA hmR hh
  go_enter Try.func8, Try.ntmps8
  go_wp2_with fail
  refine (laws_szDisk.calls kz _ _ _ _ _ _ _ _ _ _ _ _ _ (Kd.C_below HR0.out HB0.out) hc0 (Kd.C_below HR1.out HB0.out) hc1 (Kd.C_below HR3.out HB0.out) hc3 HZ.out).mono ?_
  rintro e w1 ⟨rfl, hb1⟩
  have HB1 := Aside0.mk (below_step HB0.out hb1)
  have HA1 := Aside0.mk (blk_below HA0.out hb1)
  clear hb1
  obtain ⟨b0, b1, b2, b3, _, _, _, _⟩ := cells4 HA1.out
  go_wp2_with fail
  refine (laws_toDisk.calls kt _ _ _ _ _ _ _ _ _ _ _ _ _ _ _ (Kd.C_below HR0.out HB1.out) hc0 (Kd.C_below HR1.out HB1.out) hc1 (Kd.C_below HR3.out HB1.out) hc3 HTO.out).mono ?_
  rintro e w2p ⟨u0, u1, u3, rfl, hu0, hu1, hu3, hb2p⟩
  obtain ⟨X0s, y0s, rfl, _, _⟩ := Kd.R_reads hu0
  obtain ⟨X1s, y1s, rfl, _, _⟩ := Kd.R_reads hu1
  obtain ⟨X3s, y3s, rfl, _, _⟩ := Kd.R_reads hu3
  have HU := Aside0.mk (show RowsP w1 w2p (fun _ => True) X0s s.length y0s X1s x.length y1s X3s q.length y3s s x q from ⟨hu0, hu1, hu3⟩)
  have HB12 := Aside0.mk hb2p
  clear hu0 hu1 hu3 hb2p b0 b1 b2 b3
  go_wp2_with fail
  refine (laws_toIntS.calls kl _ _ _ _ _ (Kd.C_below HR4.out (below_step HB1.out HB12.out)) hc4 HTL.out).mono ?_
  rintro e w2 ⟨u4, rfl, hu4, hb2⟩
  obtain ⟨X4s, y4s, rfl, _, _⟩ := Kd.R_reads hu4
  have HL := Aside0.mk hu4
  replace HU := Aside0.mk (HU.out.below hb2)
  replace HB12 := Aside0.mk (below_step HB12.out hb2)
  clear hu4 hb2
  go_wp2_with fail
  refine (spec_DiskCrash.calls ks _ _ _ _ _ _ _ _ _ _ _ _ _ _ _ _ _ _ _ (Kd.R_reads' HU.out.1).2.2 (Kd.R_reads' HU.out.1).2.1 (Kd.R_reads' HU.out.2.1).2.2 (Kd.R_reads' HU.out.2.1).2.1 (Kd.R_reads' HU.out.2.2).2.2 (Kd.R_reads' HU.out.2.2).2.1 (Kd.R_reads' HL.out).2.2 (Kd.R_reads' HL.out).2.1 HSP.out).mono ?_
  rintro e w3 ⟨u0, u1, u3, rfl, hu0, hu1, hu3, hb3⟩
  replace hu0 := Kd.R_lower hu0 HB12.out.size
  replace hu1 := Kd.R_lower hu1 HB12.out.size
  replace hu3 := Kd.R_lower hu3 HB12.out.size
  replace hb3 := below_step HB12.out hb3
  clear HL
  obtain ⟨W0, v0, rfl, _, _⟩ := Kd.R_reads hu0
  obtain ⟨W1, v1, rfl, _, _⟩ := Kd.R_reads hu1
  obtain ⟨W3, v3, rfl, _, _⟩ := Kd.R_reads hu3
  have HV := Aside0.mk (DiskP.new HB1.out hb3 hu0 hu1 hu3 r2)
  have HB3 := Aside0.mk (below_alloc (below_step HB1.out hb3) (.cells #[.slice W0 r0.length v0, .slice W1 r1.length v1, .bool r2, .slice W3 r3.length v3] 26 (0, 0)))
  have HA3 := Aside0.mk (blk_alloc (blk_below HA1.out hb3) (.cells #[.slice W0 r0.length v0, .slice W1 r1.length v1, .bool r2, .slice W3 r3.length v3] 26 (0, 0)))
  have hz3 : w.heap.size < w3.heap.size := blk_lt (blk_below HA1.out hb3)
  have hz23 := hb3.size
  have HZ3 := Aside0.mk (And.intro hz3 hz23)
  have hs3 : (w3.alloc (.cells #[.slice W0 r0.length v0, .slice W1 r1.length v1, .bool r2, .slice W3 r3.length v3] 26 (0, 0))).heap.size = w3.heap.size + 1 := by show (w3.heap.push _).size = _; rw [Array.size_push]
  have HS3 := Aside0.mk hs3
  clear hu0 hu1 hu3 hb3 HU HB12 HB1 HA1 hz3 hz23 hs3
  obtain ⟨b0, b1, b2, b3, _, _, _, _⟩ := cells4 HA3.out
  go_wp2_with fail
  refine (laws_toDisk.calls kt _ _ _ _ _ _ _ _ _ _ _ _ _ _ _ (Kd.C_below HR0.out HB3.out) hc0 (Kd.C_below HR1.out HB3.out) hc1 (Kd.C_below HR3.out HB3.out) hc3 HTO.out).mono ?_
  rintro e w4 ⟨u0, u1, u3, rfl, hu0, hu1, hu3, hb4⟩
  obtain ⟨X0x, y0x, rfl, _, _⟩ := Kd.R_reads hu0
  obtain ⟨X1x, y1x, rfl, _, _⟩ := Kd.R_reads hu1
  obtain ⟨X3x, y3x, rfl, _, _⟩ := Kd.R_reads hu3
  have HX := Aside0.mk (DiskP.new HB3.out hb4 hu0 hu1 hu3 a)
  have HB4 := Aside0.mk (below_alloc (below_step HB3.out hb4) (.cells #[.slice X0x s.length y0x, .slice X1x x.length y1x, .bool a, .slice X3x q.length y3x] 26 (0, 0)))
  have HA4 := Aside0.mk (blk_alloc (blk_below HA3.out hb4) (.cells #[.slice X0x s.length y0x, .slice X1x x.length y1x, .bool a, .slice X3x q.length y3x] 26 (0, 0)))
  have HV4 := Aside0.mk ((HV.out.below hb4).below (below_alloc (Below.refl _ _) (.cells #[.slice X0x s.length y0x, .slice X1x x.length y1x, .bool a, .slice X3x q.length y3x] 26 (0, 0))))
  have hz4 := hb4.size
  have hs4 : (w4.alloc (.cells #[.slice X0x s.length y0x, .slice X1x x.length y1x, .bool a, .slice X3x q.length y3x] 26 (0, 0))).heap.size = w4.heap.size + 1 := by show (w4.heap.push _).size = _; rw [Array.size_push]
  have HZ4 := Aside0.mk hz4
  have HS4 := Aside0.mk hs4
  clear hu0 hu1 hu3 hb4 HV HB3 HA3 hz4 hs4 b0 b1 b2 b3
  go_wp2_with fail
  refine (laws_toIntS.calls kl _ _ _ _ _ (Kd.C_below HR4.out HB4.out) hc4 HTL.out).mono ?_
  rintro e w4l ⟨u4, rfl, hu4, hb4l⟩
  obtain ⟨X4x, y4x, rfl, _, _⟩ := Kd.R_reads hu4
  have HL := Aside0.mk (show Kd.R (Kd.int .i64) 3 w4l w.heap.size (fun k => w4.heap.size + 1 ≤ k ∧ k < w4l.heap.size) _ l from Kd.R_lower (Kd.R_mono (Kd.R_bound hu4) (fun _ hk => ⟨by have h1 := hk.2.1; have := HS4.out; omega, hk.2.2.1⟩)) HB4.out.size)
  have HZL := Aside0.mk (show w4.heap.size + 1 ≤ w4l.heap.size from by have h1 := hb4l.size; have := HS4.out; omega)
  replace HX := Aside0.mk (HX.out.below hb4l)
  replace HB4 := Aside0.mk (below_step HB4.out hb4l)
  replace HA4 := Aside0.mk (blk_below HA4.out hb4l)
  replace HV4 := Aside0.mk (HV4.out.below hb4l)
  clear hu4 hb4l
  obtain ⟨b0, b1, b2, b3⟩ := HX.out.cells
  go_wp2_with fail
  refine (impl_DiskCrash.calls _ _ _ _ _ _ _ _ _ _ _ _ _ _ _ _ _ _ _ (Kd.R_reads' HX.out.2.2.1).2.2 (Kd.R_reads' HX.out.2.2.1).2.1 (Kd.R_reads' HX.out.2.2.2.1).2.2 (Kd.R_reads' HX.out.2.2.2.1).2.1 (Kd.R_reads' HX.out.2.2.2.2).2.2 (Kd.R_reads' HX.out.2.2.2.2).2.1 (Kd.R_reads' HL.out).2.2 (Kd.R_reads' HL.out).2.1 HIM.out).mono ?_
  rintro e w5 ⟨u0, u1, u3, rfl, hu0, hu1, hu3, hb5⟩
  obtain ⟨G0, g0, rfl, _, _⟩ := Kd.R_reads hu0
  obtain ⟨G1, g1, rfl, _, _⟩ := Kd.R_reads hu1
  obtain ⟨G3, g3, rfl, _, _⟩ := Kd.R_reads hu3
  have HG := Aside0.mk (DiskP.new HB4.out hb5 hu0 hu1 hu3 r2)
  have HB5 := Aside0.mk (below_alloc (below_step HB4.out hb5) (.cells #[.slice G0 r0.length g0, .slice G1 r1.length g1, .bool r2, .slice G3 r3.length g3] 26 (0, 0)))
  have HA5 := Aside0.mk (blk_alloc (blk_below HA4.out hb5) (.cells #[.slice G0 r0.length g0, .slice G1 r1.length g1, .bool r2, .slice G3 r3.length g3] 26 (0, 0)))
  have HV5 := Aside0.mk ((HV4.out.below hb5).below (below_alloc (Below.refl _ _) (.cells #[.slice G0 r0.length g0, .slice G1 r1.length g1, .bool r2, .slice G3 r3.length g3] 26 (0, 0))))
  have HX5 := Aside0.mk ((HX.out.below hb5).below (below_alloc (Below.refl _ _) (.cells #[.slice G0 r0.length g0, .slice G1 r1.length g1, .bool r2, .slice G3 r3.length g3] 26 (0, 0))))
  have hz5 := hb5.size
  have HZ5 := Aside0.mk hz5
  replace HL := Aside0.mk (Kd.R_alloc (Kd.R_below HL.out hb5) (.cells #[.slice G0 r0.length g0, .slice G1 r1.length g1, .bool r2, .slice G3 r3.length g3] 26 (0, 0)))
  clear hu0 hu1 hu3 hb5 HV4 HX HB4 HA4 hz5 b0 b1 b2 b3
  obtain ⟨b0, b1, b2, b3⟩ := HG.out.cells
  obtain ⟨d0, d1, d2, d3⟩ := HV5.out.cells
  go_wp2_with fail
  refine (eqDisk_at ke w _ _ _ 0 0 _ _ _ _ _ _ _ _ _ _ _ _ _ _ _ r0 r1 r2 r3 HG.out.2.2 HV5.out.2.2 HER.out).mono ?_
  rintro e w6 ⟨rfl, hb6⟩
  have HB6 := Aside0.mk (below_step HB5.out hb6)
  have HA6 := Aside0.mk (blk_below HA5.out hb6)
  have HV6 := Aside0.mk (HV5.out.below hb6)
  have HX6 := Aside0.mk (HX5.out.below hb6)
  have HG6 := Aside0.mk (HG.out.below hb6)
  replace HL := Aside0.mk (Kd.R_below HL.out hb6)
  clear hb6 HV5 HX5 HG HB5 HA5 b0 b1 b2 b3 d0 d1 d2 d3
  obtain ⟨b0, b1, b2, b3, _, _, _, _⟩ := cells4 HA6.out
  obtain ⟨d0, d1, d2, d3⟩ := HX6.out.cells
  go_wp2_with fail
  have HB6d := Aside0.mk (below_drew HB6.out)
  go_region_held3 (fun W => W.cell? ⟨w.heap.size, 0, none⟩ = some (.slice A0 s.length c0) ∧ W.cell? ⟨w.heap.size, 1, none⟩ = some (.slice A1 c.length c1) ∧ W.cell? ⟨w.heap.size, 2, none⟩ = some (.bool a) ∧ W.cell? ⟨w.heap.size, 3, none⟩ = some (.slice A3 q.length c3) ∧ W.cell? ⟨w4.heap.size, 0, none⟩ = some (.slice X0x s.length y0x) ∧ W.cell? ⟨w4.heap.size, 1, none⟩ = some (.slice X1x x.length y1x) ∧ W.cell? ⟨w4.heap.size, 2, none⟩ = some (.bool a) ∧ W.cell? ⟨w4.heap.size, 3, none⟩ = some (.slice X3x q.length y3x))
    (first | exact ⟨b0, b1, b2, b3, d0, d1, d2, d3⟩ | exact ⟨i0, i1, i2, i3, j0, j1, j2, j3⟩ | exact ⟨k0, k1, k2, k3, l0, l1, l2, l3⟩)
    (first
      | (go_at_call 22; refine (laws_toDisk.calls kt _ _ _ _ _ _ _ _ _ _ _ _ _ _ _ (Kd.C_below HR0.out HB6d.out) hc0 (Kd.C_below HR1.out HB6d.out) hc1 (Kd.C_below HR3.out HB6d.out) hc3 HTO.out).mono ?_; rintro e w7 ⟨u0, u1, u3, rfl, hu0, hu1, hu3, hb7⟩; obtain ⟨X0z, y0z, rfl, _, _⟩ := Kd.R_reads hu0; obtain ⟨X1z, y1z, rfl, _, _⟩ := Kd.R_reads hu1; obtain ⟨X3z, y3z, rfl, _, _⟩ := Kd.R_reads hu3; have HB7 := Aside0.mk (below_step HB6d.out hb7); have HA7 := Aside0.mk (blk_below (blk_drew HA6.out) hb7); have HV7 := Aside0.mk ((HV6.out.below (below_drew (Below.refl _ _))).below hb7); have HX7 := Aside0.mk ((HX6.out.below (below_drew (Below.refl _ _))).below hb7); have HG7 := Aside0.mk ((HG6.out.below (below_drew (Below.refl _ _))).below hb7); have HL7 := Aside0.mk (Kd.R_below (Kd.R_below HL.out (below_drew (Below.refl _ _))) hb7); have HU := Aside0.mk (show RowsP w w7 (fun _ => True) X0z s.length y0z X1z x.length y1z X3z q.length y3z s x q from ⟨Kd.R_lower hu0 HB6d.out.size, Kd.R_lower hu1 HB6d.out.size, Kd.R_lower hu3 HB6d.out.size⟩); obtain ⟨i0, i1, i2, i3, _, _, _, _⟩ := cells4 HA7.out; obtain ⟨j0, j1, j2, j3⟩ := HX7.out.cells; clear hu0 hu1 hu3 hb7; dsimp only)
      | (go_at_call 17; refine (eqDisk_at kA w _ _ _ 0 0 _ _ _ _ _ _ _ _ _ _ _ _ _ _ _ s x a q HX7.out.2.2 HU.out HEA.out).mono ?_; rintro e w8 ⟨rfl, hb8⟩; have HB8 := Aside0.mk (below_step HB7.out hb8); have HA8 := Aside0.mk (blk_below HA7.out hb8); have HV8 := Aside0.mk (HV7.out.below hb8); have HX8 := Aside0.mk (HX7.out.below hb8); have HG8 := Aside0.mk (HG7.out.below hb8); have HL8 := Aside0.mk (Kd.R_below HL7.out hb8); obtain ⟨k0, k1, k2, k3, _, _, _, _⟩ := cells4 HA8.out; obtain ⟨l0, l1, l2, l3⟩ := HX8.out.cells; clear hb8; dsimp only)
      | fail)
  clear HB6 HB6d HA6 HV6 HX6 HG6 b0 b1 b2 b3 d0 d1 d2 d3 HB7 HA7 HV7 HX7 HG7 HU i0 i1 i2 i3 j0 j1 j2 j3 k0 k1 k2 k3
  go_wp2_with fail
  refine (laws_toIntS.calls kl _ _ _ _ _ (Kd.C_below HR4.out HB8.out) hc4 HTL.out).mono ?_
  rintro e w8l ⟨u4, rfl, hu4, hb8l⟩
  obtain ⟨X4m, y4m, rfl, _, _⟩ := Kd.R_reads hu4
  have HM := Aside0.mk (Kd.R_reads' hu4)
  replace HB8 := Aside0.mk (below_step HB8.out hb8l)
  replace HA8 := Aside0.mk (blk_below HA8.out hb8l)
  replace HV8 := Aside0.mk ((HV8.out).below hb8l)
  replace HG8 := Aside0.mk ((HG8.out).below hb8l)
  replace HX8 := Aside0.mk (HX8.out.below hb8l)
  have HL := Aside0.mk (Kd.R_below HL8.out hb8l)
  clear hu4 hb8l HL8 HL7
  go_wp2_with fail
  refine (laws_eqIntS.calls kel _ _ _ _ _ _ _ _ (Kd.R_reads' HL.out).2.2 (Kd.R_reads' HL.out).2.1 HM.out.2.2 HM.out.2.1 HEL.out).mono ?_
  rintro e w8e ⟨rfl, hd8e⟩
  have hb8e := hd8e.below
  replace HB8 := Aside0.mk (below_step HB8.out hb8e)
  replace HA8 := Aside0.mk (blk_below HA8.out hb8e)
  replace HV8 := Aside0.mk ((HV8.out).below hb8e)
  replace HG8 := Aside0.mk ((HG8.out).below hb8e)
  replace HX8 := Aside0.mk (HX8.out.below hb8e)
  replace HL := Aside0.mk (Kd.R_below HL.out hb8e)
  clear hd8e hb8e HM
  obtain ⟨m0, m1, m2, m3⟩ := HX8.out.cells
  go_wp2_with fail
  refine (markDisk_at kM w _ _ w4.heap.size _ _ _ _ _ _ _ _ _ s x a q 1 mA sA xA qA HB8.out HX8.out (fun h => absurd h.2 (Nat.lt_irrefl _)) HMA.out).mono ?_
  rintro e w9 ⟨rfl, hX9, hB9, hK9⟩
  have HB9 := Aside0.mk hB9
  have HA9 := Aside0.mk (blk_kept HA8.out hK9 (fun h => by have h1 := h.1; have := HS3.out; have := HZ3.out; omega))
  have HV9 := Aside0.mk (HV8.out.kept hK9 (fun k hk h => by have h1 := h.1; have h2 := hk.2; have := HS3.out; omega) (fun h => by have h1 := h.1; have := HS3.out; omega))
  have HG9 := Aside0.mk (HG8.out.kept hK9 (fun k hk h => by have h1 := h.2; have h2 := hk.1; have := HS4.out; have := HZL.out; omega) (fun h => by have h1 := h.2; have := HS4.out; have := HZ5.out; have := HZL.out; omega))
  replace HL := Aside0.mk (Kd.R_kept HL.out hK9 (fun k hk h => by have h1 := h.2; have h2 := hk.1; omega))
  clear hX9 hB9 hK9 HB8 HA8 HV8 HX8 HG8 l0 l1 l2 l3
  clear m0 m1 m2 m3
  go_wp2_with fail
  refine (laws_markIntS.calls kml (fun k => w4.heap.size + 1 ≤ k ∧ k < w4l.heap.size) _ l mA mL lA w w9 HB9.out HL.out HML.out).mono ?_
  rintro e w9l ⟨rfl, _, hB9, hK9⟩
  replace HB9 := Aside0.mk hB9
  replace HA9 := Aside0.mk (blk_kept HA9.out hK9 (fun h => by have h1 := h.1; have := HS4.out; have := HS3.out; have := HZ3.out; have := HZ4.out; omega))
  replace HV9 := Aside0.mk (HV9.out.kept hK9 (fun k hk h => by have h1 := h.1; have h2 := hk.2; have := HS4.out; have := HS3.out; have := HZ4.out; omega) (fun h => by have h1 := h.1; have := HS4.out; have := HS3.out; have := HZ4.out; omega))
  replace HG9 := Aside0.mk (HG9.out.kept hK9 (fun k hk h => by have h1 := h.2; have h2 := hk.1; omega) (fun h => by have h1 := h.2; have := HZ5.out; omega))
  clear hB9 hK9 HL
  obtain ⟨b0, b1, b2, b3⟩ := HG9.out.cells
  obtain ⟨d0, d1, d2, d3⟩ := HV9.out.cells
  go_wp2_with fail
  refine (eqDisk_at ke w _ _ _ 0 0 _ _ _ _ _ _ _ _ _ _ _ _ _ _ _ r0 r1 r2 r3 HG9.out.2.2 HV9.out.2.2 HER.out).mono ?_
  rintro e w10 ⟨rfl, hb10⟩
  have HB10 := Aside0.mk (below_step HB9.out hb10)
  have HA10 := Aside0.mk (blk_below HA9.out hb10)
  have HV10 := Aside0.mk (HV9.out.below hb10)
  have HG10 := Aside0.mk (HG9.out.below hb10)
  clear hb10 HB9 HA9 HV9 HG9 b0 b1 b2 b3 d0 d1 d2 d3
  obtain ⟨b0, b1, b2, b3⟩ := HG10.out.cells
  go_wp2_with fail
  refine (markDisk_at kR w _ _ w5.heap.size _ _ _ _ _ _ _ _ _ r0 r1 r2 r3 1 m R0 R1 R3 HB10.out HG10.out (fun h => absurd h.2 (Nat.lt_irrefl _)) HMR.out).mono ?_
  rintro e w11 ⟨rfl, hG11, hB11, hK11⟩
  have HB11 := Aside0.mk hB11
  have HG11 := Aside0.mk hG11
  have HA11 := Aside0.mk (blk_kept HA10.out hK11 (fun h => by have h1 := h.1; have := HS4.out; have := HS3.out; have := HZ3.out; have := HZ4.out; have := HZL.out; omega))
  have HV11 := Aside0.mk (HV10.out.kept hK11 (fun k hk h => by have h1 := h.1; have h2 := hk.2; have := HS4.out; have := HS3.out; have := HZ4.out; have := HZL.out; omega) (fun h => by have h1 := h.1; have := HS4.out; have := HS3.out; have := HZ4.out; have := HZL.out; omega))
  clear hB11 hK11 hG11 HB10 HA10 HV10 HG10 b0 b1 b2 b3
  obtain ⟨b0, b1, b2, b3⟩ := HG11.out.cells
  go_wp2_with fail
  refine (heldDisk_at kh w _ _ _ _ _ _ _ _ _ _ _ R0 R1 r2 R3 1 m HG11.out.2.2 HH.out).mono ?_
  rintro e w12 ⟨rfl, hb12⟩
  have HB12 := Aside0.mk (below_step HB11.out hb12)
  have HA12 := Aside0.mk (blk_below HA11.out hb12)
  have HV12 := Aside0.mk (HV11.out.below hb12)
  have HG12 := Aside0.mk (HG11.out.below hb12)
  clear hb12 HB11 HA11 HV11 HG11 b0 b1 b2 b3
  obtain ⟨b0, b1, b2, b3, _, _, _, _⟩ := cells4 HA12.out
  go_wp2_with fail
  refine (laws_toDisk.calls kt _ _ _ _ _ _ _ _ _ _ _ _ _ _ _ (Kd.C_below HR0.out HB12.out) hc0 (Kd.C_below HR1.out HB12.out) hc1 (Kd.C_below HR3.out HB12.out) hc3 HTO.out).mono ?_
  rintro e w13 ⟨u0, u1, u3, rfl, hu0, hu1, hu3, hb13⟩
  obtain ⟨X0h, y0h, rfl, _, _⟩ := Kd.R_reads hu0
  obtain ⟨X1h, y1h, rfl, _, _⟩ := Kd.R_reads hu1
  obtain ⟨X3h, y3h, rfl, _, _⟩ := Kd.R_reads hu3
  have HB13 := Aside0.mk (below_step HB12.out hb13)
  have HA13 := Aside0.mk (blk_below HA12.out hb13)
  have HV13 := Aside0.mk (HV12.out.below hb13)
  have HG13 := Aside0.mk (HG12.out.below hb13)
  have HU := Aside0.mk (show RowsP w12 w13 (fun _ => True) X0h s.length y0h X1h x.length y1h X3h q.length y3h s x q from ⟨hu0, hu1, hu3⟩)
  clear hu0 hu1 hu3 hb13 HB12 HA12 HV12 HG12 b0 b1 b2 b3
  go_wp2_with fail
  refine (laws_toIntS.calls kl _ _ _ _ _ (Kd.C_below HR4.out HB13.out) hc4 HTL.out).mono ?_
  rintro e w13l ⟨u4, rfl, hu4, hb13l⟩
  obtain ⟨X4t, y4t, rfl, _, _⟩ := Kd.R_reads hu4
  have HL := Aside0.mk (Kd.R_reads' hu4)
  replace HB13 := Aside0.mk (below_step HB13.out hb13l)
  replace HA13 := Aside0.mk (blk_below HA13.out hb13l)
  replace HV13 := Aside0.mk ((HV13.out).below hb13l)
  replace HG13 := Aside0.mk ((HG13.out).below hb13l)
  replace HU := Aside0.mk (HU.out.below hb13l)
  clear hu4 hb13l
  go_wp2_with fail
  refine (impl_DiskCrash.calls _ _ _ _ _ _ _ _ _ _ _ _ _ _ _ _ _ _ _ (Kd.R_reads' HU.out.1).2.2 (Kd.R_reads' HU.out.1).2.1 (Kd.R_reads' HU.out.2.1).2.2 (Kd.R_reads' HU.out.2.1).2.1 (Kd.R_reads' HU.out.2.2).2.2 (Kd.R_reads' HU.out.2.2).2.1 HL.out.2.2 HL.out.2.1 HIM.out).mono ?_
  rintro e w14 ⟨u0, u1, u3, rfl, hu0, hu1, hu3, hb14⟩
  obtain ⟨I0, o0, rfl, _, _⟩ := Kd.R_reads hu0
  obtain ⟨I1, o1, rfl, _, _⟩ := Kd.R_reads hu1
  obtain ⟨I3, o3, rfl, _, _⟩ := Kd.R_reads hu3
  have HI := Aside0.mk (DiskP.new HB13.out hb14 hu0 hu1 hu3 r2)
  have HB14 := Aside0.mk (below_alloc (below_step HB13.out hb14) (.cells #[.slice I0 r0.length o0, .slice I1 r1.length o1, .bool r2, .slice I3 r3.length o3] 26 (0, 0)))
  have HV14 := Aside0.mk ((HV13.out.below hb14).below (below_alloc (Below.refl _ _) (.cells #[.slice I0 r0.length o0, .slice I1 r1.length o1, .bool r2, .slice I3 r3.length o3] 26 (0, 0))))
  have HG14 := Aside0.mk ((HG13.out.below hb14).below (below_alloc (Below.refl _ _) (.cells #[.slice I0 r0.length o0, .slice I1 r1.length o1, .bool r2, .slice I3 r3.length o3] 26 (0, 0))))
  clear hu0 hu1 hu3 hb14 HU HB13 HA13 HV13 HG13
  obtain ⟨b0, b1, b2, b3⟩ := HI.out.cells
  obtain ⟨d0, d1, d2, d3⟩ := HV14.out.cells
  go_wp2_with fail
  refine (eqDisk_at ke w _ _ _ 0 0 _ _ _ _ _ _ _ _ _ _ _ _ _ _ _ r0 r1 r2 r3 HI.out.2.2 HV14.out.2.2 HER.out).mono ?_
  rintro e w15 ⟨rfl, hb15⟩
  have HB15 := Aside0.mk (below_step HB14.out hb15)
  have HG15 := Aside0.mk (HG14.out.below hb15)
  clear hb15 HB14 HV14 HG14 HI b0 b1 b2 b3 d0 d1 d2 d3
  obtain ⟨b0, b1, b2, b3⟩ := HG15.out.cells
  go_wp2_with fail
  refine (heldDisk_at kh w _ _ _ _ _ _ _ _ _ _ _ R0 R1 r2 R3 1 m HG15.out.2.2 HH.out).mono ?_
  rintro e w16 ⟨rfl, hb16⟩
  have HB16 := Aside0.mk (below_step HB15.out hb16)
  clear hb16
  go_wp2_with fail
  go_ret
  exact ⟨rfl, HB16.out⟩
set_option maxHeartbeats 2000000 in
set_option maxRecDepth 100000 in
theorem small_DiskCrash_l (A0 : Option Addr) (c0 : Nat) (s : List ByteArray) (A1 : Option Addr) (c1 : Nat) (c : List S131) (a : Bool) (A3 : Option Addr) (c3 : Nat) (q : List Int) (A4 : Option Addr) (c4 : Nat) (l : List Int) (w : World) (hx : (l.length : Int) > 1048576) :
    Calls Try.prog 8 #[.agg #[.slice A0 s.length c0, .slice A1 c.length c1, .bool a, .slice A3 q.length c3], .slice A4 l.length c4] w fun e w' => e = .returned (.bool true) ∧ Below w.heap.size w w' := by
  have tx : decide (1048576 < (l.length : Int)) = true := decide_eq_true hx
  have HB0 := Aside0.mk ((Below.refl w.heap.size w).alloc (Nat.le_refl _) (.cells #[.slice A0 s.length c0, .slice A1 c.length c1, .bool a, .slice A3 q.length c3] 34 (0, 0)))
  go_enter Try.func8, Try.ntmps8
  go_wp2_with fail
  go_ret
  exact ⟨rfl, HB0.out⟩
set_option maxHeartbeats 2000000 in
set_option maxRecDepth 100000 in
theorem small_DiskCrash (kz : Nat) (A0 : Option Addr) (c0 : Nat) (s : List ByteArray) (A1 : Option Addr) (c1 : Nat) (c : List S131) (a : Bool) (A3 : Option Addr) (c3 : Nat) (q : List Int) (A4 : Option Addr) (c4 : Nat) (l : List Int) (z : Int) (w : World) (hr0 : Kd.C Kd.string w A0 s.length s) (hc0 : s.length ≤ c0) (hr1 : Kd.C k131 w A1 c.length c) (hc1 : c.length ≤ c1) (hr3 : Kd.C (Kd.int .i64) w A3 q.length q) (hc3 : q.length ≤ c3) (hr4 : Kd.C (Kd.int .i64) w A4 l.length l) (hc4 : l.length ≤ c4) (hx_l : ¬ (l.length : Int) > 1048576) (hz : laws_szDisk.f kz s c a q 1048576 = some z) (hz0 : z < 0) :
    Calls Try.prog 8 #[.agg #[.slice A0 s.length c0, .slice A1 c.length c1, .bool a, .slice A3 q.length c3], .slice A4 l.length c4] w fun e w' => e = .returned (.bool true) ∧ Below w.heap.size w w' := by
  have hu2 := Try.underlying34
  have HR0 := Aside0.mk hr0
  have HR1 := Aside0.mk hr1
  have HR3 := Aside0.mk hr3
  have HZ := Aside0.mk hz
  have HB0 := Aside0.mk ((Below.refl w.heap.size w).alloc (Nat.le_refl _) (.cells #[.slice A0 s.length c0, .slice A1 c.length c1, .bool a, .slice A3 q.length c3] 34 (0, 0)))
  have t1 : decide (z < 0) = true := decide_eq_true hz0
  have tx_l : decide (1048576 < (l.length : Int)) = false := decide_eq_false hx_l
  clear hr0 hr1 hr3 hz
  go_enter Try.func8, Try.ntmps8
  go_wp2_with fail
  refine (laws_szDisk.calls kz _ _ _ _ _ _ _ _ _ _ _ _ _ (Kd.C_below HR0.out HB0.out) hc0 (Kd.C_below HR1.out HB0.out) hc1 (Kd.C_below HR3.out HB0.out) hc3 HZ.out).mono ?_
  rintro e w1 ⟨rfl, hb1⟩
  have HB1 := Aside0.mk (below_step HB0.out hb1)
  clear hb1
  go_wp2_with fail
  go_ret
  exact ⟨rfl, HB1.out⟩
open Classical in
noncomputable def laws_FnExactDiskCrash.f (l0_0 : List ByteArray) (l0_1 : List S131) (a0_2 : Bool) (l0_3 : List Int) (l : List Int) : Option Bool := if wl34 ⟨l0_0, l0_1, a0_2, l0_3⟩ then some true else none
theorem laws_FnExactDiskCrash.calls (A0_0 : Option Addr) (c0_0 : Nat) (l0_0 : List ByteArray) (A0_1 : Option Addr) (c0_1 : Nat) (l0_1 : List (S131)) (a0_2 : Bool) (A0_3 : Option Addr) (c0_3 : Nat) (l0_3 : List Int) (A4 : Option Addr) (c4 : Nat) (l : List Int) (r : Bool) (w : World) (hr0_0 : Kd.C Kd.string w A0_0 l0_0.length l0_0) (hc0_0 : l0_0.length ≤ c0_0) (hr0_1 : Kd.C k131 w A0_1 l0_1.length l0_1) (hc0_1 : l0_1.length ≤ c0_1) (hr0_3 : Kd.C (Kd.int .i64) w A0_3 l0_3.length l0_3) (hc0_3 : l0_3.length ≤ c0_3) (hr4 : Kd.C (Kd.int .i64) w A4 l.length l) (hc4 : l.length ≤ c4) (h : laws_FnExactDiskCrash.f l0_0 l0_1 a0_2 l0_3 l = some r) :
    Calls Try.prog 8 #[.agg #[.slice A0_0 l0_0.length c0_0, .slice A0_1 l0_1.length c0_1, .bool a0_2, .slice A0_3 l0_3.length c0_3], .slice A4 l.length c4] w fun e w' => e = .returned (.bool r) ∧ Below w.heap.size w w' := by
  unfold laws_FnExactDiskCrash.f at h
  by_cases hw : wl34 ⟨l0_0, l0_1, a0_2, l0_3⟩
  · rw [if_pos hw] at h
    obtain rfl := Option.some.inj h
    clear h
    by_cases hx_l : (l.length : Int) > 1048576
    · exact small_DiskCrash_l A0_0 c0_0 l0_0 A0_1 c0_1 l0_1 a0_2 A0_3 c0_3 l0_3 A4 c4 l w hx_l
    obtain ⟨z, hz, hq⟩ := sz_Disk ⟨l0_0, l0_1, a0_2, l0_3⟩ hw 1048576 1048576 (by omega) (by omega) (by omega)
    obtain ⟨kz, hkz⟩ := hz
    have hkz := hkz kz (Nat.le_refl _)
    by_cases hz0 : z < 0
    · exact small_DiskCrash kz A0_0 c0_0 l0_0 A0_1 c0_1 l0_1 a0_2 A0_3 c0_3 l0_3 A4 c4 l z w hr0_0 hc0_0 hr0_1 hc0_1 hr0_3 hc0_3 hr4 hc4 hx_l hkz hz0
    have hs := (hq (by omega)).2
    obtain ⟨kt, hkt⟩ := to_Disk ⟨l0_0, l0_1, a0_2, l0_3⟩ hs
    have hkt := hkt kt (Nat.le_refl _)
    have n1 : (l0_1.map cv131).length ≤ 1048576 := by rw [List.length_map]; have := hs.2.1.1; simp only at this; omega
    have n0 : l0_0.length ≤ 1048576 := by have := hs.1.1; simp only at this; omega
    have n3 : l0_3.length ≤ 1048576 := by have := hs.2.2.2; simp only at this; omega
    obtain ⟨kA, hkA⟩ := eq_Disk ⟨l0_0, l0_1.map cv131, a0_2, l0_3⟩ ⟨by simp only; omega, ⟨by simp only; omega, fun y _ => ⟨trivial, trivial⟩⟩, trivial, by simp only; omega⟩
    have hkA := hkA kA (Nat.le_refl _)
    obtain ⟨kM, hkM⟩ := mark_Disk ⟨l0_0, l0_1.map cv131, a0_2, l0_3⟩ 1 (by omega) (by simp only; omega) (by simp only; omega) (by simp only; omega) (by simp only; omega)
    have hkM := hkM kM (Nat.le_refl _)
    have hn := crashR_len l0_0 (l0_1.map cv131) a0_2 l0_3 l
    obtain ⟨ks, hks⟩ := spec_crash l0_0 (l0_1.map cv131) a0_2 l0_3 l
    have hks := hks ks (Nat.le_refl _)
    obtain ⟨ki, hki⟩ := impl_crash l0_0 (l0_1.map cv131) a0_2 l0_3 l
    have hki := hki ki (Nat.le_refl _)
    simp only at hkt hkA hkM
    generalize l0_1.map cv131 = x at *
    generalize crashR l0_0 x a0_2 l0_3 l = R at *
    obtain ⟨r0, r1, r2, r3, code⟩ := R
    simp only at hn
    obtain ⟨ke, hke⟩ := eq_Disk ⟨r0, r1, r2, r3⟩ ⟨by simp only; omega, ⟨by simp only; omega, fun y _ => ⟨trivial, trivial⟩⟩, trivial, by simp only; omega⟩
    have hke := hke ke (Nat.le_refl _)
    obtain ⟨kR, hkR⟩ := mark_Disk ⟨r0, r1, r2, r3⟩ 1 (by omega) (by simp only; omega) (by simp only; omega) (by simp only; omega) (by simp only; omega)
    have hkR := hkR kR (Nat.le_refl _)
    obtain ⟨kh, hkh⟩ := held_Disk ⟨r0, r1, r2, r3⟩ 1 (by omega) (by simp only; omega) (by simp only; omega) (by simp only; omega) (by simp only; omega)
    have hkh := hkh kh (Nat.le_refl _)
    simp only at hke hkR hkh
    obtain ⟨kl, hkl⟩ := to_IntS l (by omega)
    have hkl := hkl kl (Nat.le_refl _)
    obtain ⟨kel, hkel⟩ := eq_IntS l (by omega)
    have hkel := hkel kel (Nat.le_refl _)
    obtain ⟨kml, hkml⟩ := mark_IntS l (1 + 1 * (l0_0.length : Int) + 2 * (x.length : Int) + 1 * (l0_3.length : Int)) (by omega) (by omega) (by omega)
    have hkml := hkml kml (Nat.le_refl _)
    exact walk_DiskCrash kl kel kml kz kt ks ki ke kA kM kR kh A0_0 c0_0 l0_0 A0_1 c0_1 l0_1 a0_2 A0_3 c0_3 l0_3 A4 c4 l x r0 r1 r2 r3 code _ _ _ _ _ _ _ _ _ _ z w hr0_0 hc0_0 hr0_1 hc0_1 hr0_3 hc0_3 hr4 hc4 hx_l hkl hkel hkml hkz hz0 hkt hks hki hke hkA hkM (by omega) hkR hkh (by omega)
  · rw [if_neg hw] at h
    cases h
end Go.Proofs.Ytcpcifgpcemaeaa.X
namespace Go.Proofs.Ytcpcifgpcemaeaa.X
open Go.RowKit Go.Proofs.YtcpcifgpcemaeaaW.PrintWords Go.Proofs.YtcpcifgpcemaeaaW.PrintLast Go.Proofs.YtcpcifgpcemaeaaW.PrintMore
attribute [local go_sem] xbin_geq xbin_leq xbin_gtr max2_int min2_int max_two min_two max_three min_three max_four min_four
set_option linter.unusedVariables false
set_option linter.unusedSimpArgs false
theorem opens9 : Opens Try.prog 9 Kd.string (fun x => x.size ≤ maxLen) := Opens.string_ Try.underlying9 (by kernel_rfl)
def wfL9 (xs : List ByteArray) : Prop := xs.length ≤ maxLen ∧ ∀ x ∈ xs, x.size ≤ maxLen
theorem opens22 : Opens Try.prog 22 (Kd.slice 9 Kd.string) wfL9 := Opens.slice_ Try.underlying22 (by kernel_rfl) opens9
theorem opens3 : Opens Try.prog 3 (Kd.int .i64) (fun x => (Lit.int .i64 x).wf = true) := Opens.int_ Try.underlying3 (by kernel_rfl)
def wf131 (x : S131) : Prop := (Lit.int .i64 x.f0).wf = true ∧ x.f1.size ≤ maxLen
set_option maxRecDepth 100000 in
theorem opens131 : Opens Try.prog 131 k131 wf131 := by
  refine ⟨by kernel_rfl, fun {H enc w base spare held fuel cs x} h => ?_⟩
  obtain ⟨xs, n, _, _, hl, hlen, hf⟩ := DataW.trod_struct Try.underlying131 h
  have hl' : cs.length = 2 := hl.trans (by kernel_rfl)
  match cs, hl', xs, hlen with
  | [c0, c1], _, [y0, y1], _ =>
    obtain ⟨v0, g0, w0⟩ := opens3.2 (by simpa [show Try.prog.cellsOf 3 = 1 from by kernel_rfl] using hf 0 _ rfl)
    obtain ⟨v1, g1, w1⟩ := opens9.2 (by simpa [show Try.prog.cellsOf 9 = 1 from by kernel_rfl] using hf 1 _ rfl)
    exact ⟨(⟨v0, v1⟩ : S131), ⟨[c0], [c1], rfl, g0, g1⟩, ⟨w0, w1⟩⟩
def wfL131 (xs : List (S131)) : Prop := xs.length ≤ maxLen ∧ ∀ x ∈ xs, wf131 x
theorem opens32 : Opens Try.prog 32 (Kd.slice 131 k131) wfL131 := Opens.slice_ Try.underlying32 (by kernel_rfl) opens131
theorem opens4 : Opens Try.prog 4 Kd.bool (fun _ => True) := Opens.bool_ Try.underlying4 (by kernel_rfl)
def wfL3 (xs : List Int) : Prop := xs.length ≤ maxLen ∧ ∀ x ∈ xs, (Lit.int .i64 x).wf = true
theorem opens24 : Opens Try.prog 24 (Kd.slice 3 (Kd.int .i64)) wfL3 := Opens.slice_ Try.underlying24 (by kernel_rfl) opens3
def wf34 (x : S34) : Prop := wfL9 x.f0 ∧ wfL131 x.f1 ∧ True ∧ wfL3 x.f3
set_option maxRecDepth 100000 in
theorem opens34 : Opens Try.prog 34 k34 wf34 := by
  refine ⟨by kernel_rfl, fun {H enc w base spare held fuel cs x} h => ?_⟩
  obtain ⟨xs, n, _, _, hl, hlen, hf⟩ := DataW.trod_struct Try.underlying34 h
  have hl' : cs.length = 4 := hl.trans (by kernel_rfl)
  match cs, hl', xs, hlen with
  | [c0, c1, c2, c3], _, [y0, y1, y2, y3], _ =>
    obtain ⟨v0, g0, w0⟩ := opens22.2 (by simpa [show Try.prog.cellsOf 22 = 1 from by kernel_rfl] using hf 0 _ rfl)
    obtain ⟨v1, g1, w1⟩ := opens32.2 (by simpa [show Try.prog.cellsOf 32 = 1 from by kernel_rfl] using hf 1 _ rfl)
    obtain ⟨v2, g2, w2⟩ := opens4.2 (by simpa [show Try.prog.cellsOf 4 = 1 from by kernel_rfl] using hf 2 _ rfl)
    obtain ⟨v3, g3, w3⟩ := opens24.2 (by simpa [show Try.prog.cellsOf 24 = 1 from by kernel_rfl] using hf 3 _ rfl)
    exact ⟨(⟨v0, v1, v2, v3⟩ : S34), ⟨[c0], [c1, c2, c3], rfl, g0, ⟨[c1], [c2, c3], rfl, g1, ⟨[c2], [c3], rfl, g2, g3⟩⟩⟩, ⟨w0, w1, w2, w3⟩⟩
def laws_FnExactDiskCrash.Pure : Prop := ∀ (l0_0 : List ByteArray) (l0_1 : List (S131)) (a0_2 : Bool) (l0_3 : List Int) (l1 : List Int), (wfL9 l0_0) → (wfL131 l0_1) → (True) → (wfL3 l0_3) → (wfL3 l1) → laws_FnExactDiskCrash.f l0_0 l0_1 a0_2 l0_3 l1 = some true
end Go.Proofs.Ytcpcifgpcemaeaa.X
set_option linter.unusedSimpArgs false
set_option linter.unusedVariables false
namespace Go.Proofs.Ytcpcifgpcemaeaa.X.Pure
open Go.RowKit Go.Proofs.Ytcpcifgpcemaeaa.X Go.Proofs.YtcpcifgpcemaeaaW.PrintWords Go.Proofs.YtcpcifgpcemaeaaW.PrintLast
theorem FnExactDiskCrash : laws_FnExactDiskCrash.Pure := by
  intro s c a q l hs0 hc0 _ hq0 _
  unfold laws_FnExactDiskCrash.f
  rw [if_pos ⟨hs0, ⟨hc0.1, fun y hy => ⟨trivial, (hc0.2 y hy).2⟩⟩, trivial, hq0.1⟩]
end Go.Proofs.Ytcpcifgpcemaeaa.X.Pure
namespace Go.Proofs.Ytcpcifgpcemaeaa.fnExactDiskCrash
open Go.ChangeShapes Go.WideShapes Go.ChangeAt Go.RowKit Go.Proofs.Ytcpcifgpcemaeaa.X Go.Proofs.YtcpcifgpcemaeaaW.PrintWords
open Go.ChangeMaps (open_string shut_string)
set_option linter.unusedVariables false
theorem own : ownKnob Try.prog.godebug = none := by kernel_rfl
theorem laidOut : laidOutB Try.prog = true := by kernel_rfl
set_option maxRecDepth 100000 in
theorem lifted (os : Os) (started : os.Started) (H : Type) (enc : TypeId × Value → H) :
    ReturnsInHanded {} Try.checked os 8 .any (Rows.fnExactDiskCrashSpec.pre6 enc Try.prog Try.f8 Rows.fnExactDiskCrashRow.domain false) (Rows.fnExactDiskCrashSpec.post enc Try.prog Try.f8 false true false false) := by
  refine returnsInHanded_of_change_sized (C := Try.checked) own started (by kernel_rfl) Try.func8
    (ChangeSpec.witness6 (enc := enc) (C := Try.checked) false ⟨#[], #[.agg #[.slice none 0 0, .slice none 0 0, .bool false, .slice none 0 0], .slice none 0 0], []⟩ 8 (by kernel_rfl) (by kernel_rfl) (by kernel_rfl) (by kernel_rfl)) ?_
  intro W base args ds gs before hval0 hW hcnd hsz0 _
  have hsz : (DataW.weightsEach Try.prog (Try.f8.params.toList ++ Rows.fnExactDiskCrashSpec.plain.varTypes Try.prog) (ds ++ gs)).all (· ≤ reachBytes) = true := hsz0
  have hval : ∀ (j : Nat) t v, Try.f8.params[j]? = some t → args[j]? = some v → Value.okWide Try.prog W .any base t v := hval0
  have hW' := hW
  obtain ⟨p, q, hA0, hV, rfl, hfz, hnd⟩ := hW
  have hA : DataW.TrodAll enc Try.prog W 0 (fun _ => true) true Try.f8.params.toList args.toList ds p := hA0
  rw [Try.params8] at hA hval hsz
  obtain ⟨v0, vs0, d0, ds0, p0, q0, hargs, rfl, rfl, h0, r0⟩ := trodAll_cons hA
  obtain ⟨v1, vs1, d1, ds1, p1, q1, rfl, rfl, rfl, h1, r1⟩ := trodAll_cons r0
  obtain ⟨rfl, rfl, rfl⟩ := trodAll_nil r1
  obtain rfl : args = #[v0, v1] := by cases args; simp_all
  obtain ⟨rfl, rfl⟩ := trodVars_none hV
  have k0 := h0
  have lt0 : ∀ x ∈ p0, x.block < W.heap.size := by obtain ⟨m, hm⟩ := k0; exact DataW.trod_lt m _ _ _ hm
  obtain ⟨x0, cs0, rfl, hK0, hw0⟩ := Opens.agg_arg opens34 Try.underlying34 (hval 0 34 v0 rfl rfl) h0
  obtain ⟨A0_0, c0_0, A0_1, c0_1, A0_3, c0_3, rfl, hc0_0, hr0_0, hc0_1, hr0_1, hc0_3, hr0_3⟩ := k34_open hK0
  obtain ⟨l0_0, l0_1, a0_2, l0_3⟩ := x0
  have k1 := h1
  have lt1 : ∀ x ∈ p1, x.block < W.heap.size := by obtain ⟨m, hm⟩ := k1; exact DataW.trod_lt m _ _ _ hm
  obtain ⟨A1, len1, c1, rfl⟩ := okWide_slice Try.underlying24 (hval 1 24 v1 rfl rfl)
  obtain ⟨l1, rfl, hc1, hr1, hw1⟩ := Opens.slice_arg opens24 h1
  clear hA0 hval0 hsz0 hsz
  have hP := X.Pure.FnExactDiskCrash l0_0 l0_1 a0_2 l0_3 l1 hw0.1 hw0.2.1 hw0.2.2.1 hw0.2.2.2 hw1
  refine (laws_FnExactDiskCrash.calls A0_0 c0_0 l0_0 A0_1 c0_1 l0_1 a0_2 A0_3 c0_3 l0_3 A1 c1 l1 true W hr0_0 hc0_0 hr0_1 hc0_1 hr0_3 hc0_3 hr1 hc1 hP).mono fun e W' hQ => ?_
  obtain ⟨he, bel0⟩ := hQ
  subst he
  have bel : Below W.heap.size W W' := bel0
  exact ⟨_, rfl, _, _, _, [], _, [], hW', trodAll_mk1 (shut_bool Try.underlying4 _), (trodAll_cons_mk (Below.trod laidOut (by kernel_rfl) (of_decide_eq_true (by kernel_rfl)) k0 bel lt0) (trodAll_cons_mk (Below.trod laidOut (by kernel_rfl) (of_decide_eq_true (by kernel_rfl)) k1 bel lt1) trodAll_mk0)), rfl, bel.frame _, fun h => by cases h⟩
theorem over : Rows.fnExactDiskCrashRow.holds Try.pinned (OpenSpec.ofChange Rows.fnExactDiskCrashSpec) :=
  OpenClaim.holds_of_wide 8 Try.f8 rfl rfl rfl rfl rfl rfl rfl ⟨rfl, rfl, rfl, rfl, rfl⟩ rfl rfl rfl rfl rfl (by kernel_rfl) Try.func8 (by kernel_rfl)
    (of_decide_eq_true (by kernel_rfl)) (by unfold Func.isWrapper; first | (rw [if_pos (by decide +kernel)]; kernel_rfl) | (rw [if_neg (by decide +kernel)]; exact ⟨rfl, rfl⟩))
    (fun os started H enc _ => lifted os started H enc)
theorem proved : Rows.FnExactDiskCrashSaid := over
end Go.Proofs.Ytcpcifgpcemaeaa.fnExactDiskCrash
namespace Go.Proofs.Ytcpcifgpcemaeaa
theorem fnExactDiskCrash_holds : Rows.FnExactDiskCrashSaid := fnExactDiskCrash.proved
end Go.Proofs.Ytcpcifgpcemaeaa
