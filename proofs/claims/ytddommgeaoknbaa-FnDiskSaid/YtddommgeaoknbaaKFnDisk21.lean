import Derived.Test.YtddommgeaoknbaaKFnDisk3
import Derived.Test.YtddommgeaoknbaaKFnDisk5
import Derived.Test.YtddommgeaoknbaaKFnDisk6
import Derived.Test.YtddommgeaoknbaaKFnDisk7
import Derived.Test.YtddommgeaoknbaaKFnDisk15
import Derived.Test.YtddommgeaoknbaaKFnDisk17
import Derived.Test.YtddommgeaoknbaaKFnDisk18
import Derived.Test.YtddommgeaoknbaaKFnDisk19
import Derived.Test.YtddommgeaoknbaaKFnDisk20
import Derived.LoopTactic
import Derived.WalkSpells
import Derived.Deep.RegionLaw
import Derived.Deep.RegionHeld3
namespace Go.Proofs.Ytddommgeaoknbaa.X
open Go.RowKit Go.Proofs.YtddommgeaoknbaaW.PrintWords Go.Proofs.YtddommgeaoknbaaW.PrintLast Go.Proofs.YtddommgeaoknbaaW.PrintMore
attribute [local go_sem] xbin_geq xbin_leq xbin_gtr max2_int min2_int max_two min_two max_three min_three max_four min_four
set_option linter.unusedVariables false
set_option linter.unusedSimpArgs false
def DRd (w : World) (A0 : Option Addr) (c0 : Nat) (s : List ByteArray) (A1 : Option Addr) (c1 : Nat) (c : List S54) (A3 : Option Addr) (c3 : Nat) (q : List Int) : Prop := (Kd.C Kd.string w A0 s.length s ∧ s.length ≤ c0) ∧ (Kd.C k54 w A1 c.length c ∧ c.length ≤ c1) ∧ (Kd.C (Kd.int .i64) w A3 q.length q ∧ q.length ≤ c3)
def BD (w : World) (g : Nat) (A0 : Option Addr) (c0 : Nat) (s : List ByteArray) (A1 : Option Addr) (c1 : Nat) (c : List S54) (a : Bool) (A3 : Option Addr) (c3 : Nat) (q : List Int) : Prop := w.heap[g]? = some (.cells #[.slice A0 s.length c0, .slice A1 c.length c1, .bool a, .slice A3 q.length c3] 27 (0, 0)) ∧ DRd w A0 c0 s A1 c1 c A3 c3 q
section
variable {w w1 : World} {g : Nat} {A0 A1 A3 : Option Addr} {c0 c1 c3 : Nat} {s : List ByteArray} {c : List S54} {a : Bool} {q : List Int}
theorem DRd.below (h : DRd w A0 c0 s A1 c1 c A3 c3 q) (hb : Below w.heap.size w w1) : DRd w1 A0 c0 s A1 c1 c A3 c3 q := ⟨⟨Kd.C_below h.1.1 hb, h.1.2⟩, ⟨Kd.C_below h.2.1.1 hb, h.2.1.2⟩, ⟨Kd.C_below h.2.2.1 hb, h.2.2.2⟩⟩
theorem BD.below (h : BD w g A0 c0 s A1 c1 c a A3 c3 q) (hb : Below w.heap.size w w1) : BD w1 g A0 c0 s A1 c1 c a A3 c3 q := ⟨blk_below h.1 hb, h.2.below hb⟩
theorem cells4d {x0 x1 x2 x3 : Value} {t : TypeId} (h : w.heap[g]? = some (.cells #[x0, x1, x2, x3] t (0, 0))) : w.cell? ⟨g, 0, none⟩ = some x0 ∧ w.cell? ⟨g, 1, none⟩ = some x1 ∧ w.cell? ⟨g, 2, none⟩ = some x2 ∧ w.cell? ⟨g, 3, none⟩ = some x3 := ⟨blk_cell h 0, blk_cell h 1, blk_cell h 2, blk_cell h 3⟩
theorem BD.cells (h : BD w g A0 c0 s A1 c1 c a A3 c3 q) : w.cell? ⟨g, 0, none⟩ = some (.slice A0 s.length c0) ∧ w.cell? ⟨g, 1, none⟩ = some (.slice A1 c.length c1) ∧ w.cell? ⟨g, 2, none⟩ = some (.bool a) ∧ w.cell? ⟨g, 3, none⟩ = some (.slice A3 q.length c3) := cells4d h.1
theorem other_blockD {α β : Type} {d : Kd α} {d' : Kd β} {e e' base : Nat} {ok ok' : Nat → Prop} {v v' : Value} {xs : List α} {ys : List β} (h : d.R e w base ok v xs) (h' : d'.R e' w base ok' v' ys) (hne : e ≠ e') : ∀ k, some k = v.ownBlock → ¬ some k = v'.ownBlock := fun k h1 h2 => by
  obtain ⟨z1, e1⟩ := Kd.R_typed h k h1.symm
  obtain ⟨z2, e2⟩ := Kd.R_typed h' k h2.symm
  rw [e1] at e2
  injection e2 with e2
  injection e2 with _ e3 _
  exact hne e3
end
def fnDisk.T9 : Bool × List (List Nat × List Nat) := (true, [([], []), ([], []), ([1], [1]), ([0, 2, 2], [0, 2]), ([3], [3]), ([4], [4]), ([4], [4]), ([], []), ([7, 5, 3, 0, 1, 2, 3, 4, 5, 7], [5, 7]), ([6, 8, 0, 1, 2, 3, 4, 5, 6, 7, 8], [6])])
def fnDisk.B9 : List Nat := [0, 0, 2, 7, 15, 31, 31, 0, 191, 511]
theorem fnDisk.tab9 : rtab .any (opsOf Try.f3 9) = fnDisk.T9 := by kernel_rfl
theorem fnDisk.bits9 : waitsOk fnDisk.T9.2 fnDisk.B9 = true := by kernel_rfl
def fnDisk.T10 : Bool × List (List Nat × List Nat) := (true, [([], []), ([], []), ([1], [1]), ([0, 2, 2], [0, 2]), ([3], [3]), ([4], [4]), ([4], [4]), ([], []), ([7, 5, 3, 0, 1, 2, 3, 4, 5, 7], [5, 7]), ([6, 8, 0, 1, 2, 3, 4, 5, 6, 7, 8], [6])])
def fnDisk.B10 : List Nat := [0, 0, 2, 7, 15, 31, 31, 0, 191, 511]
theorem fnDisk.tab10 : rtab .any (opsOf Try.f3 10) = fnDisk.T10 := by kernel_rfl
theorem fnDisk.bits10 : waitsOk fnDisk.T10.2 fnDisk.B10 = true := by kernel_rfl
def fnDisk.T11 : Bool × List (List Nat × List Nat) := (true, [([], []), ([], []), ([1], [1]), ([0, 2, 2], [0, 2]), ([3], [3]), ([4], [4]), ([4], [4]), ([], []), ([7, 5, 3, 0, 1, 2, 3, 4, 5, 7], [5, 7]), ([6, 8, 0, 1, 2, 3, 4, 5, 6, 7, 8], [6])])
def fnDisk.B11 : List Nat := [0, 0, 2, 7, 15, 31, 31, 0, 191, 511]
theorem fnDisk.tab11 : rtab .any (opsOf Try.f3 11) = fnDisk.T11 := by kernel_rfl
theorem fnDisk.bits11 : waitsOk fnDisk.T11.2 fnDisk.B11 = true := by kernel_rfl
set_option maxHeartbeats 16000000 in
set_option maxRecDepth 100000 in
theorem long0_FnDisk (A0 : Option Addr) (c0 : Nat) (code : List Int) (A1 : Option Addr) (c1 : Nat) (more : List Int) (w : World) (hr0 : Kd.C (Kd.int .u8) w A0 code.length code) (hc0 : code.length ≤ c0) (hr1 : Kd.C (Kd.int .u8) w A1 more.length more) (hc1 : more.length ≤ c1) (hk : 1048576 < code.length) :
    Calls Try.prog 3 #[.slice A0 code.length c0, .slice A1 more.length c1] w fun e w' => e = .returned (.bool true) ∧ Below w.heap.size w w' := by
  have t0 : decide (1048576 < (code.length : Int)) = true := decide_eq_true (by omega)
  go_enter Try.func3, Try.ntmps3
  go_wp2_with fail
  go_ret
  exact ⟨rfl, Below.refl _ _⟩
set_option maxHeartbeats 16000000 in
set_option maxRecDepth 100000 in
theorem long1_FnDisk (A0 : Option Addr) (c0 : Nat) (code : List Int) (A1 : Option Addr) (c1 : Nat) (more : List Int) (w : World) (hr0 : Kd.C (Kd.int .u8) w A0 code.length code) (hc0 : code.length ≤ c0) (hr1 : Kd.C (Kd.int .u8) w A1 more.length more) (hc1 : more.length ≤ c1) (hk0 : ¬ 1048576 < code.length) (hk : 1048576 < more.length) :
    Calls Try.prog 3 #[.slice A0 code.length c0, .slice A1 more.length c1] w fun e w' => e = .returned (.bool true) ∧ Below w.heap.size w w' := by
  have t0 : decide (1048576 < (code.length : Int)) = false := decide_eq_false (by omega)
  have t1 : decide (1048576 < (more.length : Int)) = true := decide_eq_true (by omega)
  go_enter Try.func3, Try.ntmps3
  go_wp2_with fail
  go_ret
  exact ⟨rfl, Below.refl _ _⟩
set_option maxHeartbeats 16000000 in
set_option maxRecDepth 100000 in
theorem walk_FnDisk (kd kw kk kc kp ke ke2 : Nat) (A0 : Option Addr) (c0 : Nat) (code : List Int) (A1 : Option Addr) (c1 : Nat) (more : List Int) (s : List ByteArray) (c cw : List S54) (am : Bool) (q : List Int) (k : Int) (s1 : List ByteArray) (cs : List S54) (as_ : Bool) (qs : List Int) (al : Bool) (L : List Int) (sx : List ByteArray) (cx : List S54) (ax : Bool) (qx : List Int) (Pn : List Int) (FV FV1 : Int → ByteArray) (w : World) (hr0 : Kd.C (Kd.int .u8) w A0 code.length code) (hc0 : code.length ≤ c0) (hr1 : Kd.C (Kd.int .u8) w A1 more.length more) (hc1 : more.length ≤ c1) (hk0 : ¬ 1048576 < code.length) (hk1 : ¬ 1048576 < more.length) (hal : (al == am) = false) (hpn : ((Pn.length : Int) == 0) = false) (hsl : s.length ≤ 80)
    (HD : spec_DiskOf.f kd code = some (s, c, am, q)) (HA : laws_at.f more 0 (s.length : Int) = some k) (HW : impl_DiskWrite.f s c am q k (⟨#[102, 114, 101, 115, 104]⟩ : ByteArray) = some (s, cw, am, q, 0)) (HT : spec_DiskWrite.f kw s c am q k (⟨#[102, 114, 101, 115, 104]⟩ : ByteArray) = some (s, cw, am, q, 0)) (HR : ∀ j, 0 ≤ j → j < (s.length : Int) → impl_DiskRead.f s cw am q j = some (FV j, 0)) (HV : FV k = (⟨#[102, 114, 101, 115, 104]⟩ : ByteArray) ∧ 0 ≤ k ∧ k < (s.length : Int)) (HY : impl_DiskSync.f s cw am q = some (s1, cs, as_, qs, al, 0)) (HK : spec_KeepsOf.f kk more = some L) (HX : impl_DiskCrash.f s cw am q L = some (sx, cx, ax, qx, 0)) (HU : spec_DiskCrash.f kc s cw am q L = some (sx, cx, ax, qx, 0)) (HVm : impl_DiskArm.f s cw am q L = some (s, cw, true, L, 0)) (HZ : impl_DiskSync.f s cw true L = some (sx, cx, ax, qx, false, 0)) (HP : impl_DiskPending.f kp s cw am q = some (Pn, 0)) (HE1 : laws_sameDisk.f ke s cw am q s cw am q = some true) (HE2 : laws_sameDisk.f ke2 sx cx ax qx sx cx ax qx = some true) (HRs : ∀ j, 0 ≤ j → j < (s.length : Int) → impl_DiskRead.f s1 cs as_ qs j = some (FV1 j, 0)) (HVV : al = true → ∀ j, 0 ≤ j → j < (s.length : Int) → (FV j).toList = (FV1 j).toList) (HO1 : impl_DiskOK.f s cw am q = some true) (HO2 : impl_DiskOK.f s1 cs as_ qs = some true) (HO3 : impl_DiskOK.f sx cx ax qx = some true) :
    Calls Try.prog 3 #[.slice A0 code.length c0, .slice A1 more.length c1] w fun e w' => e = .returned (.bool true) ∧ Below w.heap.size w w' := by
  have hu := Try.underlying27
  have HR0 := Aside0.mk hr0
  have HR1 := Aside0.mk hr1
  have HB0 := Aside0.mk (Below.refl w.heap.size w)
  have AHD := Aside0.mk HD
  have AHA := Aside0.mk HA
  have AHW := Aside0.mk HW
  have AHT := Aside0.mk HT
  have AHR := Aside0.mk HR
  have AHV := Aside0.mk HV
  have AHY := Aside0.mk HY
  have AHK := Aside0.mk HK
  have AHX := Aside0.mk HX
  have AHU := Aside0.mk HU
  have AHVm := Aside0.mk HVm
  have AHZ := Aside0.mk HZ
  have AHP := Aside0.mk HP
  have AHE1 := Aside0.mk HE1
  have AHE2 := Aside0.mk HE2
  have AHRs := Aside0.mk HRs
  have AHVV := Aside0.mk HVV
  have AHO1 := Aside0.mk HO1
  have AHO2 := Aside0.mk HO2
  have AHO3 := Aside0.mk HO3
  have t0 : decide (1048576 < (code.length : Int)) = false := decide_eq_false (by omega)
  have t1 : decide (1048576 < (more.length : Int)) = false := decide_eq_false (by omega)
  clear hr0 hr1 HD HA HW HT HR HV HY HK HX HU HVm HZ HP HE1 HE2 HRs HVV HO1 HO2 HO3
  go_enter Try.func3, Try.ntmps3
  go_wp2_with fail
  refine (spec_DiskOf.calls kd (hr0 := HR0.out) (hc0 := hc0) (h := AHD.out)).mono ?_
  rintro e w1 ⟨v0, v1, v3, rfl, h0, h1, h3, hb1⟩
  have R0_ := Aside0.mk (Kd.R_tight2 rfl h0)
  have R1_ := Aside0.mk (Kd.R_tight2 rfl h1)
  have R3_ := Aside0.mk (Kd.R_tight2 rfl h3)
  obtain ⟨D0, D0c, rfl, _, _⟩ := Kd.R_reads h0
  obtain ⟨D1, D1c, rfl, _, _⟩ := Kd.R_reads h1
  obtain ⟨D3, D3c, rfl, _, _⟩ := Kd.R_reads h3
  have HB1 := Aside0.mk hb1
  clear hb1 h0 h1 h3 HB0
  have KD_ := Aside0.mk (blk_new w1 (.cells #[.slice D0 s.length D0c, .slice D1 c.length D1c, .bool am, .slice D3 q.length D3c] 27 (0, 0)))
  have HB2 := Aside0.mk (below_step HB1.out (below_alloc (Below.refl _ _) (.cells #[.slice D0 s.length D0c, .slice D1 c.length D1c, .bool am, .slice D3 q.length D3c] 27 (0, 0))))
  have R0_2 := Aside0.mk (Kd.R_below R0_.out (below_alloc (Below.refl _ _) (.cells #[.slice D0 s.length D0c, .slice D1 c.length D1c, .bool am, .slice D3 q.length D3c] 27 (0, 0))))
  have R1_2 := Aside0.mk (Kd.R_below R1_.out (below_alloc (Below.refl _ _) (.cells #[.slice D0 s.length D0c, .slice D1 c.length D1c, .bool am, .slice D3 q.length D3c] 27 (0, 0))))
  have R3_2 := Aside0.mk (Kd.R_below R3_.out (below_alloc (Below.refl _ _) (.cells #[.slice D0 s.length D0c, .slice D1 c.length D1c, .bool am, .slice D3 q.length D3c] 27 (0, 0))))
  clear HB1 R0_ R1_ R3_
  obtain ⟨xK0, xK1, xK2, xK3⟩ := cells4d KD_.out
  go_wp2_with fail
  clear xK0 xK1 xK2 xK3
  refine (laws_at.calls (hr0 := Kd.C_below HR1.out HB2.out) (hc0 := hc1) (h := AHA.out)).mono ?_
  rintro e w2 ⟨rfl, hb2⟩
  have hb2 := hb2.below
  have HB3 := Aside0.mk (below_step HB2.out hb2)
  have R0_3 := Aside0.mk (Kd.R_below R0_2.out hb2)
  have R1_3 := Aside0.mk (Kd.R_below R1_2.out hb2)
  have R3_3 := Aside0.mk (Kd.R_below R3_2.out hb2)
  have K_3 := Aside0.mk (blk_below KD_.out hb2)
  clear HB2 R0_2 R1_2 R3_2 KD_
  clear hb2
  obtain ⟨xK0, xK1, xK2, xK3⟩ := cells4d K_3.out
  go_wp2_with fail
  clear xK0 xK1 xK2 xK3
  have LD := Aside0.mk (And.intro (Kd.R_lt R0_3.out) (Kd.R_lt R3_3.out))
  refine (impl_DiskWrite.calls (hr0_0 := (Kd.R_reads' R0_3.out).2.2) (hc0_0 := (Kd.R_reads' R0_3.out).2.1) (hr0_1 := (Kd.R_reads' R1_3.out).2.2) (hc0_1 := (Kd.R_reads' R1_3.out).2.1) (hr0_3 := (Kd.R_reads' R3_3.out).2.2) (hc0_3 := (Kd.R_reads' R3_3.out).2.1) (h := AHW.out)).mono ?_
  rintro e w3 ⟨v0, v1, v3, rfl, h0, h1, h3, hb3⟩
  have Q0_ := Aside0.mk (Kd.R_tight2 rfl h0)
  have Q1_ := Aside0.mk (Kd.R_tight2 rfl h1)
  have Q3_ := Aside0.mk (Kd.R_tight2 rfl h3)
  obtain ⟨W0, W0c, rfl, _, _⟩ := Kd.R_reads h0
  obtain ⟨W1, W1c, rfl, _, _⟩ := Kd.R_reads h1
  obtain ⟨W3, W3c, rfl, _, _⟩ := Kd.R_reads h3
  have HB4 := Aside0.mk (below_step HB3.out hb3)
  have R0_4 := Aside0.mk (Kd.R_below R0_3.out hb3)
  have R1_4 := Aside0.mk (Kd.R_below R1_3.out hb3)
  have R3_4 := Aside0.mk (Kd.R_below R3_3.out hb3)
  have K_4 := Aside0.mk (blk_below K_3.out hb3)
  clear HB3 R0_3 R1_3 R3_3 K_3
  clear hb3 h0 h1 h3
  have KW_ := Aside0.mk (blk_new w3 (.cells #[.slice W0 s.length W0c, .slice W1 cw.length W1c, .bool am, .slice W3 q.length W3c] 27 (0, 0)))
  have HB5 := Aside0.mk (below_step HB4.out (below_alloc (Below.refl _ _) (.cells #[.slice W0 s.length W0c, .slice W1 cw.length W1c, .bool am, .slice W3 q.length W3c] 27 (0, 0))))
  have R0_5 := Aside0.mk (Kd.R_below R0_4.out (below_alloc (Below.refl _ _) (.cells #[.slice W0 s.length W0c, .slice W1 cw.length W1c, .bool am, .slice W3 q.length W3c] 27 (0, 0))))
  have R1_5 := Aside0.mk (Kd.R_below R1_4.out (below_alloc (Below.refl _ _) (.cells #[.slice W0 s.length W0c, .slice W1 cw.length W1c, .bool am, .slice W3 q.length W3c] 27 (0, 0))))
  have R3_5 := Aside0.mk (Kd.R_below R3_4.out (below_alloc (Below.refl _ _) (.cells #[.slice W0 s.length W0c, .slice W1 cw.length W1c, .bool am, .slice W3 q.length W3c] 27 (0, 0))))
  have K_5 := Aside0.mk (blk_below K_4.out (below_alloc (Below.refl _ _) (.cells #[.slice W0 s.length W0c, .slice W1 cw.length W1c, .bool am, .slice W3 q.length W3c] 27 (0, 0))))
  have Q0_5 := Aside0.mk (Kd.R_below Q0_.out (below_alloc (Below.refl _ _) (.cells #[.slice W0 s.length W0c, .slice W1 cw.length W1c, .bool am, .slice W3 q.length W3c] 27 (0, 0))))
  have Q1_5 := Aside0.mk (Kd.R_below Q1_.out (below_alloc (Below.refl _ _) (.cells #[.slice W0 s.length W0c, .slice W1 cw.length W1c, .bool am, .slice W3 q.length W3c] 27 (0, 0))))
  have Q3_5 := Aside0.mk (Kd.R_below Q3_.out (below_alloc (Below.refl _ _) (.cells #[.slice W0 s.length W0c, .slice W1 cw.length W1c, .bool am, .slice W3 q.length W3c] 27 (0, 0))))
  clear HB4 R0_4 R1_4 R3_4 K_4 Q0_ Q1_ Q3_
  obtain ⟨xK0, xK1, xK2, xK3⟩ := cells4d K_5.out
  go_wp2_with fail
  clear xK0 xK1 xK2 xK3
  refine (spec_DiskWrite.calls kw _ _ s _ _ c am _ _ q k (⟨#[102, 114, 101, 115, 104]⟩ : ByteArray) s cw am q 0 w _ HB5.out R0_5.out (fun W_ hk => (Kd.R_reads' (Kd.R_kept R1_5.out hk (fun k h1 h2 => h2.elim (fun h2 => other_blockD R1_5.out R0_5.out (by decide) k h1.1 h2.1) (fun h2 => other_blockD R1_5.out R3_5.out (by decide) k h1.1 h2.1)))).2.2) (Kd.R_reads' R1_5.out).2.1 R3_5.out AHT.out).mono ?_
  rintro e w4 ⟨v0, v1, v3, rfl, h0, h1, h3, hb4, hk4⟩
  obtain ⟨T0, T0c, rfl, Tl0_, Tc0_⟩ := Kd.R_reads h0
  obtain ⟨T1, T1c, rfl, Tl1_, Tc1_⟩ := Kd.R_reads h1
  obtain ⟨T3, T3c, rfl, Tl3_, Tc3_⟩ := Kd.R_reads h3
  have HB40 := Aside0.mk hb4
  have K40 := Aside0.mk (blk_kept K_5.out hk4 (fun h => h.elim (fun h => Kd.R_ne R0_5.out K_5.out (by decide) h.1) (fun h => Kd.R_ne R3_5.out K_5.out (by decide) h.1)))
  have KW40 := Aside0.mk (blk_kept KW_.out hk4 (fun h => h.elim (fun h => Kd.R_ne R0_5.out KW_.out (by decide) h.1) (fun h => Kd.R_ne R3_5.out KW_.out (by decide) h.1)))
  have q0_ := Kd.R_reads' (Kd.R_kept Q0_5.out hk4 (fun k h1 h2 => h2.elim (fun h2 => absurd (LD.out.1 k h2.1.symm) (Nat.not_lt.2 (Kd.R_base Q0_5.out k h1.1.symm))) (fun h2 => absurd (LD.out.2 k h2.1.symm) (Nat.not_lt.2 (Kd.R_base Q0_5.out k h1.1.symm)))))
  have q1_ := Kd.R_reads' (Kd.R_kept Q1_5.out hk4 (fun k h1 h2 => h2.elim (fun h2 => absurd (LD.out.1 k h2.1.symm) (Nat.not_lt.2 (Kd.R_base Q1_5.out k h1.1.symm))) (fun h2 => absurd (LD.out.2 k h2.1.symm) (Nat.not_lt.2 (Kd.R_base Q1_5.out k h1.1.symm)))))
  have q3_ := Kd.R_reads' (Kd.R_kept Q3_5.out hk4 (fun k h1 h2 => h2.elim (fun h2 => absurd (LD.out.1 k h2.1.symm) (Nat.not_lt.2 (Kd.R_base Q3_5.out k h1.1.symm))) (fun h2 => absurd (LD.out.2 k h2.1.symm) (Nat.not_lt.2 (Kd.R_base Q3_5.out k h1.1.symm)))))
  have W40 := Aside0.mk (show BD w4 w3.heap.size W0 W0c s W1 W1c cw am W3 W3c q from ⟨KW40.out, ⟨q0_.2.2, q0_.2.1⟩, ⟨q1_.2.2, q1_.2.1⟩, ⟨q3_.2.2, q3_.2.1⟩⟩)
  clear q0_ q1_ q3_ hb4 hk4 h0 h1 h3 KW40 LD HB5 R0_5 R1_5 R3_5 K_5 Q0_5 Q1_5 Q3_5 KW_
  have T_6 := Aside0.mk (show BD (w4.alloc (.cells #[.slice T0 s.length T0c, .slice T1 cw.length T1c, .bool am, .slice T3 q.length T3c] 27 (0, 0))) w4.heap.size T0 T0c s T1 T1c cw am T3 T3c q from ⟨blk_new w4 _, DRd.below ⟨⟨Tc0_, Tl0_⟩, ⟨Tc1_, Tl1_⟩, ⟨Tc3_, Tl3_⟩⟩ (below_alloc (Below.refl _ _) _)⟩)
  have HB7 := Aside0.mk (below_step HB40.out (below_alloc (Below.refl _ _) (.cells #[.slice T0 s.length T0c, .slice T1 cw.length T1c, .bool am, .slice T3 q.length T3c] 27 (0, 0))))
  have K_7 := Aside0.mk (blk_below K40.out (below_alloc (Below.refl _ _) (.cells #[.slice T0 s.length T0c, .slice T1 cw.length T1c, .bool am, .slice T3 q.length T3c] 27 (0, 0))))
  have W_7 := Aside0.mk (W40.out.below (below_alloc (Below.refl _ _) (.cells #[.slice T0 s.length T0c, .slice T1 cw.length T1c, .bool am, .slice T3 q.length T3c] 27 (0, 0))))
  clear HB40 K40 W40
  clear Tl0_ Tc0_ Tl1_ Tc1_ Tl3_ Tc3_
  obtain ⟨xW0, xW1, xW2, xW3⟩ := W_7.out.cells
  go_wp2_with fail
  clear xW0 xW1 xW2 xW3
  have hrk := AHR.out k AHV.out.2.1 AHV.out.2.2
  rw [AHV.out.1] at hrk
  refine (impl_DiskRead.calls (hr0_0 := W_7.out.2.1.1) (hc0_0 := W_7.out.2.1.2) (hr0_1 := W_7.out.2.2.1.1) (hc0_1 := W_7.out.2.2.1.2) (hr0_3 := W_7.out.2.2.2.1) (hc0_3 := W_7.out.2.2.2.2) (h := hrk)).mono ?_
  clear hrk
  rintro e w5 ⟨rfl, hb5⟩
  have HB8 := Aside0.mk (below_step HB7.out hb5)
  have K_8 := Aside0.mk (blk_below K_7.out hb5)
  have W_8 := Aside0.mk (W_7.out.below hb5)
  have T_8 := Aside0.mk (T_6.out.below hb5)
  clear HB7 K_7 W_7 T_6
  clear hb5
  obtain ⟨xW0, xW1, xW2, xW3⟩ := W_8.out.cells
  go_wp2_with fail
  clear xW0 xW1 xW2 xW3
  refine (impl_DiskSync.calls (hr0_0 := W_8.out.2.1.1) (hc0_0 := W_8.out.2.1.2) (hr0_1 := W_8.out.2.2.1.1) (hc0_1 := W_8.out.2.2.1.2) (hr0_3 := W_8.out.2.2.2.1) (hc0_3 := W_8.out.2.2.2.2) (h := AHY.out)).mono ?_
  rintro e w6 ⟨v0, v1, v3, rfl, h0, h1, h3, hb_⟩
  obtain ⟨Y0, Y0c, rfl, Yl0_, Yc0_⟩ := Kd.R_reads h0
  obtain ⟨Y1, Y1c, rfl, Yl1_, Yc1_⟩ := Kd.R_reads h1
  obtain ⟨Y3, Y3c, rfl, Yl3_, Yc3_⟩ := Kd.R_reads h3
  clear h0 h1 h3
  have HB9 := Aside0.mk (below_step HB8.out hb_)
  have K_9 := Aside0.mk (blk_below K_8.out hb_)
  have W_9 := Aside0.mk (W_8.out.below hb_)
  have T_9 := Aside0.mk (T_8.out.below hb_)
  clear HB8 K_8 W_8 T_8
  clear hb_
  have Y_10 := Aside0.mk (show BD (w6.alloc (.cells #[.slice Y0 s1.length Y0c, .slice Y1 cs.length Y1c, .bool as_, .slice Y3 qs.length Y3c] 27 (0, 0))) w6.heap.size Y0 Y0c s1 Y1 Y1c cs as_ Y3 Y3c qs from ⟨blk_new w6 _, DRd.below ⟨⟨Yc0_, Yl0_⟩, ⟨Yc1_, Yl1_⟩, ⟨Yc3_, Yl3_⟩⟩ (below_alloc (Below.refl _ _) _)⟩)
  have HB11 := Aside0.mk (below_step HB9.out (below_alloc (Below.refl _ _) (.cells #[.slice Y0 s1.length Y0c, .slice Y1 cs.length Y1c, .bool as_, .slice Y3 qs.length Y3c] 27 (0, 0))))
  have K_11 := Aside0.mk (blk_below K_9.out (below_alloc (Below.refl _ _) (.cells #[.slice Y0 s1.length Y0c, .slice Y1 cs.length Y1c, .bool as_, .slice Y3 qs.length Y3c] 27 (0, 0))))
  have W_11 := Aside0.mk (W_9.out.below (below_alloc (Below.refl _ _) (.cells #[.slice Y0 s1.length Y0c, .slice Y1 cs.length Y1c, .bool as_, .slice Y3 qs.length Y3c] 27 (0, 0))))
  have T_11 := Aside0.mk (T_9.out.below (below_alloc (Below.refl _ _) (.cells #[.slice Y0 s1.length Y0c, .slice Y1 cs.length Y1c, .bool as_, .slice Y3 qs.length Y3c] 27 (0, 0))))
  clear HB9 K_9 W_9 T_9
  clear Yl0_ Yc0_ Yl1_ Yc1_ Yl3_ Yc3_
  obtain ⟨gW, hgW⟩ : ∃ gW, gW = w3.heap.size := ⟨_, rfl⟩
  go_upto_region 9 with fail
  rw [← hgW] at W_11
  simp only [← hgW]
  clear hgW
  have HD12 := Aside0.mk (below_drew HB11.out)
  have K_12 := Aside0.mk (blk_drew K_11.out)
  have W_12 := Aside0.mk (W_11.out.below (below_drew (Below.refl _ _)))
  have T_12 := Aside0.mk (T_11.out.below (below_drew (Below.refl _ _)))
  have Y_12 := Aside0.mk (Y_10.out.below (below_drew (Below.refl _ _)))
  clear HB11 K_11 W_11 T_11 Y_10
  have HO := Aside0.mk (Below.refl ((w6.alloc (.cells #[.slice Y0 s1.length Y0c, .slice Y1 cs.length Y1c, .bool as_, .slice Y3 qs.length Y3c] 27 (0, 0)))).drew.heap.size ((w6.alloc (.cells #[.slice Y0 s1.length Y0c, .slice Y1 cs.length Y1c, .bool as_, .slice Y3 qs.length Y3c] 27 (0, 0)))).drew)
  refine start_ (n := 10) (S := fun w' => True) (ds := []) #[false, false, false, false, false, false, false, false, false, false] (by kernel_rfl) rfl rfl trivial (fun hHeld => ?_)
  refine with_tabW fnDisk.tab9 fnDisk.bits9 (fun HT_ HW_ => ?_)
  generalize (w6.alloc (.cells #[.slice Y0 s1.length Y0c, .slice Y1 cs.length Y1c, .bool as_, .slice Y3 qs.length Y3c] 27 (0, 0))).drew = wd at HO HD12 K_12 W_12 T_12 Y_12 ⊢
  refine inv_at [0, 1, 2, 3, 4, 5, 6, 7, 8, 9] (fun a0_ b a w' => ∃ (Lk : Option Addr) (lk : Nat) (x0_ : Option Addr) (y0_ : Nat) (x1_ : Option Addr) (y1_ : Nat) (x3_ : Option Addr) (y3_ : Nat) (gx : Nat) (m2_ : Value) (m3_ : Value) (m4_ : Value) (m5_ : Value) (m7_ : Value), a = putSel a0_ b [(0, 72, .agg #[.slice W0 s.length W0c, .slice W1 cw.length W1c, .bool am, .slice W3 q.length W3c]), (1, 73, .slice A1 more.length c1), (2, 74, m2_), (3, 75, m3_), (4, 71, m4_), (5, 76, m5_), (6, 77, .int .i64 0), (7, 16, m7_), (9, 17, .int .i64 0)] ∧ (Below wd.heap.size wd w') ∧ (b 2 = true → b 3 = false → Kd.C (Kd.int .i64) w' Lk L.length L ∧ L.length ≤ lk) ∧ (b 3 = true → Kd.R Kd.string 9 w' wd.heap.size (fun _ => True) (.slice x0_ sx.length y0_) sx) ∧ (b 3 = true → Kd.R k54 54 w' wd.heap.size (fun _ => True) (.slice x1_ cx.length y1_) cx) ∧ (b 3 = true → Kd.R (Kd.int .i64) 3 w' wd.heap.size (fun _ => True) (.slice x3_ qx.length y3_) qx) ∧ (b 7 = true → b 8 = false → w'.heap[gx]? = some (.cells #[.slice none 0 0, .slice none 0 0, .bool false, .slice none 0 0] 27 (0, 0))) ∧ (b 7 = true → wd.heap.size ≤ gx) ∧ (b 8 = true → w'.heap[gx]? = some (.cells #[.slice x0_ sx.length y0_, .slice x1_ cx.length y1_, .bool ax, .slice x3_ qx.length y3_] 27 (0, 0))) ∧ (b 2 = true → (m2_ : Value) = .slice Lk L.length lk) ∧ (b 3 = true → (m3_ : Value) = .tuple #[.agg #[.slice x0_ sx.length y0_, .slice x1_ cx.length y1_, .bool ax, .slice x3_ qx.length y3_], .int .i64 0]) ∧ (b 4 = true → (m4_ : Value) = .tuple #[.agg #[.slice x0_ sx.length y0_, .slice x1_ cx.length y1_, .bool ax, .slice x3_ qx.length y3_], .int .i64 0]) ∧ (b 5 = true → (m5_ : Value) = .agg #[.slice x0_ sx.length y0_, .slice x1_ cx.length y1_, .bool ax, .slice x3_ qx.length y3_]) ∧ (b 7 = true → (m7_ : Value) = .pointer (some ⟨gx, 0, none⟩))) HT_.out HW_.out (by kernel_rfl) (by kernel_rfl) ?_ ?_ ?_
  · exact ⟨none, 0, none, 0, none, 0, none, 0, 0, .bool false, .bool false, .bool false, .bool false, .bool false, by simp only [putSel, Bool.false_eq_true, if_false], HO.out, fun h_ => absurd h_ (by decide), fun h_ => absurd h_ (by decide), fun h_ => absurd h_ (by decide), fun h_ => absurd h_ (by decide), fun h_ => absurd h_ (by decide), fun h_ => absurd h_ (by decide), fun h_ => absurd h_ (by decide), fun h_ => absurd h_ (by decide), fun h_ => absurd h_ (by decide), fun h_ => absurd h_ (by decide), fun h_ => absurd h_ (by decide), fun h_ => absurd h_ (by decide)⟩
  · skip
    clear HO
    refine steps_cons ?_ ?_
    · rintro b a w' ⟨Lk, lk, x0_, y0_, x1_, y1_, x3_, y3_, gx, m2_, m3_, m4_, m5_, m7_, ha, Q_HO, Q_KP, Q_D0, Q_D1, Q_D3, Q_G0, Q_GG, Q_G1, Q_X2_, Q_X3_, Q_X4_, Q_X5_, Q_X7_⟩ hb_ hon hoff
      refine ⟨_, rfl, fun K hK => ?_⟩
      have e7 : a.tmps[7]? = some (.pointer (some ⟨gW, 0, none⟩)) := by rw [ha]; exact (putSel_off rfl).trans rfl
      replace ha := Aside0.mk ha
      have HO := Aside0.mk Q_HO
      obtain ⟨b0_, b1_, b2_, b3_⟩ := (W_12.out.below HO.out).cells
      refine value_ (w1 := w') (v := .agg #[.slice W0 s.length W0c, .slice W1 cw.length W1c, .bool am, .slice W3 q.length W3c]) (by rfl) rfl ?_ ?_
      · go_simp
        (try simp only [i64_w])
        try rfl
      refine hK.out _ _ ⟨Lk, lk, x0_, y0_, x1_, y1_, x3_, y3_, gx, m2_, m3_, m4_, m5_, m7_, (by rw [ha.out]; exact putSel_upk 0 hb_ rfl rfl rfl), Q_HO, Q_KP, fun h0_ => absurd ((hoff 3 (by kernel_rfl)).symm.trans h0_) (by decide), fun h0_ => absurd ((hoff 3 (by kernel_rfl)).symm.trans h0_) (by decide), fun h0_ => absurd ((hoff 3 (by kernel_rfl)).symm.trans h0_) (by decide), Q_G0, Q_GG, fun h0_ => absurd ((hoff 8 (by kernel_rfl)).symm.trans h0_) (by decide), Q_X2_, fun h0_ => absurd ((hoff 3 (by kernel_rfl)).symm.trans h0_) (by decide), fun h0_ => absurd ((hoff 4 (by kernel_rfl)).symm.trans h0_) (by decide), fun h0_ => absurd ((hoff 5 (by kernel_rfl)).symm.trans h0_) (by decide), Q_X7_⟩
    refine steps_cons ?_ ?_
    · rintro b a w' ⟨Lk, lk, x0_, y0_, x1_, y1_, x3_, y3_, gx, m2_, m3_, m4_, m5_, m7_, ha, Q_HO, Q_KP, Q_D0, Q_D1, Q_D3, Q_G0, Q_GG, Q_G1, Q_X2_, Q_X3_, Q_X4_, Q_X5_, Q_X7_⟩ hb_ hon hoff
      refine ⟨_, rfl, fun K hK => ?_⟩
      have e1 : a.tmps[1]? = some (.slice A1 more.length c1) := by rw [ha]; exact (putSel_off rfl).trans rfl
      replace ha := Aside0.mk ha
      refine value_ (w1 := w') (v := .slice A1 more.length c1) (by rfl) rfl ?_ ?_
      · go_simp
        (try simp only [i64_w])
        try rfl
      refine hK.out _ _ ⟨Lk, lk, x0_, y0_, x1_, y1_, x3_, y3_, gx, m2_, m3_, m4_, m5_, m7_, (by rw [ha.out]; exact putSel_upk 1 hb_ rfl rfl rfl), Q_HO, fun h0_ _ => absurd ((hoff 2 (by kernel_rfl)).symm.trans h0_) (by decide), fun h0_ => absurd ((hoff 3 (by kernel_rfl)).symm.trans h0_) (by decide), fun h0_ => absurd ((hoff 3 (by kernel_rfl)).symm.trans h0_) (by decide), fun h0_ => absurd ((hoff 3 (by kernel_rfl)).symm.trans h0_) (by decide), Q_G0, Q_GG, fun h0_ => absurd ((hoff 8 (by kernel_rfl)).symm.trans h0_) (by decide), fun h0_ => absurd ((hoff 2 (by kernel_rfl)).symm.trans h0_) (by decide), fun h0_ => absurd ((hoff 3 (by kernel_rfl)).symm.trans h0_) (by decide), fun h0_ => absurd ((hoff 4 (by kernel_rfl)).symm.trans h0_) (by decide), fun h0_ => absurd ((hoff 5 (by kernel_rfl)).symm.trans h0_) (by decide), Q_X7_⟩
    refine steps_cons ?_ ?_
    · rintro b a w' ⟨Lk, lk, x0_, y0_, x1_, y1_, x3_, y3_, gx, m2_, m3_, m4_, m5_, m7_, ha, Q_HO, Q_KP, Q_D0, Q_D1, Q_D3, Q_G0, Q_GG, Q_G1, Q_X2_, Q_X3_, Q_X4_, Q_X5_, Q_X7_⟩ hb_ hon hoff
      refine ⟨_, rfl, fun K hK => ?_⟩
      have e73 : a.tmps[73]? = some (.slice A1 more.length c1) := on_ ha 1 rfl rfl (hon 1 (by kernel_rfl)) rfl
      replace ha := Aside0.mk ha
      have HO := Aside0.mk Q_HO
      refine goes_ Try.func11 (by kernel_rfl) rfl #[.slice A1 more.length c1] (by rfl) rfl rfl (by first | (simp only [List.map_toArray, List.map_cons, List.map_nil, Act.eval, Array.getD_eq_getD_getElem?, Option.getD_some, e73]; done) | (simp only [List.map_toArray, List.map_cons, List.map_nil, Act.eval, Array.getD_eq_getD_getElem?, Option.getD_some, e73]; rfl)) ?_
      refine (spec_KeepsOf.calls kk (hr0 := Kd.C_below HR1.out (below_step HD12.out HO.out)) (hc0 := hc1) (h := AHK.out)).mono ?_
      rintro e_ w1 ⟨v_, rfl, hr_, hb1⟩
      obtain ⟨Lk_, lk_, ev_, hl_, hc_⟩ := Kd.R_reads hr_
      subst ev_
      refine ⟨_, rfl, ?_⟩
      refine hK.out _ _ ⟨Lk_, lk_, x0_, y0_, x1_, y1_, x3_, y3_, gx, (.slice Lk_ L.length lk_), m3_, m4_, m5_, m7_, (by rw [ha.out]; exact putSel_upk 2 hb_ rfl rfl rfl), below_step HO.out hb1, fun _ _ => ⟨hc_, hl_⟩, fun h0_ => absurd ((hoff 3 (by kernel_rfl)).symm.trans h0_) (by decide), fun h0_ => absurd ((hoff 3 (by kernel_rfl)).symm.trans h0_) (by decide), fun h0_ => absurd ((hoff 3 (by kernel_rfl)).symm.trans h0_) (by decide), fun h0_ h1_ => blk_below (Q_G0 h0_ h1_) hb1, Q_GG, fun h0_ => absurd ((hoff 8 (by kernel_rfl)).symm.trans h0_) (by decide), fun _ => rfl, fun h0_ => absurd ((hoff 3 (by kernel_rfl)).symm.trans h0_) (by decide), fun h0_ => absurd ((hoff 4 (by kernel_rfl)).symm.trans h0_) (by decide), fun h0_ => absurd ((hoff 5 (by kernel_rfl)).symm.trans h0_) (by decide), Q_X7_⟩
    refine steps_cons ?_ ?_
    · rintro b a w' ⟨Lk, lk, x0_, y0_, x1_, y1_, x3_, y3_, gx, m2_, m3_, m4_, m5_, m7_, ha, Q_HO, Q_KP, Q_D0, Q_D1, Q_D3, Q_G0, Q_GG, Q_G1, Q_X2_, Q_X3_, Q_X4_, Q_X5_, Q_X7_⟩ hb_ hon hoff
      refine ⟨_, rfl, fun K hK => ?_⟩
      have e72 : a.tmps[72]? = some (.agg #[.slice W0 s.length W0c, .slice W1 cw.length W1c, .bool am, .slice W3 q.length W3c]) := on_ ha 0 rfl rfl (hon 0 (by kernel_rfl)) rfl
      have e74 : a.tmps[74]? = some (m2_) := on_ ha 2 rfl rfl (hon 2 (by kernel_rfl)) rfl
      rw [Q_X2_ (hon 2 (by kernel_rfl))] at e74
      replace ha := Aside0.mk ha
      have HO := Aside0.mk Q_HO
      have KP := Aside0.mk (Q_KP (hon 2 (by kernel_rfl)) hb_)
      have hw_ := W_12.out.below HO.out
      have hs_ := HO.out.size
      refine goes_ Try.func10 (by kernel_rfl) rfl #[.agg #[.slice W0 s.length W0c, .slice W1 cw.length W1c, .bool am, .slice W3 q.length W3c], .slice Lk L.length lk] (by rfl) rfl rfl (by first | (simp only [List.map_toArray, List.map_cons, List.map_nil, Act.eval, Array.getD_eq_getD_getElem?, Option.getD_some, e72, e74]; done) | (simp only [List.map_toArray, List.map_cons, List.map_nil, Act.eval, Array.getD_eq_getD_getElem?, Option.getD_some, e72, e74]; rfl)) ?_
      refine (impl_DiskCrash.calls (hr0_0 := hw_.2.1.1) (hc0_0 := hw_.2.1.2) (hr0_1 := hw_.2.2.1.1) (hc0_1 := hw_.2.2.1.2) (hr0_3 := hw_.2.2.2.1) (hc0_3 := hw_.2.2.2.2) (hr1 := KP.out.1) (hc1 := KP.out.2) (h := AHX.out)).mono ?_
      rintro e_ w1 ⟨v0_, v1_, v3_, rfl, h0_, h1_, h3_, hb1⟩
      obtain ⟨u0_, z0_, ev_, _, _⟩ := Kd.R_reads h0_
      subst ev_
      obtain ⟨u1_, z1_, ev_, _, _⟩ := Kd.R_reads h1_
      subst ev_
      obtain ⟨u3_, z3_, ev_, _, _⟩ := Kd.R_reads h3_
      subst ev_
      refine ⟨_, rfl, ?_⟩
      refine hK.out _ _ ⟨Lk, lk, u0_, z0_, u1_, z1_, u3_, z3_, gx, m2_, (.tuple #[.agg #[.slice u0_ sx.length z0_, .slice u1_ cx.length z1_, .bool ax, .slice u3_ qx.length z3_], .int .i64 0]), m4_, m5_, m7_, (by rw [ha.out]; exact putSel_upk 3 hb_ rfl rfl rfl), below_step HO.out hb1, fun _ h1_ => absurd ((up_self b 3).symm.trans h1_) (by decide), fun _ => Kd.R_lower h0_ hs_, fun _ => Kd.R_lower h1_ hs_, fun _ => Kd.R_lower h3_ hs_, fun h0_ h1_ => blk_below (Q_G0 h0_ h1_) hb1, Q_GG, fun h0_ => absurd ((hoff 8 (by kernel_rfl)).symm.trans h0_) (by decide), Q_X2_, fun _ => rfl, fun h0_ => absurd ((hoff 4 (by kernel_rfl)).symm.trans h0_) (by decide), fun h0_ => absurd ((hoff 5 (by kernel_rfl)).symm.trans h0_) (by decide), Q_X7_⟩
    refine steps_cons ?_ ?_
    · rintro b a w' ⟨Lk, lk, x0_, y0_, x1_, y1_, x3_, y3_, gx, m2_, m3_, m4_, m5_, m7_, ha, Q_HO, Q_KP, Q_D0, Q_D1, Q_D3, Q_G0, Q_GG, Q_G1, Q_X2_, Q_X3_, Q_X4_, Q_X5_, Q_X7_⟩ hb_ hon hoff
      refine ⟨_, rfl, fun K hK => ?_⟩
      have e75 : a.tmps[75]? = some (m3_) := on_ ha 3 rfl rfl (hon 3 (by kernel_rfl)) rfl
      rw [Q_X3_ (hon 3 (by kernel_rfl))] at e75
      replace ha := Aside0.mk ha
      refine value_ (w1 := w') (v := .tuple #[.agg #[.slice x0_ sx.length y0_, .slice x1_ cx.length y1_, .bool ax, .slice x3_ qx.length y3_], .int .i64 0]) (by rfl) rfl ?_ ?_
      · go_simp
        (try simp only [i64_w])
        try rfl
      refine hK.out _ _ ⟨Lk, lk, x0_, y0_, x1_, y1_, x3_, y3_, gx, m2_, m3_, (.tuple #[.agg #[.slice x0_ sx.length y0_, .slice x1_ cx.length y1_, .bool ax, .slice x3_ qx.length y3_], .int .i64 0]), m5_, m7_, (by rw [ha.out]; exact putSel_upk 4 hb_ rfl rfl rfl), Q_HO, fun _ h1_ => absurd ((hon 3 (by kernel_rfl)).symm.trans h1_) (by decide), Q_D0, Q_D1, Q_D3, Q_G0, Q_GG, fun h0_ => absurd ((hoff 8 (by kernel_rfl)).symm.trans h0_) (by decide), Q_X2_, Q_X3_, fun _ => rfl, fun h0_ => absurd ((hoff 5 (by kernel_rfl)).symm.trans h0_) (by decide), Q_X7_⟩
    refine steps_cons ?_ ?_
    · rintro b a w' ⟨Lk, lk, x0_, y0_, x1_, y1_, x3_, y3_, gx, m2_, m3_, m4_, m5_, m7_, ha, Q_HO, Q_KP, Q_D0, Q_D1, Q_D3, Q_G0, Q_GG, Q_G1, Q_X2_, Q_X3_, Q_X4_, Q_X5_, Q_X7_⟩ hb_ hon hoff
      refine ⟨_, rfl, fun K hK => ?_⟩
      have e71 : a.tmps[71]? = some (m4_) := on_ ha 4 rfl rfl (hon 4 (by kernel_rfl)) rfl
      rw [Q_X4_ (hon 4 (by kernel_rfl))] at e71
      replace ha := Aside0.mk ha
      refine value_ (w1 := w') (v := .agg #[.slice x0_ sx.length y0_, .slice x1_ cx.length y1_, .bool ax, .slice x3_ qx.length y3_]) (by rfl) rfl ?_ ?_
      · go_simp
        (try simp only [i64_w])
        try rfl
      refine hK.out _ _ ⟨Lk, lk, x0_, y0_, x1_, y1_, x3_, y3_, gx, m2_, m3_, m4_, (.agg #[.slice x0_ sx.length y0_, .slice x1_ cx.length y1_, .bool ax, .slice x3_ qx.length y3_]), m7_, (by rw [ha.out]; exact putSel_upk 5 hb_ rfl rfl rfl), Q_HO, fun _ h1_ => absurd ((hon 3 (by kernel_rfl)).symm.trans h1_) (by decide), Q_D0, Q_D1, Q_D3, Q_G0, Q_GG, fun h0_ => absurd ((hoff 8 (by kernel_rfl)).symm.trans h0_) (by decide), Q_X2_, Q_X3_, Q_X4_, fun _ => rfl, Q_X7_⟩
    refine steps_cons ?_ ?_
    · rintro b a w' ⟨Lk, lk, x0_, y0_, x1_, y1_, x3_, y3_, gx, m2_, m3_, m4_, m5_, m7_, ha, Q_HO, Q_KP, Q_D0, Q_D1, Q_D3, Q_G0, Q_GG, Q_G1, Q_X2_, Q_X3_, Q_X4_, Q_X5_, Q_X7_⟩ hb_ hon hoff
      refine ⟨_, rfl, fun K hK => ?_⟩
      have e71 : a.tmps[71]? = some (m4_) := on_ ha 4 rfl rfl (hon 4 (by kernel_rfl)) rfl
      rw [Q_X4_ (hon 4 (by kernel_rfl))] at e71
      replace ha := Aside0.mk ha
      refine value_ (w1 := w') (v := .int .i64 0) (by rfl) rfl ?_ ?_
      · go_simp
        (try simp only [i64_w])
        try rfl
      refine hK.out _ _ ⟨Lk, lk, x0_, y0_, x1_, y1_, x3_, y3_, gx, m2_, m3_, m4_, m5_, m7_, (by rw [ha.out]; exact putSel_upk 6 hb_ rfl rfl rfl), Q_HO, fun _ h1_ => absurd ((hon 3 (by kernel_rfl)).symm.trans h1_) (by decide), Q_D0, Q_D1, Q_D3, Q_G0, Q_GG, Q_G1, Q_X2_, Q_X3_, Q_X4_, Q_X5_, Q_X7_⟩
    refine steps_cons ?_ ?_
    · rintro b a w' ⟨Lk, lk, x0_, y0_, x1_, y1_, x3_, y3_, gx, m2_, m3_, m4_, m5_, m7_, ha, Q_HO, Q_KP, Q_D0, Q_D1, Q_D3, Q_G0, Q_GG, Q_G1, Q_X2_, Q_X3_, Q_X4_, Q_X5_, Q_X7_⟩ hb_ hon hoff
      refine ⟨_, rfl, fun K hK => ?_⟩
      replace ha := Aside0.mk ha
      have HO := Aside0.mk Q_HO
      refine value_ (w1 := w'.alloc (.cells #[.slice none 0 0, .slice none 0 0, .bool false, .slice none 0 0] 27 (0, 0))) (v := .pointer (some ⟨w'.heap.size, 0, none⟩)) (by rfl) rfl ?_ ?_
      · go_simp
        try rfl
      refine hK.out _ _ ⟨Lk, lk, x0_, y0_, x1_, y1_, x3_, y3_, w'.heap.size, m2_, m3_, m4_, m5_, (.pointer (some ⟨w'.heap.size, 0, none⟩)), (by rw [ha.out]; exact putSel_upk 7 hb_ rfl rfl rfl), below_alloc HO.out _, fun h0_ h1_ => ⟨Kd.C_alloc (Q_KP h0_ h1_).1 _, (Q_KP h0_ h1_).2⟩, fun h0_ => Kd.R_alloc (Q_D0 h0_) _, fun h0_ => Kd.R_alloc (Q_D1 h0_) _, fun h0_ => Kd.R_alloc (Q_D3 h0_) _, fun _ _ => blk_new w' _, fun _ => HO.out.size, fun h0_ => absurd ((hoff 8 (by kernel_rfl)).symm.trans h0_) (by decide), Q_X2_, Q_X3_, Q_X4_, Q_X5_, fun _ => rfl⟩
    refine steps_cons ?_ ?_
    · rintro b a w' ⟨Lk, lk, x0_, y0_, x1_, y1_, x3_, y3_, gx, m2_, m3_, m4_, m5_, m7_, ha, Q_HO, Q_KP, Q_D0, Q_D1, Q_D3, Q_G0, Q_GG, Q_G1, Q_X2_, Q_X3_, Q_X4_, Q_X5_, Q_X7_⟩ hb_ hon hoff
      refine ⟨_, rfl, fun K hK => ?_⟩
      have e16 : a.tmps[16]? = some (m7_) := on_ ha 7 rfl rfl (hon 7 (by kernel_rfl)) rfl
      rw [Q_X7_ (hon 7 (by kernel_rfl))] at e16
      have e76 : a.tmps[76]? = some (m5_) := on_ ha 5 rfl rfl (hon 5 (by kernel_rfl)) rfl
      rw [Q_X5_ (hon 5 (by kernel_rfl))] at e76
      replace ha := Aside0.mk ha
      have HO := Aside0.mk Q_HO
      have D0 := Aside0.mk (Q_D0 (hon 3 (by kernel_rfl)))
      have D1 := Aside0.mk (Q_D1 (hon 3 (by kernel_rfl)))
      have D3 := Aside0.mk (Q_D3 (hon 3 (by kernel_rfl)))
      have G0 := Aside0.mk (Q_G0 (hon 7 (by kernel_rfl)) hb_)
      have GG := Aside0.mk (Q_GG (hon 7 (by kernel_rfl)))
      obtain ⟨z0_, z1_, z2_, z3_, y4_, y5_, y6_, y7_⟩ := cells4 G0.out
      refine skip_ (w1 := (((w'.setCell ⟨gx, 0, none⟩ (.slice x0_ sx.length y0_)).setCell ⟨gx, 1, none⟩ (.slice x1_ cx.length y1_)).setCell ⟨gx, 2, none⟩ (.bool ax)).setCell ⟨gx, 3, none⟩ (.slice x3_ qx.length y3_)) (by rfl) rfl ?_ ?_
      · go_simp
      refine hK.out _ _ ⟨Lk, lk, x0_, y0_, x1_, y1_, x3_, y3_, gx, m2_, m3_, m4_, m5_, m7_, (by rw [ha.out]; exact putSel_none (v := undef) rfl), set4_below HO.out GG.out _ _ _ _, fun _ h1_ => absurd ((hon 3 (by kernel_rfl)).symm.trans h1_) (by decide), fun _ => R_set4 D0.out G0.out (ne_string (by decide)) _ _ _ _, fun _ => R_set4 D1.out G0.out (ne_pend (by decide)) _ _ _ _, fun _ => R_set4 D3.out G0.out (ne_ints (by decide)) _ _ _ _, fun _ h1_ => absurd ((up_self b 8).symm.trans h1_) (by decide), Q_GG, fun _ => set4_blk G0.out _ _ _ _, Q_X2_, Q_X3_, Q_X4_, Q_X5_, Q_X7_⟩
    refine steps_cons ?_ ?_
    · rintro b a w' ⟨Lk, lk, x0_, y0_, x1_, y1_, x3_, y3_, gx, m2_, m3_, m4_, m5_, m7_, ha, Q_HO, Q_KP, Q_D0, Q_D1, Q_D3, Q_G0, Q_GG, Q_G1, Q_X2_, Q_X3_, Q_X4_, Q_X5_, Q_X7_⟩ hb_ hon hoff
      refine ⟨_, rfl, fun K hK => ?_⟩
      have e77 : a.tmps[77]? = some (.int .i64 0) := on_ ha 6 rfl rfl (hon 6 (by kernel_rfl)) rfl
      replace ha := Aside0.mk ha
      refine value_ (w1 := w') (v := .int .i64 0) (by rfl) rfl ?_ ?_
      · go_simp
        (try simp only [i64_w])
        try rfl
      refine hK.out _ _ ⟨Lk, lk, x0_, y0_, x1_, y1_, x3_, y3_, gx, m2_, m3_, m4_, m5_, m7_, (by rw [ha.out]; exact putSel_upk 8 hb_ rfl rfl rfl), Q_HO, fun _ h1_ => absurd ((hon 3 (by kernel_rfl)).symm.trans h1_) (by decide), Q_D0, Q_D1, Q_D3, fun _ h1_ => absurd ((hon 8 (by kernel_rfl)).symm.trans h1_) (by decide), Q_GG, Q_G1, Q_X2_, Q_X3_, Q_X4_, Q_X5_, Q_X7_⟩
    exact steps_nil
  rintro b a wE9 hall ⟨Lk, lk, x0_, y0_, x1_, y1_, x3_, y3_, gx, m2_, m3_, m4_, m5_, m7_, ha, Q_HO, Q_KP, Q_D0, Q_D1, Q_D3, Q_G0, Q_GG, Q_G1, Q_X2_, Q_X3_, Q_X4_, Q_X5_, Q_X7_⟩
  clear HO
  have hb0_ := hall 0 (by kernel_rfl)
  have hb1_ := hall 1 (by kernel_rfl)
  have hb2_ := hall 2 (by kernel_rfl)
  have hb3_ := hall 3 (by kernel_rfl)
  have hb4_ := hall 4 (by kernel_rfl)
  have hb5_ := hall 5 (by kernel_rfl)
  have hb6_ := hall 6 (by kernel_rfl)
  have hb7_ := hall 7 (by kernel_rfl)
  have hb8_ := hall 8 (by kernel_rfl)
  have hb9_ := hall 9 (by kernel_rfl)
  subst ha
  obtain rfl := Q_X2_ hb2_
  obtain rfl := Q_X3_ hb3_
  obtain rfl := Q_X4_ hb4_
  obtain rfl := Q_X5_ hb5_
  obtain rfl := Q_X7_ hb7_
  simp only [putSel, hb0_, hb1_, hb2_, hb3_, hb4_, hb5_, hb6_, hb7_, hb8_, hb9_, if_true, Act.put, List.setIfInBounds_toArray, List.set_cons_zero, List.set_cons_succ]
  have HO := Aside0.mk Q_HO
  clear Q_HO
  clear Q_KP
  have D0 := Aside0.mk (Q_D0 hb3_)
  clear Q_D0
  have D1 := Aside0.mk (Q_D1 hb3_)
  clear Q_D1
  have D3 := Aside0.mk (Q_D3 hb3_)
  clear Q_D3
  clear Q_G0
  have GG := Aside0.mk (Q_GG hb7_)
  clear Q_GG
  have G1 := Aside0.mk (Q_G1 hb8_)
  clear Q_G1
  clear hall hb0_ hb1_ hb2_ hb3_ hb4_ hb5_ hb6_ hb7_ hb8_ hb9_
  have X_13 := Aside0.mk (show BD wE9 gx x0_ y0_ sx x1_ y1_ cx ax x3_ y3_ qx from ⟨G1.out, ⟨(Kd.R_reads' D0.out).2.2, (Kd.R_reads' D0.out).2.1⟩, ⟨(Kd.R_reads' D1.out).2.2, (Kd.R_reads' D1.out).2.1⟩, ⟨(Kd.R_reads' D3.out).2.2, (Kd.R_reads' D3.out).2.1⟩⟩)
  have HB14 := Aside0.mk (below_step HD12.out HO.out)
  have K_14 := Aside0.mk (blk_below K_12.out HO.out)
  have W_14 := Aside0.mk (W_12.out.below HO.out)
  have T_14 := Aside0.mk (T_12.out.below HO.out)
  have Y_14 := Aside0.mk (Y_12.out.below HO.out)
  clear HD12 K_12 W_12 T_12 Y_12
  clear HO D0 D1 D3 GG G1
  obtain ⟨X0, r_X0⟩ : ∃ z, z = x0_ := ⟨_, rfl⟩
  obtain ⟨X0c, r_X0c⟩ : ∃ z, z = y0_ := ⟨_, rfl⟩
  obtain ⟨X1, r_X1⟩ : ∃ z, z = x1_ := ⟨_, rfl⟩
  obtain ⟨X1c, r_X1c⟩ : ∃ z, z = y1_ := ⟨_, rfl⟩
  obtain ⟨X3, r_X3⟩ : ∃ z, z = x3_ := ⟨_, rfl⟩
  obtain ⟨X3c, r_X3c⟩ : ∃ z, z = y3_ := ⟨_, rfl⟩
  obtain ⟨gX, r_gX⟩ : ∃ z, z = gx := ⟨_, rfl⟩
  rw [← r_X0, ← r_X0c, ← r_X1, ← r_X1c, ← r_X3, ← r_X3c, ← r_gX] at X_13
  simp only [← r_X0, ← r_X0c, ← r_X1, ← r_X1c, ← r_X3, ← r_X3c, ← r_gX]
  clear r_X0 r_X0c r_X1 r_X1c r_X3 r_X3c r_gX
  go_upto_region 10 with fail
  have HD15 := Aside0.mk (below_drew HB14.out)
  have K_15 := Aside0.mk (blk_drew K_14.out)
  have W_15 := Aside0.mk (W_14.out.below (below_drew (Below.refl _ _)))
  have T_15 := Aside0.mk (T_14.out.below (below_drew (Below.refl _ _)))
  have Y_15 := Aside0.mk (Y_14.out.below (below_drew (Below.refl _ _)))
  have X_15 := Aside0.mk (X_13.out.below (below_drew (Below.refl _ _)))
  clear HB14 K_14 W_14 T_14 Y_14 X_13
  have HO := Aside0.mk (Below.refl (wE9).drew.heap.size (wE9).drew)
  refine start_ (n := 10) (S := fun w' => True) (ds := []) #[false, false, false, false, false, false, false, false, false, false] (by kernel_rfl) rfl rfl trivial (fun hHeld => ?_)
  refine with_tabW fnDisk.tab10 fnDisk.bits10 (fun HT_ HW_ => ?_)
  generalize wE9.drew = wd at HO HD15 K_15 W_15 T_15 Y_15 X_15 ⊢
  refine inv_at [0, 1, 2, 3, 4, 5, 6, 7, 8, 9] (fun a0_ b a w' => ∃ (Lk : Option Addr) (lk : Nat) (x0_ : Option Addr) (y0_ : Nat) (x1_ : Option Addr) (y1_ : Nat) (x3_ : Option Addr) (y3_ : Nat) (gx : Nat) (m2_ : Value) (m3_ : Value) (m4_ : Value) (m5_ : Value) (m7_ : Value), a = putSel a0_ b [(0, 79, .agg #[.slice W0 s.length W0c, .slice W1 cw.length W1c, .bool am, .slice W3 q.length W3c]), (1, 80, .slice A1 more.length c1), (2, 81, m2_), (3, 82, m3_), (4, 78, m4_), (5, 83, m5_), (6, 84, .int .i64 0), (7, 18, m7_), (9, 19, .int .i64 0)] ∧ (Below wd.heap.size wd w') ∧ (b 2 = true → b 3 = false → Kd.C (Kd.int .i64) w' Lk L.length L ∧ L.length ≤ lk) ∧ (b 3 = true → Kd.R Kd.string 9 w' wd.heap.size (fun _ => True) (.slice x0_ sx.length y0_) sx) ∧ (b 3 = true → Kd.R k54 54 w' wd.heap.size (fun _ => True) (.slice x1_ cx.length y1_) cx) ∧ (b 3 = true → Kd.R (Kd.int .i64) 3 w' wd.heap.size (fun _ => True) (.slice x3_ qx.length y3_) qx) ∧ (b 7 = true → b 8 = false → w'.heap[gx]? = some (.cells #[.slice none 0 0, .slice none 0 0, .bool false, .slice none 0 0] 27 (0, 0))) ∧ (b 7 = true → wd.heap.size ≤ gx) ∧ (b 8 = true → w'.heap[gx]? = some (.cells #[.slice x0_ sx.length y0_, .slice x1_ cx.length y1_, .bool ax, .slice x3_ qx.length y3_] 27 (0, 0))) ∧ (b 2 = true → (m2_ : Value) = .slice Lk L.length lk) ∧ (b 3 = true → (m3_ : Value) = .tuple #[.agg #[.slice x0_ sx.length y0_, .slice x1_ cx.length y1_, .bool ax, .slice x3_ qx.length y3_], .int .i64 0]) ∧ (b 4 = true → (m4_ : Value) = .tuple #[.agg #[.slice x0_ sx.length y0_, .slice x1_ cx.length y1_, .bool ax, .slice x3_ qx.length y3_], .int .i64 0]) ∧ (b 5 = true → (m5_ : Value) = .agg #[.slice x0_ sx.length y0_, .slice x1_ cx.length y1_, .bool ax, .slice x3_ qx.length y3_]) ∧ (b 7 = true → (m7_ : Value) = .pointer (some ⟨gx, 0, none⟩))) HT_.out HW_.out (by kernel_rfl) (by kernel_rfl) ?_ ?_ ?_
  · exact ⟨none, 0, none, 0, none, 0, none, 0, 0, .bool false, .bool false, .bool false, .bool false, .bool false, by simp only [putSel, Bool.false_eq_true, if_false], HO.out, fun h_ => absurd h_ (by decide), fun h_ => absurd h_ (by decide), fun h_ => absurd h_ (by decide), fun h_ => absurd h_ (by decide), fun h_ => absurd h_ (by decide), fun h_ => absurd h_ (by decide), fun h_ => absurd h_ (by decide), fun h_ => absurd h_ (by decide), fun h_ => absurd h_ (by decide), fun h_ => absurd h_ (by decide), fun h_ => absurd h_ (by decide), fun h_ => absurd h_ (by decide)⟩
  · skip
    clear HO
    refine steps_cons ?_ ?_
    · rintro b a w' ⟨Lk, lk, x0_, y0_, x1_, y1_, x3_, y3_, gx, m2_, m3_, m4_, m5_, m7_, ha, Q_HO, Q_KP, Q_D0, Q_D1, Q_D3, Q_G0, Q_GG, Q_G1, Q_X2_, Q_X3_, Q_X4_, Q_X5_, Q_X7_⟩ hb_ hon hoff
      refine ⟨_, rfl, fun K hK => ?_⟩
      have e7 : a.tmps[7]? = some (.pointer (some ⟨gW, 0, none⟩)) := by rw [ha]; exact (putSel_off rfl).trans rfl
      replace ha := Aside0.mk ha
      have HO := Aside0.mk Q_HO
      obtain ⟨b0_, b1_, b2_, b3_⟩ := (W_15.out.below HO.out).cells
      refine value_ (w1 := w') (v := .agg #[.slice W0 s.length W0c, .slice W1 cw.length W1c, .bool am, .slice W3 q.length W3c]) (by rfl) rfl ?_ ?_
      · go_simp
        (try simp only [i64_w])
        try rfl
      refine hK.out _ _ ⟨Lk, lk, x0_, y0_, x1_, y1_, x3_, y3_, gx, m2_, m3_, m4_, m5_, m7_, (by rw [ha.out]; exact putSel_upk 0 hb_ rfl rfl rfl), Q_HO, Q_KP, fun h0_ => absurd ((hoff 3 (by kernel_rfl)).symm.trans h0_) (by decide), fun h0_ => absurd ((hoff 3 (by kernel_rfl)).symm.trans h0_) (by decide), fun h0_ => absurd ((hoff 3 (by kernel_rfl)).symm.trans h0_) (by decide), Q_G0, Q_GG, fun h0_ => absurd ((hoff 8 (by kernel_rfl)).symm.trans h0_) (by decide), Q_X2_, fun h0_ => absurd ((hoff 3 (by kernel_rfl)).symm.trans h0_) (by decide), fun h0_ => absurd ((hoff 4 (by kernel_rfl)).symm.trans h0_) (by decide), fun h0_ => absurd ((hoff 5 (by kernel_rfl)).symm.trans h0_) (by decide), Q_X7_⟩
    refine steps_cons ?_ ?_
    · rintro b a w' ⟨Lk, lk, x0_, y0_, x1_, y1_, x3_, y3_, gx, m2_, m3_, m4_, m5_, m7_, ha, Q_HO, Q_KP, Q_D0, Q_D1, Q_D3, Q_G0, Q_GG, Q_G1, Q_X2_, Q_X3_, Q_X4_, Q_X5_, Q_X7_⟩ hb_ hon hoff
      refine ⟨_, rfl, fun K hK => ?_⟩
      have e1 : a.tmps[1]? = some (.slice A1 more.length c1) := by rw [ha]; exact (putSel_off rfl).trans rfl
      replace ha := Aside0.mk ha
      refine value_ (w1 := w') (v := .slice A1 more.length c1) (by rfl) rfl ?_ ?_
      · go_simp
        (try simp only [i64_w])
        try rfl
      refine hK.out _ _ ⟨Lk, lk, x0_, y0_, x1_, y1_, x3_, y3_, gx, m2_, m3_, m4_, m5_, m7_, (by rw [ha.out]; exact putSel_upk 1 hb_ rfl rfl rfl), Q_HO, fun h0_ _ => absurd ((hoff 2 (by kernel_rfl)).symm.trans h0_) (by decide), fun h0_ => absurd ((hoff 3 (by kernel_rfl)).symm.trans h0_) (by decide), fun h0_ => absurd ((hoff 3 (by kernel_rfl)).symm.trans h0_) (by decide), fun h0_ => absurd ((hoff 3 (by kernel_rfl)).symm.trans h0_) (by decide), Q_G0, Q_GG, fun h0_ => absurd ((hoff 8 (by kernel_rfl)).symm.trans h0_) (by decide), fun h0_ => absurd ((hoff 2 (by kernel_rfl)).symm.trans h0_) (by decide), fun h0_ => absurd ((hoff 3 (by kernel_rfl)).symm.trans h0_) (by decide), fun h0_ => absurd ((hoff 4 (by kernel_rfl)).symm.trans h0_) (by decide), fun h0_ => absurd ((hoff 5 (by kernel_rfl)).symm.trans h0_) (by decide), Q_X7_⟩
    refine steps_cons ?_ ?_
    · rintro b a w' ⟨Lk, lk, x0_, y0_, x1_, y1_, x3_, y3_, gx, m2_, m3_, m4_, m5_, m7_, ha, Q_HO, Q_KP, Q_D0, Q_D1, Q_D3, Q_G0, Q_GG, Q_G1, Q_X2_, Q_X3_, Q_X4_, Q_X5_, Q_X7_⟩ hb_ hon hoff
      refine ⟨_, rfl, fun K hK => ?_⟩
      have e80 : a.tmps[80]? = some (.slice A1 more.length c1) := on_ ha 1 rfl rfl (hon 1 (by kernel_rfl)) rfl
      replace ha := Aside0.mk ha
      have HO := Aside0.mk Q_HO
      refine goes_ Try.func11 (by kernel_rfl) rfl #[.slice A1 more.length c1] (by rfl) rfl rfl (by first | (simp only [List.map_toArray, List.map_cons, List.map_nil, Act.eval, Array.getD_eq_getD_getElem?, Option.getD_some, e80]; done) | (simp only [List.map_toArray, List.map_cons, List.map_nil, Act.eval, Array.getD_eq_getD_getElem?, Option.getD_some, e80]; rfl)) ?_
      refine (spec_KeepsOf.calls kk (hr0 := Kd.C_below HR1.out (below_step HD15.out HO.out)) (hc0 := hc1) (h := AHK.out)).mono ?_
      rintro e_ w1 ⟨v_, rfl, hr_, hb1⟩
      obtain ⟨Lk_, lk_, ev_, hl_, hc_⟩ := Kd.R_reads hr_
      subst ev_
      refine ⟨_, rfl, ?_⟩
      refine hK.out _ _ ⟨Lk_, lk_, x0_, y0_, x1_, y1_, x3_, y3_, gx, (.slice Lk_ L.length lk_), m3_, m4_, m5_, m7_, (by rw [ha.out]; exact putSel_upk 2 hb_ rfl rfl rfl), below_step HO.out hb1, fun _ _ => ⟨hc_, hl_⟩, fun h0_ => absurd ((hoff 3 (by kernel_rfl)).symm.trans h0_) (by decide), fun h0_ => absurd ((hoff 3 (by kernel_rfl)).symm.trans h0_) (by decide), fun h0_ => absurd ((hoff 3 (by kernel_rfl)).symm.trans h0_) (by decide), fun h0_ h1_ => blk_below (Q_G0 h0_ h1_) hb1, Q_GG, fun h0_ => absurd ((hoff 8 (by kernel_rfl)).symm.trans h0_) (by decide), fun _ => rfl, fun h0_ => absurd ((hoff 3 (by kernel_rfl)).symm.trans h0_) (by decide), fun h0_ => absurd ((hoff 4 (by kernel_rfl)).symm.trans h0_) (by decide), fun h0_ => absurd ((hoff 5 (by kernel_rfl)).symm.trans h0_) (by decide), Q_X7_⟩
    refine steps_cons ?_ ?_
    · rintro b a w' ⟨Lk, lk, x0_, y0_, x1_, y1_, x3_, y3_, gx, m2_, m3_, m4_, m5_, m7_, ha, Q_HO, Q_KP, Q_D0, Q_D1, Q_D3, Q_G0, Q_GG, Q_G1, Q_X2_, Q_X3_, Q_X4_, Q_X5_, Q_X7_⟩ hb_ hon hoff
      refine ⟨_, rfl, fun K hK => ?_⟩
      have e79 : a.tmps[79]? = some (.agg #[.slice W0 s.length W0c, .slice W1 cw.length W1c, .bool am, .slice W3 q.length W3c]) := on_ ha 0 rfl rfl (hon 0 (by kernel_rfl)) rfl
      have e81 : a.tmps[81]? = some (m2_) := on_ ha 2 rfl rfl (hon 2 (by kernel_rfl)) rfl
      rw [Q_X2_ (hon 2 (by kernel_rfl))] at e81
      replace ha := Aside0.mk ha
      have HO := Aside0.mk Q_HO
      have KP := Aside0.mk (Q_KP (hon 2 (by kernel_rfl)) hb_)
      have hw_ := W_15.out.below HO.out
      have hs_ := HO.out.size
      refine goes_ Try.func12 (by kernel_rfl) rfl #[.agg #[.slice W0 s.length W0c, .slice W1 cw.length W1c, .bool am, .slice W3 q.length W3c], .slice Lk L.length lk] (by rfl) rfl rfl (by first | (simp only [List.map_toArray, List.map_cons, List.map_nil, Act.eval, Array.getD_eq_getD_getElem?, Option.getD_some, e79, e81]; done) | (simp only [List.map_toArray, List.map_cons, List.map_nil, Act.eval, Array.getD_eq_getD_getElem?, Option.getD_some, e79, e81]; rfl)) ?_
      refine (spec_DiskCrash.calls kc (hr0_0 := hw_.2.1.1) (hc0_0 := hw_.2.1.2) (hr0_1 := hw_.2.2.1.1) (hc0_1 := hw_.2.2.1.2) (hr0_3 := hw_.2.2.2.1) (hc0_3 := hw_.2.2.2.2) (hr1 := KP.out.1) (hc1 := KP.out.2) (h := AHU.out)).mono ?_
      rintro e_ w1 ⟨v0_, v1_, v3_, rfl, h0_, h1_, h3_, hb1⟩
      obtain ⟨u0_, z0_, ev_, _, _⟩ := Kd.R_reads h0_
      subst ev_
      obtain ⟨u1_, z1_, ev_, _, _⟩ := Kd.R_reads h1_
      subst ev_
      obtain ⟨u3_, z3_, ev_, _, _⟩ := Kd.R_reads h3_
      subst ev_
      refine ⟨_, rfl, ?_⟩
      refine hK.out _ _ ⟨Lk, lk, u0_, z0_, u1_, z1_, u3_, z3_, gx, m2_, (.tuple #[.agg #[.slice u0_ sx.length z0_, .slice u1_ cx.length z1_, .bool ax, .slice u3_ qx.length z3_], .int .i64 0]), m4_, m5_, m7_, (by rw [ha.out]; exact putSel_upk 3 hb_ rfl rfl rfl), below_step HO.out hb1, fun _ h1_ => absurd ((up_self b 3).symm.trans h1_) (by decide), fun _ => Kd.R_lower h0_ hs_, fun _ => Kd.R_lower h1_ hs_, fun _ => Kd.R_lower h3_ hs_, fun h0_ h1_ => blk_below (Q_G0 h0_ h1_) hb1, Q_GG, fun h0_ => absurd ((hoff 8 (by kernel_rfl)).symm.trans h0_) (by decide), Q_X2_, fun _ => rfl, fun h0_ => absurd ((hoff 4 (by kernel_rfl)).symm.trans h0_) (by decide), fun h0_ => absurd ((hoff 5 (by kernel_rfl)).symm.trans h0_) (by decide), Q_X7_⟩
    refine steps_cons ?_ ?_
    · rintro b a w' ⟨Lk, lk, x0_, y0_, x1_, y1_, x3_, y3_, gx, m2_, m3_, m4_, m5_, m7_, ha, Q_HO, Q_KP, Q_D0, Q_D1, Q_D3, Q_G0, Q_GG, Q_G1, Q_X2_, Q_X3_, Q_X4_, Q_X5_, Q_X7_⟩ hb_ hon hoff
      refine ⟨_, rfl, fun K hK => ?_⟩
      have e82 : a.tmps[82]? = some (m3_) := on_ ha 3 rfl rfl (hon 3 (by kernel_rfl)) rfl
      rw [Q_X3_ (hon 3 (by kernel_rfl))] at e82
      replace ha := Aside0.mk ha
      refine value_ (w1 := w') (v := .tuple #[.agg #[.slice x0_ sx.length y0_, .slice x1_ cx.length y1_, .bool ax, .slice x3_ qx.length y3_], .int .i64 0]) (by rfl) rfl ?_ ?_
      · go_simp
        (try simp only [i64_w])
        try rfl
      refine hK.out _ _ ⟨Lk, lk, x0_, y0_, x1_, y1_, x3_, y3_, gx, m2_, m3_, (.tuple #[.agg #[.slice x0_ sx.length y0_, .slice x1_ cx.length y1_, .bool ax, .slice x3_ qx.length y3_], .int .i64 0]), m5_, m7_, (by rw [ha.out]; exact putSel_upk 4 hb_ rfl rfl rfl), Q_HO, fun _ h1_ => absurd ((hon 3 (by kernel_rfl)).symm.trans h1_) (by decide), Q_D0, Q_D1, Q_D3, Q_G0, Q_GG, fun h0_ => absurd ((hoff 8 (by kernel_rfl)).symm.trans h0_) (by decide), Q_X2_, Q_X3_, fun _ => rfl, fun h0_ => absurd ((hoff 5 (by kernel_rfl)).symm.trans h0_) (by decide), Q_X7_⟩
    refine steps_cons ?_ ?_
    · rintro b a w' ⟨Lk, lk, x0_, y0_, x1_, y1_, x3_, y3_, gx, m2_, m3_, m4_, m5_, m7_, ha, Q_HO, Q_KP, Q_D0, Q_D1, Q_D3, Q_G0, Q_GG, Q_G1, Q_X2_, Q_X3_, Q_X4_, Q_X5_, Q_X7_⟩ hb_ hon hoff
      refine ⟨_, rfl, fun K hK => ?_⟩
      have e78 : a.tmps[78]? = some (m4_) := on_ ha 4 rfl rfl (hon 4 (by kernel_rfl)) rfl
      rw [Q_X4_ (hon 4 (by kernel_rfl))] at e78
      replace ha := Aside0.mk ha
      refine value_ (w1 := w') (v := .agg #[.slice x0_ sx.length y0_, .slice x1_ cx.length y1_, .bool ax, .slice x3_ qx.length y3_]) (by rfl) rfl ?_ ?_
      · go_simp
        (try simp only [i64_w])
        try rfl
      refine hK.out _ _ ⟨Lk, lk, x0_, y0_, x1_, y1_, x3_, y3_, gx, m2_, m3_, m4_, (.agg #[.slice x0_ sx.length y0_, .slice x1_ cx.length y1_, .bool ax, .slice x3_ qx.length y3_]), m7_, (by rw [ha.out]; exact putSel_upk 5 hb_ rfl rfl rfl), Q_HO, fun _ h1_ => absurd ((hon 3 (by kernel_rfl)).symm.trans h1_) (by decide), Q_D0, Q_D1, Q_D3, Q_G0, Q_GG, fun h0_ => absurd ((hoff 8 (by kernel_rfl)).symm.trans h0_) (by decide), Q_X2_, Q_X3_, Q_X4_, fun _ => rfl, Q_X7_⟩
    refine steps_cons ?_ ?_
    · rintro b a w' ⟨Lk, lk, x0_, y0_, x1_, y1_, x3_, y3_, gx, m2_, m3_, m4_, m5_, m7_, ha, Q_HO, Q_KP, Q_D0, Q_D1, Q_D3, Q_G0, Q_GG, Q_G1, Q_X2_, Q_X3_, Q_X4_, Q_X5_, Q_X7_⟩ hb_ hon hoff
      refine ⟨_, rfl, fun K hK => ?_⟩
      have e78 : a.tmps[78]? = some (m4_) := on_ ha 4 rfl rfl (hon 4 (by kernel_rfl)) rfl
      rw [Q_X4_ (hon 4 (by kernel_rfl))] at e78
      replace ha := Aside0.mk ha
      refine value_ (w1 := w') (v := .int .i64 0) (by rfl) rfl ?_ ?_
      · go_simp
        (try simp only [i64_w])
        try rfl
      refine hK.out _ _ ⟨Lk, lk, x0_, y0_, x1_, y1_, x3_, y3_, gx, m2_, m3_, m4_, m5_, m7_, (by rw [ha.out]; exact putSel_upk 6 hb_ rfl rfl rfl), Q_HO, fun _ h1_ => absurd ((hon 3 (by kernel_rfl)).symm.trans h1_) (by decide), Q_D0, Q_D1, Q_D3, Q_G0, Q_GG, Q_G1, Q_X2_, Q_X3_, Q_X4_, Q_X5_, Q_X7_⟩
    refine steps_cons ?_ ?_
    · rintro b a w' ⟨Lk, lk, x0_, y0_, x1_, y1_, x3_, y3_, gx, m2_, m3_, m4_, m5_, m7_, ha, Q_HO, Q_KP, Q_D0, Q_D1, Q_D3, Q_G0, Q_GG, Q_G1, Q_X2_, Q_X3_, Q_X4_, Q_X5_, Q_X7_⟩ hb_ hon hoff
      refine ⟨_, rfl, fun K hK => ?_⟩
      replace ha := Aside0.mk ha
      have HO := Aside0.mk Q_HO
      refine value_ (w1 := w'.alloc (.cells #[.slice none 0 0, .slice none 0 0, .bool false, .slice none 0 0] 27 (0, 0))) (v := .pointer (some ⟨w'.heap.size, 0, none⟩)) (by rfl) rfl ?_ ?_
      · go_simp
        try rfl
      refine hK.out _ _ ⟨Lk, lk, x0_, y0_, x1_, y1_, x3_, y3_, w'.heap.size, m2_, m3_, m4_, m5_, (.pointer (some ⟨w'.heap.size, 0, none⟩)), (by rw [ha.out]; exact putSel_upk 7 hb_ rfl rfl rfl), below_alloc HO.out _, fun h0_ h1_ => ⟨Kd.C_alloc (Q_KP h0_ h1_).1 _, (Q_KP h0_ h1_).2⟩, fun h0_ => Kd.R_alloc (Q_D0 h0_) _, fun h0_ => Kd.R_alloc (Q_D1 h0_) _, fun h0_ => Kd.R_alloc (Q_D3 h0_) _, fun _ _ => blk_new w' _, fun _ => HO.out.size, fun h0_ => absurd ((hoff 8 (by kernel_rfl)).symm.trans h0_) (by decide), Q_X2_, Q_X3_, Q_X4_, Q_X5_, fun _ => rfl⟩
    refine steps_cons ?_ ?_
    · rintro b a w' ⟨Lk, lk, x0_, y0_, x1_, y1_, x3_, y3_, gx, m2_, m3_, m4_, m5_, m7_, ha, Q_HO, Q_KP, Q_D0, Q_D1, Q_D3, Q_G0, Q_GG, Q_G1, Q_X2_, Q_X3_, Q_X4_, Q_X5_, Q_X7_⟩ hb_ hon hoff
      refine ⟨_, rfl, fun K hK => ?_⟩
      have e18 : a.tmps[18]? = some (m7_) := on_ ha 7 rfl rfl (hon 7 (by kernel_rfl)) rfl
      rw [Q_X7_ (hon 7 (by kernel_rfl))] at e18
      have e83 : a.tmps[83]? = some (m5_) := on_ ha 5 rfl rfl (hon 5 (by kernel_rfl)) rfl
      rw [Q_X5_ (hon 5 (by kernel_rfl))] at e83
      replace ha := Aside0.mk ha
      have HO := Aside0.mk Q_HO
      have D0 := Aside0.mk (Q_D0 (hon 3 (by kernel_rfl)))
      have D1 := Aside0.mk (Q_D1 (hon 3 (by kernel_rfl)))
      have D3 := Aside0.mk (Q_D3 (hon 3 (by kernel_rfl)))
      have G0 := Aside0.mk (Q_G0 (hon 7 (by kernel_rfl)) hb_)
      have GG := Aside0.mk (Q_GG (hon 7 (by kernel_rfl)))
      obtain ⟨z0_, z1_, z2_, z3_, y4_, y5_, y6_, y7_⟩ := cells4 G0.out
      refine skip_ (w1 := (((w'.setCell ⟨gx, 0, none⟩ (.slice x0_ sx.length y0_)).setCell ⟨gx, 1, none⟩ (.slice x1_ cx.length y1_)).setCell ⟨gx, 2, none⟩ (.bool ax)).setCell ⟨gx, 3, none⟩ (.slice x3_ qx.length y3_)) (by rfl) rfl ?_ ?_
      · go_simp
      refine hK.out _ _ ⟨Lk, lk, x0_, y0_, x1_, y1_, x3_, y3_, gx, m2_, m3_, m4_, m5_, m7_, (by rw [ha.out]; exact putSel_none (v := undef) rfl), set4_below HO.out GG.out _ _ _ _, fun _ h1_ => absurd ((hon 3 (by kernel_rfl)).symm.trans h1_) (by decide), fun _ => R_set4 D0.out G0.out (ne_string (by decide)) _ _ _ _, fun _ => R_set4 D1.out G0.out (ne_pend (by decide)) _ _ _ _, fun _ => R_set4 D3.out G0.out (ne_ints (by decide)) _ _ _ _, fun _ h1_ => absurd ((up_self b 8).symm.trans h1_) (by decide), Q_GG, fun _ => set4_blk G0.out _ _ _ _, Q_X2_, Q_X3_, Q_X4_, Q_X5_, Q_X7_⟩
    refine steps_cons ?_ ?_
    · rintro b a w' ⟨Lk, lk, x0_, y0_, x1_, y1_, x3_, y3_, gx, m2_, m3_, m4_, m5_, m7_, ha, Q_HO, Q_KP, Q_D0, Q_D1, Q_D3, Q_G0, Q_GG, Q_G1, Q_X2_, Q_X3_, Q_X4_, Q_X5_, Q_X7_⟩ hb_ hon hoff
      refine ⟨_, rfl, fun K hK => ?_⟩
      have e84 : a.tmps[84]? = some (.int .i64 0) := on_ ha 6 rfl rfl (hon 6 (by kernel_rfl)) rfl
      replace ha := Aside0.mk ha
      refine value_ (w1 := w') (v := .int .i64 0) (by rfl) rfl ?_ ?_
      · go_simp
        (try simp only [i64_w])
        try rfl
      refine hK.out _ _ ⟨Lk, lk, x0_, y0_, x1_, y1_, x3_, y3_, gx, m2_, m3_, m4_, m5_, m7_, (by rw [ha.out]; exact putSel_upk 8 hb_ rfl rfl rfl), Q_HO, fun _ h1_ => absurd ((hon 3 (by kernel_rfl)).symm.trans h1_) (by decide), Q_D0, Q_D1, Q_D3, fun _ h1_ => absurd ((hon 8 (by kernel_rfl)).symm.trans h1_) (by decide), Q_GG, Q_G1, Q_X2_, Q_X3_, Q_X4_, Q_X5_, Q_X7_⟩
    exact steps_nil
  rintro b a wE10 hall ⟨Lk, lk, x0_, y0_, x1_, y1_, x3_, y3_, gx, m2_, m3_, m4_, m5_, m7_, ha, Q_HO, Q_KP, Q_D0, Q_D1, Q_D3, Q_G0, Q_GG, Q_G1, Q_X2_, Q_X3_, Q_X4_, Q_X5_, Q_X7_⟩
  clear HO
  have hb0_ := hall 0 (by kernel_rfl)
  have hb1_ := hall 1 (by kernel_rfl)
  have hb2_ := hall 2 (by kernel_rfl)
  have hb3_ := hall 3 (by kernel_rfl)
  have hb4_ := hall 4 (by kernel_rfl)
  have hb5_ := hall 5 (by kernel_rfl)
  have hb6_ := hall 6 (by kernel_rfl)
  have hb7_ := hall 7 (by kernel_rfl)
  have hb8_ := hall 8 (by kernel_rfl)
  have hb9_ := hall 9 (by kernel_rfl)
  subst ha
  obtain rfl := Q_X2_ hb2_
  obtain rfl := Q_X3_ hb3_
  obtain rfl := Q_X4_ hb4_
  obtain rfl := Q_X5_ hb5_
  obtain rfl := Q_X7_ hb7_
  simp only [putSel, hb0_, hb1_, hb2_, hb3_, hb4_, hb5_, hb6_, hb7_, hb8_, hb9_, if_true, Act.put, List.setIfInBounds_toArray, List.set_cons_zero, List.set_cons_succ]
  have HO := Aside0.mk Q_HO
  clear Q_HO
  clear Q_KP
  have D0 := Aside0.mk (Q_D0 hb3_)
  clear Q_D0
  have D1 := Aside0.mk (Q_D1 hb3_)
  clear Q_D1
  have D3 := Aside0.mk (Q_D3 hb3_)
  clear Q_D3
  clear Q_G0
  have GG := Aside0.mk (Q_GG hb7_)
  clear Q_GG
  have G1 := Aside0.mk (Q_G1 hb8_)
  clear Q_G1
  clear hall hb0_ hb1_ hb2_ hb3_ hb4_ hb5_ hb6_ hb7_ hb8_ hb9_
  have U_16 := Aside0.mk (show BD wE10 gx x0_ y0_ sx x1_ y1_ cx ax x3_ y3_ qx from ⟨G1.out, ⟨(Kd.R_reads' D0.out).2.2, (Kd.R_reads' D0.out).2.1⟩, ⟨(Kd.R_reads' D1.out).2.2, (Kd.R_reads' D1.out).2.1⟩, ⟨(Kd.R_reads' D3.out).2.2, (Kd.R_reads' D3.out).2.1⟩⟩)
  have HB17 := Aside0.mk (below_step HD15.out HO.out)
  have K_17 := Aside0.mk (blk_below K_15.out HO.out)
  have W_17 := Aside0.mk (W_15.out.below HO.out)
  have T_17 := Aside0.mk (T_15.out.below HO.out)
  have Y_17 := Aside0.mk (Y_15.out.below HO.out)
  have X_17 := Aside0.mk (X_15.out.below HO.out)
  clear HD15 K_15 W_15 T_15 Y_15 X_15
  clear HO D0 D1 D3 GG G1
  obtain ⟨U0, r_U0⟩ : ∃ z, z = x0_ := ⟨_, rfl⟩
  obtain ⟨U0c, r_U0c⟩ : ∃ z, z = y0_ := ⟨_, rfl⟩
  obtain ⟨U1, r_U1⟩ : ∃ z, z = x1_ := ⟨_, rfl⟩
  obtain ⟨U1c, r_U1c⟩ : ∃ z, z = y1_ := ⟨_, rfl⟩
  obtain ⟨U3, r_U3⟩ : ∃ z, z = x3_ := ⟨_, rfl⟩
  obtain ⟨U3c, r_U3c⟩ : ∃ z, z = y3_ := ⟨_, rfl⟩
  obtain ⟨gU, r_gU⟩ : ∃ z, z = gx := ⟨_, rfl⟩
  rw [← r_U0, ← r_U0c, ← r_U1, ← r_U1c, ← r_U3, ← r_U3c, ← r_gU] at U_16
  simp only [← r_U0, ← r_U0c, ← r_U1, ← r_U1c, ← r_U3, ← r_U3c, ← r_gU]
  clear r_U0 r_U0c r_U1 r_U1c r_U3 r_U3c r_gU
  go_upto_region 11 with fail
  have HD18 := Aside0.mk (below_drew HB17.out)
  have K_18 := Aside0.mk (blk_drew K_17.out)
  have W_18 := Aside0.mk (W_17.out.below (below_drew (Below.refl _ _)))
  have T_18 := Aside0.mk (T_17.out.below (below_drew (Below.refl _ _)))
  have Y_18 := Aside0.mk (Y_17.out.below (below_drew (Below.refl _ _)))
  have X_18 := Aside0.mk (X_17.out.below (below_drew (Below.refl _ _)))
  have U_18 := Aside0.mk (U_16.out.below (below_drew (Below.refl _ _)))
  clear HB17 K_17 W_17 T_17 Y_17 X_17 U_16
  have HO := Aside0.mk (Below.refl (wE10).drew.heap.size (wE10).drew)
  refine start_ (n := 10) (S := fun w' => True) (ds := []) #[false, false, false, false, false, false, false, false, false, false] (by kernel_rfl) rfl rfl trivial (fun hHeld => ?_)
  refine with_tabW fnDisk.tab11 fnDisk.bits11 (fun HT_ HW_ => ?_)
  generalize wE10.drew = wd at HO HD18 K_18 W_18 T_18 Y_18 X_18 U_18 ⊢
  refine inv_at [0, 1, 2, 3, 4, 5, 6, 7, 8, 9] (fun a0_ b a w' => ∃ (Lk : Option Addr) (lk : Nat) (x0_ : Option Addr) (y0_ : Nat) (x1_ : Option Addr) (y1_ : Nat) (x3_ : Option Addr) (y3_ : Nat) (gx : Nat) (m2_ : Value) (m3_ : Value) (m4_ : Value) (m5_ : Value) (m7_ : Value), a = putSel a0_ b [(0, 86, .agg #[.slice W0 s.length W0c, .slice W1 cw.length W1c, .bool am, .slice W3 q.length W3c]), (1, 87, .slice A1 more.length c1), (2, 88, m2_), (3, 89, m3_), (4, 85, m4_), (5, 90, m5_), (6, 91, .int .i64 0), (7, 20, m7_), (9, 21, .int .i64 0)] ∧ (Below wd.heap.size wd w') ∧ (b 2 = true → b 3 = false → Kd.C (Kd.int .i64) w' Lk L.length L ∧ L.length ≤ lk) ∧ (b 3 = true → Kd.R Kd.string 9 w' wd.heap.size (fun _ => True) (.slice x0_ s.length y0_) s) ∧ (b 3 = true → Kd.R k54 54 w' wd.heap.size (fun _ => True) (.slice x1_ cw.length y1_) cw) ∧ (b 3 = true → Kd.R (Kd.int .i64) 3 w' wd.heap.size (fun _ => True) (.slice x3_ L.length y3_) L) ∧ (b 7 = true → b 8 = false → w'.heap[gx]? = some (.cells #[.slice none 0 0, .slice none 0 0, .bool false, .slice none 0 0] 27 (0, 0))) ∧ (b 7 = true → wd.heap.size ≤ gx) ∧ (b 8 = true → w'.heap[gx]? = some (.cells #[.slice x0_ s.length y0_, .slice x1_ cw.length y1_, .bool true, .slice x3_ L.length y3_] 27 (0, 0))) ∧ (b 2 = true → (m2_ : Value) = .slice Lk L.length lk) ∧ (b 3 = true → (m3_ : Value) = .tuple #[.agg #[.slice x0_ s.length y0_, .slice x1_ cw.length y1_, .bool true, .slice x3_ L.length y3_], .int .i64 0]) ∧ (b 4 = true → (m4_ : Value) = .tuple #[.agg #[.slice x0_ s.length y0_, .slice x1_ cw.length y1_, .bool true, .slice x3_ L.length y3_], .int .i64 0]) ∧ (b 5 = true → (m5_ : Value) = .agg #[.slice x0_ s.length y0_, .slice x1_ cw.length y1_, .bool true, .slice x3_ L.length y3_]) ∧ (b 7 = true → (m7_ : Value) = .pointer (some ⟨gx, 0, none⟩))) HT_.out HW_.out (by kernel_rfl) (by kernel_rfl) ?_ ?_ ?_
  · exact ⟨none, 0, none, 0, none, 0, none, 0, 0, .bool false, .bool false, .bool false, .bool false, .bool false, by simp only [putSel, Bool.false_eq_true, if_false], HO.out, fun h_ => absurd h_ (by decide), fun h_ => absurd h_ (by decide), fun h_ => absurd h_ (by decide), fun h_ => absurd h_ (by decide), fun h_ => absurd h_ (by decide), fun h_ => absurd h_ (by decide), fun h_ => absurd h_ (by decide), fun h_ => absurd h_ (by decide), fun h_ => absurd h_ (by decide), fun h_ => absurd h_ (by decide), fun h_ => absurd h_ (by decide), fun h_ => absurd h_ (by decide)⟩
  · skip
    clear HO
    refine steps_cons ?_ ?_
    · rintro b a w' ⟨Lk, lk, x0_, y0_, x1_, y1_, x3_, y3_, gx, m2_, m3_, m4_, m5_, m7_, ha, Q_HO, Q_KP, Q_D0, Q_D1, Q_D3, Q_G0, Q_GG, Q_G1, Q_X2_, Q_X3_, Q_X4_, Q_X5_, Q_X7_⟩ hb_ hon hoff
      refine ⟨_, rfl, fun K hK => ?_⟩
      have e7 : a.tmps[7]? = some (.pointer (some ⟨gW, 0, none⟩)) := by rw [ha]; exact (putSel_off rfl).trans rfl
      replace ha := Aside0.mk ha
      have HO := Aside0.mk Q_HO
      obtain ⟨b0_, b1_, b2_, b3_⟩ := (W_18.out.below HO.out).cells
      refine value_ (w1 := w') (v := .agg #[.slice W0 s.length W0c, .slice W1 cw.length W1c, .bool am, .slice W3 q.length W3c]) (by rfl) rfl ?_ ?_
      · go_simp
        (try simp only [i64_w])
        try rfl
      refine hK.out _ _ ⟨Lk, lk, x0_, y0_, x1_, y1_, x3_, y3_, gx, m2_, m3_, m4_, m5_, m7_, (by rw [ha.out]; exact putSel_upk 0 hb_ rfl rfl rfl), Q_HO, Q_KP, fun h0_ => absurd ((hoff 3 (by kernel_rfl)).symm.trans h0_) (by decide), fun h0_ => absurd ((hoff 3 (by kernel_rfl)).symm.trans h0_) (by decide), fun h0_ => absurd ((hoff 3 (by kernel_rfl)).symm.trans h0_) (by decide), Q_G0, Q_GG, fun h0_ => absurd ((hoff 8 (by kernel_rfl)).symm.trans h0_) (by decide), Q_X2_, fun h0_ => absurd ((hoff 3 (by kernel_rfl)).symm.trans h0_) (by decide), fun h0_ => absurd ((hoff 4 (by kernel_rfl)).symm.trans h0_) (by decide), fun h0_ => absurd ((hoff 5 (by kernel_rfl)).symm.trans h0_) (by decide), Q_X7_⟩
    refine steps_cons ?_ ?_
    · rintro b a w' ⟨Lk, lk, x0_, y0_, x1_, y1_, x3_, y3_, gx, m2_, m3_, m4_, m5_, m7_, ha, Q_HO, Q_KP, Q_D0, Q_D1, Q_D3, Q_G0, Q_GG, Q_G1, Q_X2_, Q_X3_, Q_X4_, Q_X5_, Q_X7_⟩ hb_ hon hoff
      refine ⟨_, rfl, fun K hK => ?_⟩
      have e1 : a.tmps[1]? = some (.slice A1 more.length c1) := by rw [ha]; exact (putSel_off rfl).trans rfl
      replace ha := Aside0.mk ha
      refine value_ (w1 := w') (v := .slice A1 more.length c1) (by rfl) rfl ?_ ?_
      · go_simp
        (try simp only [i64_w])
        try rfl
      refine hK.out _ _ ⟨Lk, lk, x0_, y0_, x1_, y1_, x3_, y3_, gx, m2_, m3_, m4_, m5_, m7_, (by rw [ha.out]; exact putSel_upk 1 hb_ rfl rfl rfl), Q_HO, fun h0_ _ => absurd ((hoff 2 (by kernel_rfl)).symm.trans h0_) (by decide), fun h0_ => absurd ((hoff 3 (by kernel_rfl)).symm.trans h0_) (by decide), fun h0_ => absurd ((hoff 3 (by kernel_rfl)).symm.trans h0_) (by decide), fun h0_ => absurd ((hoff 3 (by kernel_rfl)).symm.trans h0_) (by decide), Q_G0, Q_GG, fun h0_ => absurd ((hoff 8 (by kernel_rfl)).symm.trans h0_) (by decide), fun h0_ => absurd ((hoff 2 (by kernel_rfl)).symm.trans h0_) (by decide), fun h0_ => absurd ((hoff 3 (by kernel_rfl)).symm.trans h0_) (by decide), fun h0_ => absurd ((hoff 4 (by kernel_rfl)).symm.trans h0_) (by decide), fun h0_ => absurd ((hoff 5 (by kernel_rfl)).symm.trans h0_) (by decide), Q_X7_⟩
    refine steps_cons ?_ ?_
    · rintro b a w' ⟨Lk, lk, x0_, y0_, x1_, y1_, x3_, y3_, gx, m2_, m3_, m4_, m5_, m7_, ha, Q_HO, Q_KP, Q_D0, Q_D1, Q_D3, Q_G0, Q_GG, Q_G1, Q_X2_, Q_X3_, Q_X4_, Q_X5_, Q_X7_⟩ hb_ hon hoff
      refine ⟨_, rfl, fun K hK => ?_⟩
      have e87 : a.tmps[87]? = some (.slice A1 more.length c1) := on_ ha 1 rfl rfl (hon 1 (by kernel_rfl)) rfl
      replace ha := Aside0.mk ha
      have HO := Aside0.mk Q_HO
      refine goes_ Try.func11 (by kernel_rfl) rfl #[.slice A1 more.length c1] (by rfl) rfl rfl (by first | (simp only [List.map_toArray, List.map_cons, List.map_nil, Act.eval, Array.getD_eq_getD_getElem?, Option.getD_some, e87]; done) | (simp only [List.map_toArray, List.map_cons, List.map_nil, Act.eval, Array.getD_eq_getD_getElem?, Option.getD_some, e87]; rfl)) ?_
      refine (spec_KeepsOf.calls kk (hr0 := Kd.C_below HR1.out (below_step HD18.out HO.out)) (hc0 := hc1) (h := AHK.out)).mono ?_
      rintro e_ w1 ⟨v_, rfl, hr_, hb1⟩
      obtain ⟨Lk_, lk_, ev_, hl_, hc_⟩ := Kd.R_reads hr_
      subst ev_
      refine ⟨_, rfl, ?_⟩
      refine hK.out _ _ ⟨Lk_, lk_, x0_, y0_, x1_, y1_, x3_, y3_, gx, (.slice Lk_ L.length lk_), m3_, m4_, m5_, m7_, (by rw [ha.out]; exact putSel_upk 2 hb_ rfl rfl rfl), below_step HO.out hb1, fun _ _ => ⟨hc_, hl_⟩, fun h0_ => absurd ((hoff 3 (by kernel_rfl)).symm.trans h0_) (by decide), fun h0_ => absurd ((hoff 3 (by kernel_rfl)).symm.trans h0_) (by decide), fun h0_ => absurd ((hoff 3 (by kernel_rfl)).symm.trans h0_) (by decide), fun h0_ h1_ => blk_below (Q_G0 h0_ h1_) hb1, Q_GG, fun h0_ => absurd ((hoff 8 (by kernel_rfl)).symm.trans h0_) (by decide), fun _ => rfl, fun h0_ => absurd ((hoff 3 (by kernel_rfl)).symm.trans h0_) (by decide), fun h0_ => absurd ((hoff 4 (by kernel_rfl)).symm.trans h0_) (by decide), fun h0_ => absurd ((hoff 5 (by kernel_rfl)).symm.trans h0_) (by decide), Q_X7_⟩
    refine steps_cons ?_ ?_
    · rintro b a w' ⟨Lk, lk, x0_, y0_, x1_, y1_, x3_, y3_, gx, m2_, m3_, m4_, m5_, m7_, ha, Q_HO, Q_KP, Q_D0, Q_D1, Q_D3, Q_G0, Q_GG, Q_G1, Q_X2_, Q_X3_, Q_X4_, Q_X5_, Q_X7_⟩ hb_ hon hoff
      refine ⟨_, rfl, fun K hK => ?_⟩
      have e86 : a.tmps[86]? = some (.agg #[.slice W0 s.length W0c, .slice W1 cw.length W1c, .bool am, .slice W3 q.length W3c]) := on_ ha 0 rfl rfl (hon 0 (by kernel_rfl)) rfl
      have e88 : a.tmps[88]? = some (m2_) := on_ ha 2 rfl rfl (hon 2 (by kernel_rfl)) rfl
      rw [Q_X2_ (hon 2 (by kernel_rfl))] at e88
      replace ha := Aside0.mk ha
      have HO := Aside0.mk Q_HO
      have KP := Aside0.mk (Q_KP (hon 2 (by kernel_rfl)) hb_)
      have hw_ := W_18.out.below HO.out
      have hs_ := HO.out.size
      refine goes_ Try.func13 (by kernel_rfl) rfl #[.agg #[.slice W0 s.length W0c, .slice W1 cw.length W1c, .bool am, .slice W3 q.length W3c], .slice Lk L.length lk] (by rfl) rfl rfl (by first | (simp only [List.map_toArray, List.map_cons, List.map_nil, Act.eval, Array.getD_eq_getD_getElem?, Option.getD_some, e86, e88]; done) | (simp only [List.map_toArray, List.map_cons, List.map_nil, Act.eval, Array.getD_eq_getD_getElem?, Option.getD_some, e86, e88]; rfl)) ?_
      refine (impl_DiskArm.calls (hr0_0 := hw_.2.1.1) (hc0_0 := hw_.2.1.2) (hr0_1 := hw_.2.2.1.1) (hc0_1 := hw_.2.2.1.2) (hr0_3 := hw_.2.2.2.1) (hc0_3 := hw_.2.2.2.2) (hr1 := KP.out.1) (hc1 := KP.out.2) (h := AHVm.out)).mono ?_
      rintro e_ w1 ⟨v0_, v1_, v3_, rfl, h0_, h1_, h3_, hb1⟩
      obtain ⟨u0_, z0_, ev_, _, _⟩ := Kd.R_reads h0_
      subst ev_
      obtain ⟨u1_, z1_, ev_, _, _⟩ := Kd.R_reads h1_
      subst ev_
      obtain ⟨u3_, z3_, ev_, _, _⟩ := Kd.R_reads h3_
      subst ev_
      refine ⟨_, rfl, ?_⟩
      refine hK.out _ _ ⟨Lk, lk, u0_, z0_, u1_, z1_, u3_, z3_, gx, m2_, (.tuple #[.agg #[.slice u0_ s.length z0_, .slice u1_ cw.length z1_, .bool true, .slice u3_ L.length z3_], .int .i64 0]), m4_, m5_, m7_, (by rw [ha.out]; exact putSel_upk 3 hb_ rfl rfl rfl), below_step HO.out hb1, fun _ h1_ => absurd ((up_self b 3).symm.trans h1_) (by decide), fun _ => Kd.R_lower h0_ hs_, fun _ => Kd.R_lower h1_ hs_, fun _ => Kd.R_lower h3_ hs_, fun h0_ h1_ => blk_below (Q_G0 h0_ h1_) hb1, Q_GG, fun h0_ => absurd ((hoff 8 (by kernel_rfl)).symm.trans h0_) (by decide), Q_X2_, fun _ => rfl, fun h0_ => absurd ((hoff 4 (by kernel_rfl)).symm.trans h0_) (by decide), fun h0_ => absurd ((hoff 5 (by kernel_rfl)).symm.trans h0_) (by decide), Q_X7_⟩
    refine steps_cons ?_ ?_
    · rintro b a w' ⟨Lk, lk, x0_, y0_, x1_, y1_, x3_, y3_, gx, m2_, m3_, m4_, m5_, m7_, ha, Q_HO, Q_KP, Q_D0, Q_D1, Q_D3, Q_G0, Q_GG, Q_G1, Q_X2_, Q_X3_, Q_X4_, Q_X5_, Q_X7_⟩ hb_ hon hoff
      refine ⟨_, rfl, fun K hK => ?_⟩
      have e89 : a.tmps[89]? = some (m3_) := on_ ha 3 rfl rfl (hon 3 (by kernel_rfl)) rfl
      rw [Q_X3_ (hon 3 (by kernel_rfl))] at e89
      replace ha := Aside0.mk ha
      refine value_ (w1 := w') (v := .tuple #[.agg #[.slice x0_ s.length y0_, .slice x1_ cw.length y1_, .bool true, .slice x3_ L.length y3_], .int .i64 0]) (by rfl) rfl ?_ ?_
      · go_simp
        (try simp only [i64_w])
        try rfl
      refine hK.out _ _ ⟨Lk, lk, x0_, y0_, x1_, y1_, x3_, y3_, gx, m2_, m3_, (.tuple #[.agg #[.slice x0_ s.length y0_, .slice x1_ cw.length y1_, .bool true, .slice x3_ L.length y3_], .int .i64 0]), m5_, m7_, (by rw [ha.out]; exact putSel_upk 4 hb_ rfl rfl rfl), Q_HO, fun _ h1_ => absurd ((hon 3 (by kernel_rfl)).symm.trans h1_) (by decide), Q_D0, Q_D1, Q_D3, Q_G0, Q_GG, fun h0_ => absurd ((hoff 8 (by kernel_rfl)).symm.trans h0_) (by decide), Q_X2_, Q_X3_, fun _ => rfl, fun h0_ => absurd ((hoff 5 (by kernel_rfl)).symm.trans h0_) (by decide), Q_X7_⟩
    refine steps_cons ?_ ?_
    · rintro b a w' ⟨Lk, lk, x0_, y0_, x1_, y1_, x3_, y3_, gx, m2_, m3_, m4_, m5_, m7_, ha, Q_HO, Q_KP, Q_D0, Q_D1, Q_D3, Q_G0, Q_GG, Q_G1, Q_X2_, Q_X3_, Q_X4_, Q_X5_, Q_X7_⟩ hb_ hon hoff
      refine ⟨_, rfl, fun K hK => ?_⟩
      have e85 : a.tmps[85]? = some (m4_) := on_ ha 4 rfl rfl (hon 4 (by kernel_rfl)) rfl
      rw [Q_X4_ (hon 4 (by kernel_rfl))] at e85
      replace ha := Aside0.mk ha
      refine value_ (w1 := w') (v := .agg #[.slice x0_ s.length y0_, .slice x1_ cw.length y1_, .bool true, .slice x3_ L.length y3_]) (by rfl) rfl ?_ ?_
      · go_simp
        (try simp only [i64_w])
        try rfl
      refine hK.out _ _ ⟨Lk, lk, x0_, y0_, x1_, y1_, x3_, y3_, gx, m2_, m3_, m4_, (.agg #[.slice x0_ s.length y0_, .slice x1_ cw.length y1_, .bool true, .slice x3_ L.length y3_]), m7_, (by rw [ha.out]; exact putSel_upk 5 hb_ rfl rfl rfl), Q_HO, fun _ h1_ => absurd ((hon 3 (by kernel_rfl)).symm.trans h1_) (by decide), Q_D0, Q_D1, Q_D3, Q_G0, Q_GG, fun h0_ => absurd ((hoff 8 (by kernel_rfl)).symm.trans h0_) (by decide), Q_X2_, Q_X3_, Q_X4_, fun _ => rfl, Q_X7_⟩
    refine steps_cons ?_ ?_
    · rintro b a w' ⟨Lk, lk, x0_, y0_, x1_, y1_, x3_, y3_, gx, m2_, m3_, m4_, m5_, m7_, ha, Q_HO, Q_KP, Q_D0, Q_D1, Q_D3, Q_G0, Q_GG, Q_G1, Q_X2_, Q_X3_, Q_X4_, Q_X5_, Q_X7_⟩ hb_ hon hoff
      refine ⟨_, rfl, fun K hK => ?_⟩
      have e85 : a.tmps[85]? = some (m4_) := on_ ha 4 rfl rfl (hon 4 (by kernel_rfl)) rfl
      rw [Q_X4_ (hon 4 (by kernel_rfl))] at e85
      replace ha := Aside0.mk ha
      refine value_ (w1 := w') (v := .int .i64 0) (by rfl) rfl ?_ ?_
      · go_simp
        (try simp only [i64_w])
        try rfl
      refine hK.out _ _ ⟨Lk, lk, x0_, y0_, x1_, y1_, x3_, y3_, gx, m2_, m3_, m4_, m5_, m7_, (by rw [ha.out]; exact putSel_upk 6 hb_ rfl rfl rfl), Q_HO, fun _ h1_ => absurd ((hon 3 (by kernel_rfl)).symm.trans h1_) (by decide), Q_D0, Q_D1, Q_D3, Q_G0, Q_GG, Q_G1, Q_X2_, Q_X3_, Q_X4_, Q_X5_, Q_X7_⟩
    refine steps_cons ?_ ?_
    · rintro b a w' ⟨Lk, lk, x0_, y0_, x1_, y1_, x3_, y3_, gx, m2_, m3_, m4_, m5_, m7_, ha, Q_HO, Q_KP, Q_D0, Q_D1, Q_D3, Q_G0, Q_GG, Q_G1, Q_X2_, Q_X3_, Q_X4_, Q_X5_, Q_X7_⟩ hb_ hon hoff
      refine ⟨_, rfl, fun K hK => ?_⟩
      replace ha := Aside0.mk ha
      have HO := Aside0.mk Q_HO
      refine value_ (w1 := w'.alloc (.cells #[.slice none 0 0, .slice none 0 0, .bool false, .slice none 0 0] 27 (0, 0))) (v := .pointer (some ⟨w'.heap.size, 0, none⟩)) (by rfl) rfl ?_ ?_
      · go_simp
        try rfl
      refine hK.out _ _ ⟨Lk, lk, x0_, y0_, x1_, y1_, x3_, y3_, w'.heap.size, m2_, m3_, m4_, m5_, (.pointer (some ⟨w'.heap.size, 0, none⟩)), (by rw [ha.out]; exact putSel_upk 7 hb_ rfl rfl rfl), below_alloc HO.out _, fun h0_ h1_ => ⟨Kd.C_alloc (Q_KP h0_ h1_).1 _, (Q_KP h0_ h1_).2⟩, fun h0_ => Kd.R_alloc (Q_D0 h0_) _, fun h0_ => Kd.R_alloc (Q_D1 h0_) _, fun h0_ => Kd.R_alloc (Q_D3 h0_) _, fun _ _ => blk_new w' _, fun _ => HO.out.size, fun h0_ => absurd ((hoff 8 (by kernel_rfl)).symm.trans h0_) (by decide), Q_X2_, Q_X3_, Q_X4_, Q_X5_, fun _ => rfl⟩
    refine steps_cons ?_ ?_
    · rintro b a w' ⟨Lk, lk, x0_, y0_, x1_, y1_, x3_, y3_, gx, m2_, m3_, m4_, m5_, m7_, ha, Q_HO, Q_KP, Q_D0, Q_D1, Q_D3, Q_G0, Q_GG, Q_G1, Q_X2_, Q_X3_, Q_X4_, Q_X5_, Q_X7_⟩ hb_ hon hoff
      refine ⟨_, rfl, fun K hK => ?_⟩
      have e20 : a.tmps[20]? = some (m7_) := on_ ha 7 rfl rfl (hon 7 (by kernel_rfl)) rfl
      rw [Q_X7_ (hon 7 (by kernel_rfl))] at e20
      have e90 : a.tmps[90]? = some (m5_) := on_ ha 5 rfl rfl (hon 5 (by kernel_rfl)) rfl
      rw [Q_X5_ (hon 5 (by kernel_rfl))] at e90
      replace ha := Aside0.mk ha
      have HO := Aside0.mk Q_HO
      have D0 := Aside0.mk (Q_D0 (hon 3 (by kernel_rfl)))
      have D1 := Aside0.mk (Q_D1 (hon 3 (by kernel_rfl)))
      have D3 := Aside0.mk (Q_D3 (hon 3 (by kernel_rfl)))
      have G0 := Aside0.mk (Q_G0 (hon 7 (by kernel_rfl)) hb_)
      have GG := Aside0.mk (Q_GG (hon 7 (by kernel_rfl)))
      obtain ⟨z0_, z1_, z2_, z3_, y4_, y5_, y6_, y7_⟩ := cells4 G0.out
      refine skip_ (w1 := (((w'.setCell ⟨gx, 0, none⟩ (.slice x0_ s.length y0_)).setCell ⟨gx, 1, none⟩ (.slice x1_ cw.length y1_)).setCell ⟨gx, 2, none⟩ (.bool true)).setCell ⟨gx, 3, none⟩ (.slice x3_ L.length y3_)) (by rfl) rfl ?_ ?_
      · go_simp
      refine hK.out _ _ ⟨Lk, lk, x0_, y0_, x1_, y1_, x3_, y3_, gx, m2_, m3_, m4_, m5_, m7_, (by rw [ha.out]; exact putSel_none (v := undef) rfl), set4_below HO.out GG.out _ _ _ _, fun _ h1_ => absurd ((hon 3 (by kernel_rfl)).symm.trans h1_) (by decide), fun _ => R_set4 D0.out G0.out (ne_string (by decide)) _ _ _ _, fun _ => R_set4 D1.out G0.out (ne_pend (by decide)) _ _ _ _, fun _ => R_set4 D3.out G0.out (ne_ints (by decide)) _ _ _ _, fun _ h1_ => absurd ((up_self b 8).symm.trans h1_) (by decide), Q_GG, fun _ => set4_blk G0.out _ _ _ _, Q_X2_, Q_X3_, Q_X4_, Q_X5_, Q_X7_⟩
    refine steps_cons ?_ ?_
    · rintro b a w' ⟨Lk, lk, x0_, y0_, x1_, y1_, x3_, y3_, gx, m2_, m3_, m4_, m5_, m7_, ha, Q_HO, Q_KP, Q_D0, Q_D1, Q_D3, Q_G0, Q_GG, Q_G1, Q_X2_, Q_X3_, Q_X4_, Q_X5_, Q_X7_⟩ hb_ hon hoff
      refine ⟨_, rfl, fun K hK => ?_⟩
      have e91 : a.tmps[91]? = some (.int .i64 0) := on_ ha 6 rfl rfl (hon 6 (by kernel_rfl)) rfl
      replace ha := Aside0.mk ha
      refine value_ (w1 := w') (v := .int .i64 0) (by rfl) rfl ?_ ?_
      · go_simp
        (try simp only [i64_w])
        try rfl
      refine hK.out _ _ ⟨Lk, lk, x0_, y0_, x1_, y1_, x3_, y3_, gx, m2_, m3_, m4_, m5_, m7_, (by rw [ha.out]; exact putSel_upk 8 hb_ rfl rfl rfl), Q_HO, fun _ h1_ => absurd ((hon 3 (by kernel_rfl)).symm.trans h1_) (by decide), Q_D0, Q_D1, Q_D3, fun _ h1_ => absurd ((hon 8 (by kernel_rfl)).symm.trans h1_) (by decide), Q_GG, Q_G1, Q_X2_, Q_X3_, Q_X4_, Q_X5_, Q_X7_⟩
    exact steps_nil
  rintro b a wE11 hall ⟨Lk, lk, x0_, y0_, x1_, y1_, x3_, y3_, gx, m2_, m3_, m4_, m5_, m7_, ha, Q_HO, Q_KP, Q_D0, Q_D1, Q_D3, Q_G0, Q_GG, Q_G1, Q_X2_, Q_X3_, Q_X4_, Q_X5_, Q_X7_⟩
  clear HO
  have hb0_ := hall 0 (by kernel_rfl)
  have hb1_ := hall 1 (by kernel_rfl)
  have hb2_ := hall 2 (by kernel_rfl)
  have hb3_ := hall 3 (by kernel_rfl)
  have hb4_ := hall 4 (by kernel_rfl)
  have hb5_ := hall 5 (by kernel_rfl)
  have hb6_ := hall 6 (by kernel_rfl)
  have hb7_ := hall 7 (by kernel_rfl)
  have hb8_ := hall 8 (by kernel_rfl)
  have hb9_ := hall 9 (by kernel_rfl)
  subst ha
  obtain rfl := Q_X2_ hb2_
  obtain rfl := Q_X3_ hb3_
  obtain rfl := Q_X4_ hb4_
  obtain rfl := Q_X5_ hb5_
  obtain rfl := Q_X7_ hb7_
  simp only [putSel, hb0_, hb1_, hb2_, hb3_, hb4_, hb5_, hb6_, hb7_, hb8_, hb9_, if_true, Act.put, List.setIfInBounds_toArray, List.set_cons_zero, List.set_cons_succ]
  have HO := Aside0.mk Q_HO
  clear Q_HO
  clear Q_KP
  have D0 := Aside0.mk (Q_D0 hb3_)
  clear Q_D0
  have D1 := Aside0.mk (Q_D1 hb3_)
  clear Q_D1
  have D3 := Aside0.mk (Q_D3 hb3_)
  clear Q_D3
  clear Q_G0
  have GG := Aside0.mk (Q_GG hb7_)
  clear Q_GG
  have G1 := Aside0.mk (Q_G1 hb8_)
  clear Q_G1
  clear hall hb0_ hb1_ hb2_ hb3_ hb4_ hb5_ hb6_ hb7_ hb8_ hb9_
  have V_19 := Aside0.mk (show BD wE11 gx x0_ y0_ s x1_ y1_ cw true x3_ y3_ L from ⟨G1.out, ⟨(Kd.R_reads' D0.out).2.2, (Kd.R_reads' D0.out).2.1⟩, ⟨(Kd.R_reads' D1.out).2.2, (Kd.R_reads' D1.out).2.1⟩, ⟨(Kd.R_reads' D3.out).2.2, (Kd.R_reads' D3.out).2.1⟩⟩)
  have HB20 := Aside0.mk (below_step HD18.out HO.out)
  have K_20 := Aside0.mk (blk_below K_18.out HO.out)
  have W_20 := Aside0.mk (W_18.out.below HO.out)
  have T_20 := Aside0.mk (T_18.out.below HO.out)
  have Y_20 := Aside0.mk (Y_18.out.below HO.out)
  have X_20 := Aside0.mk (X_18.out.below HO.out)
  have U_20 := Aside0.mk (U_18.out.below HO.out)
  clear HD18 K_18 W_18 T_18 Y_18 X_18 U_18
  clear HO D0 D1 D3 GG G1
  obtain ⟨V0, r_V0⟩ : ∃ z, z = x0_ := ⟨_, rfl⟩
  obtain ⟨V0c, r_V0c⟩ : ∃ z, z = y0_ := ⟨_, rfl⟩
  obtain ⟨V1, r_V1⟩ : ∃ z, z = x1_ := ⟨_, rfl⟩
  obtain ⟨V1c, r_V1c⟩ : ∃ z, z = y1_ := ⟨_, rfl⟩
  obtain ⟨V3, r_V3⟩ : ∃ z, z = x3_ := ⟨_, rfl⟩
  obtain ⟨V3c, r_V3c⟩ : ∃ z, z = y3_ := ⟨_, rfl⟩
  obtain ⟨gV, r_gV⟩ : ∃ z, z = gx := ⟨_, rfl⟩
  rw [← r_V0, ← r_V0c, ← r_V1, ← r_V1c, ← r_V3, ← r_V3c, ← r_gV] at V_19
  simp only [← r_V0, ← r_V0c, ← r_V1, ← r_V1c, ← r_V3, ← r_V3c, ← r_gV]
  clear r_V0 r_V0c r_V1 r_V1c r_V3 r_V3c r_gV
  obtain ⟨xV0, xV1, xV2, xV3⟩ := V_19.out.cells
  go_wp2_with fail
  clear xV0 xV1 xV2 xV3
  refine (impl_DiskSync.calls (hr0_0 := V_19.out.2.1.1) (hc0_0 := V_19.out.2.1.2) (hr0_1 := V_19.out.2.2.1.1) (hc0_1 := V_19.out.2.2.1.2) (hr0_3 := V_19.out.2.2.2.1) (hc0_3 := V_19.out.2.2.2.2) (h := AHZ.out)).mono ?_
  rintro e w7 ⟨v0, v1, v3, rfl, h0, h1, h3, hb_⟩
  obtain ⟨Z0, Z0c, rfl, Zl0_, Zc0_⟩ := Kd.R_reads h0
  obtain ⟨Z1, Z1c, rfl, Zl1_, Zc1_⟩ := Kd.R_reads h1
  obtain ⟨Z3, Z3c, rfl, Zl3_, Zc3_⟩ := Kd.R_reads h3
  clear h0 h1 h3
  have HB21 := Aside0.mk (below_step HB20.out hb_)
  have K_21 := Aside0.mk (blk_below K_20.out hb_)
  have W_21 := Aside0.mk (W_20.out.below hb_)
  have T_21 := Aside0.mk (T_20.out.below hb_)
  have Y_21 := Aside0.mk (Y_20.out.below hb_)
  have X_21 := Aside0.mk (X_20.out.below hb_)
  have U_21 := Aside0.mk (U_20.out.below hb_)
  have V_21 := Aside0.mk (V_19.out.below hb_)
  clear HB20 K_20 W_20 T_20 Y_20 X_20 U_20 V_19
  clear hb_
  have Z_22 := Aside0.mk (show BD (w7.alloc (.cells #[.slice Z0 sx.length Z0c, .slice Z1 cx.length Z1c, .bool ax, .slice Z3 qx.length Z3c] 27 (0, 0))) w7.heap.size Z0 Z0c sx Z1 Z1c cx ax Z3 Z3c qx from ⟨blk_new w7 _, DRd.below ⟨⟨Zc0_, Zl0_⟩, ⟨Zc1_, Zl1_⟩, ⟨Zc3_, Zl3_⟩⟩ (below_alloc (Below.refl _ _) _)⟩)
  have HB23 := Aside0.mk (below_step HB21.out (below_alloc (Below.refl _ _) (.cells #[.slice Z0 sx.length Z0c, .slice Z1 cx.length Z1c, .bool ax, .slice Z3 qx.length Z3c] 27 (0, 0))))
  have K_23 := Aside0.mk (blk_below K_21.out (below_alloc (Below.refl _ _) (.cells #[.slice Z0 sx.length Z0c, .slice Z1 cx.length Z1c, .bool ax, .slice Z3 qx.length Z3c] 27 (0, 0))))
  have W_23 := Aside0.mk (W_21.out.below (below_alloc (Below.refl _ _) (.cells #[.slice Z0 sx.length Z0c, .slice Z1 cx.length Z1c, .bool ax, .slice Z3 qx.length Z3c] 27 (0, 0))))
  have T_23 := Aside0.mk (T_21.out.below (below_alloc (Below.refl _ _) (.cells #[.slice Z0 sx.length Z0c, .slice Z1 cx.length Z1c, .bool ax, .slice Z3 qx.length Z3c] 27 (0, 0))))
  have Y_23 := Aside0.mk (Y_21.out.below (below_alloc (Below.refl _ _) (.cells #[.slice Z0 sx.length Z0c, .slice Z1 cx.length Z1c, .bool ax, .slice Z3 qx.length Z3c] 27 (0, 0))))
  have X_23 := Aside0.mk (X_21.out.below (below_alloc (Below.refl _ _) (.cells #[.slice Z0 sx.length Z0c, .slice Z1 cx.length Z1c, .bool ax, .slice Z3 qx.length Z3c] 27 (0, 0))))
  have U_23 := Aside0.mk (U_21.out.below (below_alloc (Below.refl _ _) (.cells #[.slice Z0 sx.length Z0c, .slice Z1 cx.length Z1c, .bool ax, .slice Z3 qx.length Z3c] 27 (0, 0))))
  have V_23 := Aside0.mk (V_21.out.below (below_alloc (Below.refl _ _) (.cells #[.slice Z0 sx.length Z0c, .slice Z1 cx.length Z1c, .bool ax, .slice Z3 qx.length Z3c] 27 (0, 0))))
  clear HB21 K_21 W_21 T_21 Y_21 X_21 U_21 V_21
  clear Zl0_ Zc0_ Zl1_ Zc1_ Zl3_ Zc3_
  obtain ⟨xW0, xW1, xW2, xW3⟩ := W_23.out.cells
  go_wp2_with fail
  clear xW0 xW1 xW2 xW3
  refine (impl_DiskPending.calls kp (hr0_0 := W_23.out.2.1.1) (hc0_0 := W_23.out.2.1.2) (hr0_1 := W_23.out.2.2.1.1) (hc0_1 := W_23.out.2.2.1.2) (hr0_3 := W_23.out.2.2.2.1) (hc0_3 := W_23.out.2.2.2.2) (h := AHP.out)).mono ?_
  rintro e w8 ⟨v0, rfl, h0, hb_⟩
  obtain ⟨Pa, Pc, rfl, _, _⟩ := Kd.R_reads h0
  clear h0
  have HB24 := Aside0.mk (below_step HB23.out hb_)
  have K_24 := Aside0.mk (blk_below K_23.out hb_)
  have W_24 := Aside0.mk (W_23.out.below hb_)
  have T_24 := Aside0.mk (T_23.out.below hb_)
  have Y_24 := Aside0.mk (Y_23.out.below hb_)
  have X_24 := Aside0.mk (X_23.out.below hb_)
  have U_24 := Aside0.mk (U_23.out.below hb_)
  have Z_24 := Aside0.mk (Z_22.out.below hb_)
  clear HB23 K_23 W_23 T_23 Y_23 X_23 U_23 Z_22
  clear hb_
  obtain ⟨xW0, xW1, xW2, xW3⟩ := W_24.out.cells
  obtain ⟨xT0, xT1, xT2, xT3⟩ := T_24.out.cells
  go_wp2_with fail
  clear xW0 xW1 xW2 xW3 xT0 xT1 xT2 xT3
  refine (laws_sameDisk.calls ke (hr0_0 := W_24.out.2.1.1) (hc0_0 := W_24.out.2.1.2) (hr0_1 := W_24.out.2.2.1.1) (hc0_1 := W_24.out.2.2.1.2) (hr0_3 := W_24.out.2.2.2.1) (hc0_3 := W_24.out.2.2.2.2) (hr1_0 := T_24.out.2.1.1) (hc1_0 := T_24.out.2.1.2) (hr1_1 := T_24.out.2.2.1.1) (hc1_1 := T_24.out.2.2.1.2) (hr1_3 := T_24.out.2.2.2.1) (hc1_3 := T_24.out.2.2.2.2) (h := AHE1.out)).mono ?_
  rintro e w9 ⟨rfl, hb_⟩
  have HB25 := Aside0.mk (below_step HB24.out hb_)
  have K_25 := Aside0.mk (blk_below K_24.out hb_)
  have W_25 := Aside0.mk (W_24.out.below hb_)
  have T_25 := Aside0.mk (T_24.out.below hb_)
  have Y_25 := Aside0.mk (Y_24.out.below hb_)
  have X_25 := Aside0.mk (X_24.out.below hb_)
  have U_25 := Aside0.mk (U_24.out.below hb_)
  have Z_25 := Aside0.mk (Z_24.out.below hb_)
  clear HB24 K_24 W_24 T_24 Y_24 X_24 U_24 Z_24
  clear hb_
  obtain ⟨xK0, xK1, xK2, xK3⟩ := cells4d K_25.out
  obtain ⟨xX0, xX1, xX2, xX3⟩ := X_25.out.cells
  obtain ⟨xU0, xU1, xU2, xU3⟩ := U_25.out.cells
  go_wp2_with fail
  clear xK0 xK1 xK2 xK3 xX0 xX1 xX2 xX3 xU0 xU1 xU2 xU3
  refine (laws_sameDisk.calls ke2 (hr0_0 := X_25.out.2.1.1) (hc0_0 := X_25.out.2.1.2) (hr0_1 := X_25.out.2.2.1.1) (hc0_1 := X_25.out.2.2.1.2) (hr0_3 := X_25.out.2.2.2.1) (hc0_3 := X_25.out.2.2.2.2) (hr1_0 := U_25.out.2.1.1) (hc1_0 := U_25.out.2.1.2) (hr1_1 := U_25.out.2.2.1.1) (hc1_1 := U_25.out.2.2.1.2) (hr1_3 := U_25.out.2.2.2.1) (hc1_3 := U_25.out.2.2.2.2) (h := AHE2.out)).mono ?_
  rintro e w10 ⟨rfl, hb_⟩
  have HB26 := Aside0.mk (below_step HB25.out hb_)
  have K_26 := Aside0.mk (blk_below K_25.out hb_)
  have W_26 := Aside0.mk (W_25.out.below hb_)
  have Y_26 := Aside0.mk (Y_25.out.below hb_)
  have X_26 := Aside0.mk (X_25.out.below hb_)
  have U_26 := Aside0.mk (U_25.out.below hb_)
  have Z_26 := Aside0.mk (Z_25.out.below hb_)
  clear HB25 K_25 W_25 Y_25 X_25 U_25 Z_25
  clear hb_
  obtain ⟨xZ0, xZ1, xZ2, xZ3⟩ := Z_26.out.cells
  obtain ⟨xX0, xX1, xX2, xX3⟩ := X_26.out.cells
  go_wp2_with fail
  clear xZ0 xZ1 xZ2 xZ3 xX0 xX1 xX2 xX3
  refine (laws_sameDisk.calls ke2 (hr0_0 := Z_26.out.2.1.1) (hc0_0 := Z_26.out.2.1.2) (hr0_1 := Z_26.out.2.2.1.1) (hc0_1 := Z_26.out.2.2.1.2) (hr0_3 := Z_26.out.2.2.2.1) (hc0_3 := Z_26.out.2.2.2.2) (hr1_0 := X_26.out.2.1.1) (hc1_0 := X_26.out.2.1.2) (hr1_1 := X_26.out.2.2.1.1) (hc1_1 := X_26.out.2.2.1.2) (hr1_3 := X_26.out.2.2.2.1) (hc1_3 := X_26.out.2.2.2.2) (h := AHE2.out)).mono ?_
  rintro e w11 ⟨rfl, hb_⟩
  have HB27 := Aside0.mk (below_step HB26.out hb_)
  have K_27 := Aside0.mk (blk_below K_26.out hb_)
  have W_27 := Aside0.mk (W_26.out.below hb_)
  have Y_27 := Aside0.mk (Y_26.out.below hb_)
  have X_27 := Aside0.mk (X_26.out.below hb_)
  have Z_27 := Aside0.mk (Z_26.out.below hb_)
  clear HB26 K_26 W_26 Y_26 X_26 Z_26
  clear hb_
  obtain ⟨xK0, xK1, xK2, xK3⟩ := cells4d K_27.out
  obtain ⟨xW0, xW1, xW2, xW3⟩ := W_27.out.cells
  obtain ⟨xY0, xY1, xY2, xY3⟩ := Y_27.out.cells
  obtain ⟨xX0, xX1, xX2, xX3⟩ := X_27.out.cells
  go_wp2_with fail
  clear xK0 xK1 xK2 xK3 xW0 xW1 xW2 xW3 xY0 xY1 xY2 xY3 xX0 xX1 xX2 xX3
  go_loopw [27] (fun v27 wr => ∃ j : Nat, j ≤ s.length ∧ v27 = .int .i64 j ∧ Aside0 (Below w11.heap.size w11 wr)) (fun v27 _ => s.length - (intOf v27).toNat)
  case atStart => exact ⟨0, Nat.zero_le _, rfl, ⟨Below.refl _ _⟩⟩
  case round =>
    obtain ⟨j, hj, rfl, HO⟩ := hrel
    have HBr := Aside0.mk (below_step HB27.out HO.out)
    have Kr := Aside0.mk (blk_below K_27.out HO.out)
    have Wr := Aside0.mk (W_27.out.below HO.out)
    have Yr := Aside0.mk (Y_27.out.below HO.out)
    have Xr := Aside0.mk (X_27.out.below HO.out)
    clear HB27 K_27 W_27 Y_27 X_27
    obtain ⟨k0, k1, k2, k3⟩ := cells4d Kr.out
    obtain ⟨x0, x1, x2, x3⟩ := Wr.out.cells
    by_cases hlt : j < s.length
    · have c3 : decide ((j : Int) < (s.length : Int)) = true := decide_eq_true (by omega)
      have w2 : IntKind.i64.wrap ((j : Int) + 1) = (j : Int) + 1 := by rw [IntKind.wrap_i64]; omega
      go_wp2_with fail
      refine (impl_DiskRead.calls (hr0_0 := Wr.out.2.1.1) (hc0_0 := Wr.out.2.1.2) (hr0_1 := Wr.out.2.2.1.1) (hc0_1 := Wr.out.2.2.1.2) (hr0_3 := Wr.out.2.2.2.1) (hc0_3 := Wr.out.2.2.2.2) (h := AHR.out (j : Int) (by omega) (by omega))).mono ?_
      rintro e wa ⟨rfl, hba⟩
      have HOa := Aside0.mk (below_step HO.out hba)
      have Wa := Aside0.mk (Wr.out.below hba)
      have Ya := Aside0.mk (Yr.out.below hba)
      obtain ⟨y0, y1, y2, y3⟩ := Ya.out.cells
      clear hba x0 x1 x2 x3 k0 k1 k2 k3
      go_wp2_with fail
      refine (impl_DiskRead.calls (hr0_0 := Ya.out.2.1.1) (hc0_0 := Ya.out.2.1.2) (hr0_1 := Ya.out.2.2.1.1) (hc0_1 := Ya.out.2.2.1.2) (hr0_3 := Ya.out.2.2.2.1) (hc0_3 := Ya.out.2.2.2.2) (h := AHRs.out (j : Int) (by omega) (by omega))).mono ?_
      rintro e wb ⟨rfl, hbb⟩
      have HOb := Aside0.mk (below_step HOa.out hbb)
      clear hbb y0 y1 y2 y3
      cases hal : al with
      | true =>
        have hv : ((FV (j : Int)).toList == (FV1 (j : Int)).toList) = true := beq_iff_eq.mpr (AHVV.out hal (j : Int) (by omega) (by omega))
        have hv2 : ((FV (j : Int)).toList != (FV1 (j : Int)).toList) = false := by rw [bne, hv]; rfl
        subst hal
        generalize FV (j : Int) = va at hv hv2 ⊢
        generalize FV1 (j : Int) = vb at hv hv2 ⊢
        go_wp2_with fail
        go_roundw
        case rel => exact ⟨j + 1, by omega, by go_num, HOb⟩
        case measure => simp [intOf]; omega
      | false =>
        subst hal
        generalize FV (j : Int) = va
        generalize FV1 (j : Int) = vb
        go_wp2_with fail
        go_roundw
        case rel => exact ⟨j + 1, by omega, by go_num, HOb⟩
        case measure => simp [intOf]; omega
    · have c3 : decide ((j : Int) < (s.length : Int)) = false := decide_eq_false (by omega)
      clear k1 k2 k3
      go_wp2_with fail
      refine (impl_DiskOK.calls (hr0_0 := Wr.out.2.1.1) (hc0_0 := Wr.out.2.1.2) (hr0_1 := Wr.out.2.2.1.1) (hc0_1 := Wr.out.2.2.1.2) (hr0_3 := Wr.out.2.2.2.1) (hc0_3 := Wr.out.2.2.2.2) (h := AHO1.out)).mono ?_
      rintro e wa ⟨rfl, hba⟩
      have HBa := Aside0.mk (below_step HBr.out hba)
      have Ya := Aside0.mk (Yr.out.below hba)
      have Xa := Aside0.mk (Xr.out.below hba)
      obtain ⟨y0, y1, y2, y3⟩ := Ya.out.cells
      clear hba x0 x1 x2 x3 k0
      go_wp2_with fail
      refine (impl_DiskOK.calls (hr0_0 := Ya.out.2.1.1) (hc0_0 := Ya.out.2.1.2) (hr0_1 := Ya.out.2.2.1.1) (hc0_1 := Ya.out.2.2.1.2) (hr0_3 := Ya.out.2.2.2.1) (hc0_3 := Ya.out.2.2.2.2) (h := AHO2.out)).mono ?_
      rintro e wb ⟨rfl, hbb⟩
      have HBb := Aside0.mk (below_step HBa.out hbb)
      have Xb := Aside0.mk (Xa.out.below hbb)
      obtain ⟨z0, z1, z2, z3⟩ := Xb.out.cells
      clear hbb y0 y1 y2 y3
      go_wp2_with fail
      refine (impl_DiskOK.calls (hr0_0 := Xb.out.2.1.1) (hc0_0 := Xb.out.2.1.2) (hr0_1 := Xb.out.2.2.1.1) (hc0_1 := Xb.out.2.2.1.2) (hr0_3 := Xb.out.2.2.2.1) (hc0_3 := Xb.out.2.2.2.2) (h := AHO3.out)).mono ?_
      rintro e wc ⟨rfl, hbc⟩
      have HBc := Aside0.mk (below_step HBb.out hbc)
      clear hbc z0 z1 z2 z3
      go_wp2_with fail
      go_ret
      exact ⟨rfl, HBc.out⟩
end Go.Proofs.Ytddommgeaoknbaa.X
