import Derived.Test.YtddommgeaoknbaaKFnDisk3
import Derived.Test.YtddommgeaoknbaaKFnDisk4
import Derived.Test.YtddommgeaoknbaaKFnDisk5
import Derived.Test.YtddommgeaoknbaaKFnDisk6
import Derived.LoopTactic
import Derived.WalkSpells
import Derived.Outline
import Derived.Deep.RegionHeld3
namespace Go.Proofs.Ytddommgeaoknbaa.X
open Go.RowKit Go.Proofs.YtddommgeaoknbaaW.PrintWords Go.Proofs.YtddommgeaoknbaaW.PrintLast Go.Proofs.YtddommgeaoknbaaW.PrintMore
attribute [local go_sem] xbin_geq xbin_leq xbin_gtr max2_int min2_int max_two min_two max_three min_three max_four min_four
set_option linter.unusedVariables false
set_option linter.unusedSimpArgs false
def settleL (st : Nat → Bool) : List S54 → Nat → List ByteArray → List ByteArray
  | [], _, s => s
  | p :: c, i, s => settleL st c (i + 1) (if st i = true then s.set p.f0.toNat p.f1 else s)
theorem settleL_len (st : Nat → Bool) (c : List S54) : ∀ (i : Nat) (s : List ByteArray), (settleL st c i s).length = s.length := by
  induction c with
  | nil => intro i s; rfl
  | cons p c ih =>
    intro i s
    rw [settleL, ih]
    split <;> simp
def keepB (l : List Int) (i : Nat) : Bool := decide ((i : Int) < (l.length : Int)) && (rd l (i : Int) != 0)
set_option maxHeartbeats 8000000 in
set_option maxRecDepth 100000 in
theorem disk_settle (st : Nat → Bool) (gf : Nat) (lb : Array Value) (eg : ∀ args w, (callFunc gf args).run Try.prog w = .ok (.enter gf args) w) (w0 w : World) (g : Nat) (X0 : Option Addr) (y0 : Nat) (X1 : Option Addr) (y1 : Nat) (vk : Value) (s : List ByteArray) (c : List S54) (a : Bool) (q : List Int) (hB : Below w0.heap.size w0 w) (hd : DiskAt w0 w g (.slice X0 s.length y0) (.slice X1 c.length y1) vk s c a q) (hin : ∀ p, p ∈ c → 0 ≤ p.f0 ∧ p.f0 < (s.length : Int)) (hl : c.length ≤ 1000000)
    (hp : ∀ (i : Nat) (W : World), i < c.length → Below w0.heap.size w0 W → (∀ (k : Nat) (cells : Array Value) (t : TypeId), w.heap[k]? = some (.cells cells t (0, 0)) → 9 ≠ t → W.heap[k]? = some (.cells cells t (0, 0))) → Calls Try.prog gf (#[.int .i64 (i : Int)] ++ lb) W fun e W' => e = .returned (.bool (st i)) ∧ Below W.heap.size W W') :
    Calls Try.prog 47 #[.pointer (some ⟨g, 0, none⟩), .func (.func gf) #[] lb] w fun e w' => e = .returned (.tuple #[]) ∧ DiskAt w0 w' g (.slice X0 s.length y0) (.slice none 0 0) vk (settleL st c 0 s) [] a q ∧ Below w0.heap.size w0 w' ∧ ∀ (k : Nat) (cells : Array Value) (t : TypeId), w.heap[k]? = some (.cells cells t (0, 0)) → k ≠ g → 9 ≠ t → w'.heap[k]? = some (.cells cells t (0, 0)) := by
  have hu := Try.underlying54
  have hu2 := Try.underlying27
  have HB0 := Aside0.mk hB
  have HD0 := Aside0.mk hd
  have HIN := Aside0.mk hin
  have HP := Aside0.mk hp
  obtain ⟨d0, d1, d2, d3, _, _, _, _⟩ := cells4 hd.2.1
  clear hB hd hin hp
  go_enter Try.func47, Try.ntmps47
  go_wp2_with fail
  go_loopw [11] (fun v11 wr => ∃ (i : Nat) (ys : List ByteArray), i ≤ c.length ∧ v11 = .int .i64 i ∧ Aside0 (ys.length = s.length) ∧ Aside0 (settleL st (c.drop i) i ys = settleL st c 0 s) ∧ Aside0 (DiskAt w0 wr g (.slice X0 s.length y0) (.slice X1 c.length y1) vk ys c a q) ∧ Aside0 (Below w0.heap.size w0 wr) ∧ Aside0 (∀ (k : Nat) (cells : Array Value) (t : TypeId), w.heap[k]? = some (.cells cells t (0, 0)) → 9 ≠ t → wr.heap[k]? = some (.cells cells t (0, 0)))) (fun v11 _ => c.length - (intOf v11).toNat)
  case atStart => exact ⟨0, s, by omega, rfl, ⟨rfl⟩, ⟨rfl⟩, HD0, HB0, ⟨fun k cells t h _ => h⟩⟩
  case round =>
    clear HD0 HB0 d0 d1 d2 d3
    obtain ⟨i, ys, hi, rfl, HL, HS, HD, HB, HK⟩ := hrel
    by_cases hlt : i < c.length
    · have c1 : decide ((i : Int) < (c.length : Int)) = true := decide_eq_true (by omega)
      obtain ⟨gc, cc, hv, _, _, ccells, hcc⟩ := Kd.R_form HD.out.2.2.2.1 (by omega)
      injection hv with h1 _ h2
      subst h1; subst h2
      have hCy := (Kd.R_reads' HD.out.2.2.2.1).2.2
      obtain ⟨ad1, e1, hx0, hx1⟩ := at_T54 hCy (i : Int) (by omega) (by omega)
      cases e1
      obtain ⟨x, hx⟩ : ∃ x, x = c[i] := ⟨_, rfl⟩
      have hxy : rd_T54 c (i : Int) = x := by
        rw [hx]
        unfold rd_T54
        rw [Int.toNat_natCast]
        simp [List.getD_eq_getElem?_getD, hlt]
      rw [hxy, Int.toNat_natCast, add_plain] at hx0 hx1
      have hmem : x ∈ c := by rw [hx]; exact List.getElem_mem _
      have HX := Aside0.mk (HIN.out x hmem)
      have hdr : c.drop i = x :: c.drop (i + 1) := by rw [hx]; exact List.drop_eq_getElem_cons hlt
      have HS2 := Aside0.mk (show settleL st (c.drop (i + 1)) (i + 1) (if st i = true then ys.set x.f0.toNat x.f1 else ys) = settleL st c 0 s from by
        have h := HS.out
        rw [hdr, settleL] at h
        exact h)
      have p1 : 0 ≤ (i : Int) := by omega
      have q1 : (i : Int) < (c.length : Int) := by omega
      have hbW : Below w0.heap.size w0 (wr.alloc (.cells #[.int .i64 x.f0, .string x.f1] 54 (0, 0))) := below_alloc HB.out _
      have HPX := Aside0.mk (HP.out i _ hlt hbW (fun k cells t h1 h2 => blk_alloc (HK.out k cells t h1 h2) _))
      have HNB := Aside0.mk (blk_new wr (.cells #[.int .i64 x.f0, .string x.f1] 54 (0, 0)))
      have HAB := Aside0.mk hbW
      have HDA := Aside0.mk (HD.out.below (below_alloc (Below.refl _ wr) (.cells #[.int .i64 x.f0, .string x.f1] 54 (0, 0))))
      have HKA := Aside0.mk (show ∀ (k : Nat) (cells : Array Value) (t : TypeId), w.heap[k]? = some (.cells cells t (0, 0)) → 9 ≠ t → (wr.alloc (.cells #[.int .i64 x.f0, .string x.f1] 54 (0, 0))).heap[k]? = some (.cells cells t (0, 0)) from fun k cells t h1 h2 => blk_alloc (HK.out k cells t h1 h2) _)
      clear hxy hmem hdr hbW hcc ccells hCy HS HD HB HK
      cases hst : st i with
      | false =>
        rw [hst] at HPX HS2
        clear hst hx
        go_wp2_with fail
        refine HPX.out.mono ?_
        rintro e w2 ⟨rfl, hb2⟩
        have HD2 := Aside0.mk (HDA.out.below hb2)
        have HB2 := Aside0.mk (below_step HAB.out hb2)
        have HK2 := Aside0.mk (show ∀ (k : Nat) (cells : Array Value) (t : TypeId), w.heap[k]? = some (.cells cells t (0, 0)) → 9 ≠ t → w2.heap[k]? = some (.cells cells t (0, 0)) from fun k cells t h1 h2 => blk_below (HKA.out k cells t h1 h2) hb2)
        clear hb2 HNB HAB HDA HKA HPX
        go_wp2_with fail
        go_roundw
        case rel => exact ⟨i + 1, ys, by omega, by go_num, HL, HS2, HD2, HB2, HK2⟩
        case measure => simp [intOf]; omega
      | true =>
        rw [hst] at HPX HS2
        clear hst hx
        go_wp2_with fail
        refine HPX.out.mono ?_
        rintro e w2 ⟨rfl, hb2⟩
        go_wp2_with fail
        have HD2 := Aside0.mk (HDA.out.below hb2)
        have HB2 := Aside0.mk (below_step HAB.out hb2)
        have HK2 := Aside0.mk (show ∀ (k : Nat) (cells : Array Value) (t : TypeId), w.heap[k]? = some (.cells cells t (0, 0)) → 9 ≠ t → w2.heap[k]? = some (.cells cells t (0, 0)) from fun k cells t h1 h2 => blk_below (HKA.out k cells t h1 h2) hb2)
        have hnb : w2.heap[wr.heap.size]? = some (.cells #[.int .i64 x.f0, .string x.f1] 54 (0, 0)) := blk_below HNB.out hb2
        have hn0 : w2.drew.cell? ⟨wr.heap.size, 0, none⟩ = some (.int .i64 x.f0) := blk_cell (blk_drew hnb) 0
        have hn1 : w2.drew.cell? ⟨wr.heap.size, 1, none⟩ = some (.string x.f1) := blk_cell (blk_drew hnb) 1
        obtain ⟨d0, _, _, _, _, _, _, _⟩ := cells4 (blk_drew HD2.out.2.1)
        have z0 := HX.out.1
        have z1 := HX.out.2
        obtain ⟨gs, cs, hv, hgs, _, scells, hsc⟩ := Kd.R_form HD2.out.2.2.1 (by have := HL.out; omega)
        injection hv with h1 hn h2
        subst h1; subst h2
        clear hn
        obtain ⟨hs0, hs1⟩ := Kd.R_celln (⟨#[]⟩ : ByteArray) (Kd.R_drew HD2.out.2.2.1) x.f0 z0 z1
        have e0 : (w2.setCell ⟨gs, x.f0.toNat, none⟩ (.string x.f1)).drew.cell? ⟨g, 0, none⟩ = some (.slice (some ⟨gs, 0, none⟩) s.length y0) := blk_cell (blk_drew (blk_far HD2.out.2.1 (blk_ne HD2.out.2.1 hsc (by decide)) _)) 0
        have e1 : (w2.setCell ⟨gs, x.f0.toNat, none⟩ (.string x.f1)).drew.cell? ⟨wr.heap.size, 0, none⟩ = some (.int .i64 x.f0) := blk_cell (blk_drew (blk_far hnb (blk_ne hnb hsc (by decide)) _)) 0
        have e2 : (w2.setCell ⟨gs, x.f0.toNat, none⟩ (.string x.f1)).drew.cell? ⟨wr.heap.size, 1, none⟩ = some (.string x.f1) := blk_cell (blk_drew (blk_far hnb (blk_ne hnb hsc (by decide)) _)) 1
        have HR2 := Aside0.mk (Kd.R_putn HD2.out.2.2.1 x.f0 x.f1)
        have HGS := Aside0.mk hgs
        have HSC := Aside0.mk hsc
        have HE := Aside0.mk (And.intro e0 (And.intro e1 e2))
        have y1 : decide (0 ≤ x.f0) = true := decide_eq_true z0
        have y2 : decide (x.f0 < (s.length : Int)) = true := decide_eq_true z1
        clear hb2 HNB HAB HDA HKA HPX hnb hsc hgs hx0 hx1 e0 e1 e2
        go_region_held3 (fun W => W.cell? ⟨g, 0, none⟩ = some (.slice (some ⟨gs, 0, none⟩) s.length y0) ∧ W.cell? ⟨wr.heap.size, 0, none⟩ = some (.int .i64 x.f0) ∧ W.cell? ⟨wr.heap.size, 1, none⟩ = some (.string x.f1))
          (first | exact ⟨d0, hn0, hn1⟩ | exact HE.out)
          (first | fail)
        go_wp2_with fail
        go_roundw
        case rel => exact ⟨i + 1, ys.set x.f0.toNat x.f1, by omega, by go_num, ⟨by rw [List.length_set]; exact HL.out⟩, HS2, ⟨DiskAt.below (show DiskAt w0 (w2.setCell ⟨gs, x.f0.toNat, none⟩ (.string x.f1)) g _ _ vk _ c a q from ⟨HD2.out.1, blk_far HD2.out.2.1 (blk_ne HD2.out.2.1 HSC.out (by decide)) _, HR2.out, Kd.R_set HD2.out.2.2.2.1 HSC.out (ne_pend (by decide)) _ _, Kd.R_set HD2.out.2.2.2.2 HSC.out (ne_ints (by decide)) _ _⟩) (below_drew (Below.refl _ _))⟩, ⟨below_drew (HB2.out.setCell (p := ⟨gs, x.f0.toNat, none⟩) HGS.out _)⟩, ⟨fun k cells t h1 h2 => blk_drew (blk_far (HK2.out k cells t h1 h2) (blk_ne (HK2.out k cells t h1 h2) HSC.out (Ne.symm h2)) _)⟩⟩
        case measure => simp [intOf]; omega
    · have he : i = c.length := by omega
      have c1 : decide ((i : Int) < (c.length : Int)) = false := decide_eq_false (by omega)
      have HE := Aside0.mk (show ys = settleL st c 0 s from by
        have h := HS.out
        rw [he, List.drop_length, settleL] at h
        exact h)
      obtain ⟨d0, d1, d2, d3, f0, f1, f2, f3⟩ := cells4 HD.out.2.1
      clear HS he
      go_wp2_with fail
      go_end0
      rw [← HE.out]
      exact ⟨rfl, ⟨HD.out.1, blk_set HD.out.2.1 1 _, Kd.R_set HD.out.2.2.1 HD.out.2.1 (ne_string (by decide)) 1 _, Kd.R_nil _ _ _ _ _, Kd.R_set HD.out.2.2.2.2 HD.out.2.1 (ne_ints (by decide)) 1 _⟩, HB.out.setCell (p := ⟨g, 1, none⟩) HD.out.1 _, fun k cells t h1 hk h2 => (Below.heap_setCell _ _ _ k hk).trans (HK.out k cells t h1 h2)⟩
set_option maxHeartbeats 2000000 in
set_option maxRecDepth 100000 in
theorem crash_closure (l : List Int) (A : Option Addr) (cc gb : Nat) (i : Nat) (w : World) (hn : l.length ≤ 1000000) (hc : w.cell? ⟨gb, 0, none⟩ = some (.slice A l.length cc)) (hC : Kd.C (Kd.int .i64) w A l.length l) : Calls Try.prog 49 #[.int .i64 (i : Int), .pointer (some ⟨gb, 0, none⟩)] w fun e w' => e = .returned (.bool (keepB l i)) ∧ Below w.heap.size w w' := by
  by_cases h : (i : Int) < (l.length : Int)
  · have hk : keepB l i = (rd l (i : Int) != 0) := by unfold keepB; rw [decide_eq_true h]; rfl
    have c1 : decide ((i : Int) < (l.length : Int)) = true := decide_eq_true h
    obtain ⟨ad, e1, hx⟩ := Kd.at_int hC (i : Int) (by omega) h
    cases e1
    rw [Int.toNat_natCast] at hx
    have p1 : 0 ≤ (i : Int) := by omega
    rw [hk]
    clear hk hC
    go_enter Try.func49, Try.ntmps49
    go_wp2_with fail
    go_ret
    exact ⟨rfl, by first | exact Below.refl _ _ | exact below_drew (Below.refl _ _)⟩
  · have hk : keepB l i = false := by unfold keepB; rw [decide_eq_false h]; rfl
    have c1 : decide ((i : Int) < (l.length : Int)) = false := decide_eq_false h
    rw [hk]
    clear hk hC
    go_enter Try.func49, Try.ntmps49
    go_wp2_with fail
    go_ret
    exact ⟨rfl, by first | exact Below.refl _ _ | exact below_drew (Below.refl _ _)⟩
theorem sync_closure (i : Int) (w : World) : Calls Try.prog 48 #[.int .i64 i] w fun e w' => e = .returned (.bool true) ∧ Below w.heap.size w w' := by
  go_enter Try.func48, Try.ntmps48
  go_wp2_with fail
  go_ret
  exact ⟨rfl, Below.refl _ _⟩
set_option maxHeartbeats 4000000 in
set_option maxRecDepth 100000 in
theorem disk_crash (w0 w : World) (g : Nat) (X0 : Option Addr) (y0 : Nat) (X1 : Option Addr) (y1 : Nat) (vk : Value) (s : List ByteArray) (c : List S54) (a : Bool) (q : List Int) (A : Option Addr) (cc : Nat) (l : List Int) (hB : Below w0.heap.size w0 w) (hd : DiskAt w0 w g (.slice X0 s.length y0) (.slice X1 c.length y1) vk s c a q) (hin : ∀ p, p ∈ c → 0 ≤ p.f0 ∧ p.f0 < (s.length : Int)) (hl : c.length ≤ 1000000) (hll : l.length ≤ 1000000)
    (hC : ∀ W, Below w0.heap.size w0 W → (∀ (k : Nat) (cells : Array Value) (t : TypeId), w.heap[k]? = some (.cells cells t (0, 0)) → 9 ≠ t → W.heap[k]? = some (.cells cells t (0, 0))) → Kd.C (Kd.int .i64) W A l.length l) :
    Calls Try.prog 28 #[.pointer (some ⟨g, 0, none⟩), .slice A l.length cc] w fun e w' => e = .returned (.tuple #[]) ∧ DiskAt w0 w' g (.slice X0 s.length y0) (.slice none 0 0) (.slice none 0 0) (settleL (keepB l) c 0 s) [] false [] ∧ Below w0.heap.size w0 w' ∧ ∀ (k : Nat) (cells : Array Value) (t : TypeId), w.heap[k]? = some (.cells cells t (0, 0)) → k ≠ g → 9 ≠ t → w'.heap[k]? = some (.cells cells t (0, 0)) := by
  have HB1 := Aside0.mk (below_alloc hB (.cells #[.slice A l.length cc] 25 (0, 0)))
  have HD1 := Aside0.mk (hd.below (below_alloc (Below.refl _ w) (.cells #[.slice A l.length cc] 25 (0, 0))))
  have HN := Aside0.mk (blk_new w (.cells #[.slice A l.length cc] 25 (0, 0)))
  have HIN := Aside0.mk hin
  have HC := Aside0.mk hC
  have hgl := blk_lt hd.2.1
  have HGL := Aside0.mk hgl
  clear hB hd hin hC hgl
  go_enter Try.func28, Try.ntmps28
  go_wp2_with fail
  refine (disk_settle (keepB l) 49 #[.pointer (some ⟨w.heap.size, 0, none⟩)] (enters_here (by rfl) (by rfl) (by rfl)) w0 (w.alloc (.cells #[.slice A l.length cc] 25 (0, 0))) g X0 y0 X1 y1 vk s c a q HB1.out HD1.out HIN.out hl (fun i W hi hBW hK => crash_closure l A cc w.heap.size i W hll (blk_cell (hK _ _ _ HN.out (by decide)) 0) (HC.out W hBW (fun k cells t h1 h2 => hK k cells t (blk_alloc h1 _) h2)))).mono ?_
  rintro e w2 ⟨rfl, hd2, hb2, hk2⟩
  have HD2 := Aside0.mk hd2
  have HB2 := Aside0.mk hb2
  have HK2 := Aside0.mk hk2
  clear hd2 hb2 hk2 HB1 HD1 HN
  obtain ⟨d0, d1, d2, d3, f0, f1, f2, f3⟩ := cells4 HD2.out.2.1
  go_wp2_with fail
  go_end0
  exact ⟨rfl, ⟨HD2.out.1, blk_set (blk_set HD2.out.2.1 2 _) 3 _, Kd.R_set (Kd.R_set HD2.out.2.2.1 HD2.out.2.1 (ne_string (by decide)) 2 _) (blk_set HD2.out.2.1 2 _) (ne_string (by decide)) 3 _, Kd.R_nil _ _ _ _ _, Kd.R_nil _ _ _ _ _⟩, (HB2.out.setCell (p := ⟨g, 2, none⟩) HD2.out.1 _).setCell (p := ⟨g, 3, none⟩) HD2.out.1 _, fun k cells t h1 hk h2 => (Below.heap_setCell _ _ _ k hk).trans ((Below.heap_setCell _ _ _ k hk).trans (HK2.out k cells t (blk_alloc h1 _) hk h2))⟩
def impl_DiskCrash.f (l0_0 : List ByteArray) (l0_1 : List S54) (a0_2 : Bool) (l0_3 : List Int) (l1 : List Int) : Option (List ByteArray × List S54 × Bool × List Int × Int) :=
  if 4096 < l1.length then some ([], [], false, [], 2) else if diskB l0_0 l0_1 a0_2 l0_3 = true then some (settleL (keepB l1) l0_1 0 l0_0, [], false, [], 0) else some ([], [], false, [], 1)
set_option maxHeartbeats 16000000 in
set_option maxRecDepth 100000 in
theorem impl_DiskCrash.calls (A0_0 : Option Addr) (c0_0 : Nat) (l0_0 : List ByteArray) (A0_1 : Option Addr) (c0_1 : Nat) (l0_1 : List (S54)) (a0_2 : Bool) (A0_3 : Option Addr) (c0_3 : Nat) (l0_3 : List Int) (A1 : Option Addr) (c1 : Nat) (l1 : List Int) (r1 : List ByteArray) (r2 : List (S54)) (r3 : Bool) (r4 : List Int) (r5 : Int) (w : World) (hr0_0 : Kd.C Kd.string w A0_0 l0_0.length l0_0) (hc0_0 : l0_0.length ≤ c0_0) (hr0_1 : Kd.C k54 w A0_1 l0_1.length l0_1) (hc0_1 : l0_1.length ≤ c0_1) (hr0_3 : Kd.C (Kd.int .i64) w A0_3 l0_3.length l0_3) (hc0_3 : l0_3.length ≤ c0_3) (hr1 : Kd.C (Kd.int .i64) w A1 l1.length l1) (hc1 : l1.length ≤ c1) (h : impl_DiskCrash.f l0_0 l0_1 a0_2 l0_3 l1 = some (r1, r2, r3, r4, r5)) :
    Calls Try.prog 10 #[.agg #[.slice A0_0 l0_0.length c0_0, .slice A0_1 l0_1.length c0_1, .bool a0_2, .slice A0_3 l0_3.length c0_3], .slice A1 l1.length c1] w fun e w' => ∃ v0_ v1_ v3_ : Value, e = .returned (.tuple #[.agg #[v0_, v1_, .bool r3, v3_], .int .i64 r5]) ∧ Kd.R Kd.string 9 w' w.heap.size (fun _ => True) v0_ r1 ∧ Kd.R k54 54 w' w.heap.size (fun _ => True) v1_ r2 ∧ Kd.R (Kd.int .i64) 3 w' w.heap.size (fun _ => True) v3_ r4 ∧ Below w.heap.size w w' := by
  unfold impl_DiskCrash.f at h
  have hu := Try.underlying27
  have HR0 := Aside0.mk hr0_0
  have HR1 := Aside0.mk hr0_1
  have HR3 := Aside0.mk hr0_3
  have HR4 := Aside0.mk hr1
  clear hr1
  have hB0 : Below w.heap.size w ((w.alloc (.cells #[.slice A0_0 l0_0.length c0_0, .slice A0_1 l0_1.length c0_1, .bool a0_2, .slice A0_3 l0_3.length c0_3] 27 (0, 0))).alloc (.cells #[.slice none 0 0, .slice none 0 0, .bool false, .slice none 0 0] 27 (0, 0))) := below_alloc (below_alloc (Below.refl _ w) _) _
  have hD0 : ((w.alloc (.cells #[.slice A0_0 l0_0.length c0_0, .slice A0_1 l0_1.length c0_1, .bool a0_2, .slice A0_3 l0_3.length c0_3] 27 (0, 0))).alloc (.cells #[.slice none 0 0, .slice none 0 0, .bool false, .slice none 0 0] 27 (0, 0))).heap[w.heap.size]? = some (.cells #[.slice A0_0 l0_0.length c0_0, .slice A0_1 l0_1.length c0_1, .bool a0_2, .slice A0_3 l0_3.length c0_3] 27 (0, 0)) := blk_alloc (blk_new w _) _
  have hsz1 : (w.alloc (.cells #[.slice A0_0 l0_0.length c0_0, .slice A0_1 l0_1.length c0_1, .bool a0_2, .slice A0_3 l0_3.length c0_3] 27 (0, 0))).heap.size = w.heap.size + 1 := by show (w.heap.push _).size = _; rw [Array.size_push]
  have hZ0 : ((w.alloc (.cells #[.slice A0_0 l0_0.length c0_0, .slice A0_1 l0_1.length c0_1, .bool a0_2, .slice A0_3 l0_3.length c0_3] 27 (0, 0))).alloc (.cells #[.slice none 0 0, .slice none 0 0, .bool false, .slice none 0 0] 27 (0, 0))).heap[w.heap.size + 1]? = some (.cells #[.slice none 0 0, .slice none 0 0, .bool false, .slice none 0 0] 27 (0, 0)) := by have h := blk_new (w.alloc (.cells #[.slice A0_0 l0_0.length c0_0, .slice A0_1 l0_1.length c0_1, .bool a0_2, .slice A0_3 l0_3.length c0_3] 27 (0, 0))) (.cells #[.slice none 0 0, .slice none 0 0, .bool false, .slice none 0 0] 27 (0, 0)); rw [hsz1] at h; exact h
  have HB0 := Aside0.mk hB0
  have HD0 := Aside0.mk hD0
  have HZ0 := Aside0.mk hZ0
  clear hr0_0 hr0_1 hr0_3 hB0 hD0 hZ0 hsz1
  by_cases h1 : 4096 < l1.length
  · rw [if_pos h1] at h
    simp only [Option.some.injEq, Prod.mk.injEq] at h
    obtain ⟨rfl, rfl, rfl, rfl, rfl⟩ := h
    have hx1 : decide (4096 < (l1.length : Int)) = true := decide_eq_true (by omega)
    go_enter Try.func10, Try.ntmps10
    go_wp2_with fail
    refine bodyPost_ret (results_ct rfl _ _ (w.heap.size + 1) 27 #[.slice none 0 0, .slice none 0 0, .bool false, .slice none 0 0] (0, 0) _ rfl (HZ0.out) Try.underlying27 rfl (by kernel_rfl)) rfl ?_
    exact ⟨_, _, _, rfl, Kd.R_nil _ _ _ _ _, Kd.R_nil _ _ _ _ _, Kd.R_nil _ _ _ _ _, HB0.out⟩
  · rw [if_neg h1] at h
    have hx1 : decide (4096 < (l1.length : Int)) = false := decide_eq_false (by omega)
    have HOK := Aside0.mk (show impl_DiskOK.f l0_0 l0_1 a0_2 l0_3 = some (diskB l0_0 l0_1 a0_2 l0_3) from rfl)
    cases hd : diskB l0_0 l0_1 a0_2 l0_3 with
    | false =>
      rw [hd] at h HOK
      rw [if_neg (by simp)] at h
      simp only [Option.some.injEq, Prod.mk.injEq] at h
      obtain ⟨rfl, rfl, rfl, rfl, rfl⟩ := h
      clear hd
      go_enter Try.func10, Try.ntmps10
      go_wp2_with fail
      refine (impl_DiskOK.calls _ _ _ _ _ _ _ _ _ _ _ _ (Kd.C_below HR0.out HB0.out) hc0_0 (Kd.C_below HR1.out HB0.out) hc0_1 (Kd.C_below HR3.out HB0.out) hc0_3 HOK.out).mono ?_
      rintro e w1 ⟨rfl, hb1⟩
      have HB1 := Aside0.mk (below_step HB0.out hb1)
      have HD1 := Aside0.mk (blk_below HD0.out hb1)
      have HZ1 := Aside0.mk (blk_below HZ0.out hb1)
      obtain ⟨d0, d1, d2, d3, _, _, _, _⟩ := cells4 HD1.out
      obtain ⟨z0, z1, z2, z3, z4, z5, z6, z7⟩ := cells4 HZ1.out
      clear hb1
      go_wp2_with fail
      refine bodyPost_ret (results_ct rfl _ _ (w.heap.size + 1) 27 #[.slice none 0 0, .slice none 0 0, .bool false, .slice none 0 0] (0, 0) _ rfl (set4_blk HZ1.out _ _ _ _) Try.underlying27 rfl (by kernel_rfl)) rfl ?_
      exact ⟨_, _, _, rfl, Kd.R_nil _ _ _ _ _, Kd.R_nil _ _ _ _ _, Kd.R_nil _ _ _ _ _, set4_below HB1.out (by omega) _ _ _ _⟩
    | true =>
      have hl := diskB_len hd
      rw [hd] at h HOK
      rw [if_pos rfl] at h
      clear hd
      have HCL := Aside0.mk (impl_own (s := l0_0) (c := l0_1) a0_2 (q := l0_3) (by omega) (by omega) (by omega))
      have HIN := Aside0.mk (show ∀ p, p ∈ l0_1 → 0 ≤ p.f0 ∧ p.f0 < (l0_0.length : Int) from fun p hp => by
        have h1 := List.all_eq_true.1 hl.2.2.2 p hp
        unfold pendB at h1
        simp only [Bool.and_eq_true, decide_eq_true_eq] at h1
        omega)
      have hm : l0_1.length ≤ 1000000 := by omega
      have hq : l0_3.length ≤ 1000000 := by omega
      clear hl
      simp only [Option.some.injEq, Prod.mk.injEq] at h
      obtain ⟨rfl, rfl, rfl, rfl, rfl⟩ := h
      have hk : l1.length ≤ 1000000 := by omega
      go_enter Try.func10, Try.ntmps10
      go_wp2_with fail
      refine (impl_DiskOK.calls _ _ _ _ _ _ _ _ _ _ _ _ (Kd.C_below HR0.out HB0.out) hc0_0 (Kd.C_below HR1.out HB0.out) hc0_1 (Kd.C_below HR3.out HB0.out) hc0_3 HOK.out).mono ?_
      rintro e w1 ⟨rfl, hb1⟩
      have HB1 := Aside0.mk (below_step HB0.out hb1)
      have HD1 := Aside0.mk (blk_below HD0.out hb1)
      have HZ1 := Aside0.mk (blk_below HZ0.out hb1)
      obtain ⟨d0, d1, d2, d3, _, _, _, _⟩ := cells4 HD1.out
      obtain ⟨z0, z1, z2, z3, z4, z5, z6, z7⟩ := cells4 HZ1.out
      clear hb1
      go_wp2_with fail
      refine (impl_cloneDisk.calls _ _ _ _ _ _ _ _ _ _ _ _ _ _ _ (Kd.C_below HR0.out HB1.out) hc0_0 (Kd.C_below HR1.out HB1.out) hc0_1 (Kd.C_below HR3.out HB1.out) hc0_3 HCL.out).mono ?_
      rintro e w3 ⟨x0, x1, x3, rfl, hs3, hc3, hq3, hb3⟩
      have HB3 := Aside0.mk (below_step HB1.out hb3)
      have HD3 := Aside0.mk (blk_below HD1.out hb3)
      have HZ3 := Aside0.mk (blk_below HZ1.out hb3)
      have hs4 := Kd.R_lower hs3 HB1.out.size
      have hc4 := Kd.R_lower hc3 HB1.out.size
      have hq4 := Kd.R_lower hq3 HB1.out.size
      obtain ⟨X0, y0, rfl, _, _⟩ := Kd.R_reads hs3
      obtain ⟨X1, y1, rfl, _, _⟩ := Kd.R_reads hc3
      obtain ⟨X3, y3, rfl, _, _⟩ := Kd.R_reads hq3
      have HA3 := Aside0.mk (show DiskAt w (w3.alloc (.cells #[.slice X0 l0_0.length y0, .slice X1 l0_1.length y1, .bool a0_2, .slice X3 l0_3.length y3] 27 (0, 0))) w3.heap.size (.slice X0 l0_0.length y0) (.slice X1 l0_1.length y1) (.slice X3 l0_3.length y3) l0_0 l0_1 _ l0_3 from ⟨HB3.out.size, blk_new w3 _, Kd.R_alloc hs4 _, Kd.R_alloc hc4 _, Kd.R_alloc hq4 _⟩)
      have HBA := Aside0.mk (below_alloc HB3.out (.cells #[.slice X0 l0_0.length y0, .slice X1 l0_1.length y1, .bool a0_2, .slice X3 l0_3.length y3] 27 (0, 0)))
      have HDA := Aside0.mk (blk_alloc HD3.out (.cells #[.slice X0 l0_0.length y0, .slice X1 l0_1.length y1, .bool a0_2, .slice X3 l0_3.length y3] 27 (0, 0)))
      have HZA := Aside0.mk (blk_alloc HZ3.out (.cells #[.slice X0 l0_0.length y0, .slice X1 l0_1.length y1, .bool a0_2, .slice X3 l0_3.length y3] 27 (0, 0)))
      have hg3 := blk_lt HZ3.out
      have hgne : w3.heap.size ≠ w.heap.size + 1 := by omega
      have HGN := Aside0.mk hgne
      clear hs3 hc3 hq3 hs4 hc4 hq4 hb3 hg3 hgne d0 d1 d2 d3 z0 z1 z2 z3 z4 z5 z6 z7 HD1 HZ1 HB1
      obtain ⟨d0, d1, d2, d3, _, _, _, _⟩ := cells4 HDA.out
      obtain ⟨z0, z1, z2, z3, z4, z5, z6, z7⟩ := cells4 HZA.out
      obtain ⟨e0, e1, e2, e3, _, _, _, _⟩ := cells4 HA3.out.2.1
      go_wp2_with fail
      refine (disk_crash w _ w3.heap.size X0 y0 X1 y1 _ l0_0 l0_1 a0_2 l0_3 A1 c1 l1 HBA.out HA3.out HIN.out hm hk (fun W hW _ => Kd.C_below HR4.out hW)).mono ?_
      rintro e w4 ⟨rfl, hd4, hb4, hk4⟩
      have HZ4 := Aside0.mk (hk4 _ _ _ HZA.out (by have := HGN.out; omega) (by decide))
      have HB4 := Aside0.mk hb4
      have HA4 := Aside0.mk hd4
      clear hd4 hb4 hk4 d0 d1 d2 d3 z0 z1 z2 z3 z4 z5 z6 z7 e0 e1 e2 e3
      obtain ⟨e0, e1, e2, e3, _, _, _, _⟩ := cells4 HA4.out.2.1
      obtain ⟨z0, z1, z2, z3, z4, z5, z6, z7⟩ := cells4 HZ4.out
      go_wp2_with fail
      refine bodyPost_ret (results_ct rfl _ _ (w.heap.size + 1) 27 #[.slice X0 l0_0.length y0, .slice none 0 0, .bool false, (.slice none 0 0)] (0, 0) _ rfl (set4_blk HZ4.out _ _ _ _) Try.underlying27 rfl (by kernel_rfl)) rfl ?_
      have hfin := DiskAt.set4 HA4.out HZ4.out HGN.out (.slice X0 l0_0.length y0) (.slice none 0 0) (.bool false) (.slice none 0 0)
      exact ⟨_, _, _, rfl, hfin.2.2.1, hfin.2.2.2.1, hfin.2.2.2.2, set4_below HB4.out (by omega) _ _ _ _⟩
theorem keep_ints {w0 w W : World} {X3 : Option Addr} {y3 : Nat} {q : List Int} (h : Kd.R (Kd.int .i64) 3 w w0.heap.size (fun _ => True) (.slice X3 q.length y3) q) (hK : ∀ (k : Nat) (cells : Array Value) (t : TypeId), w.heap[k]? = some (.cells cells t (0, 0)) → 9 ≠ t → W.heap[k]? = some (.cells cells t (0, 0))) : Kd.C (Kd.int .i64) W X3 q.length q := by
  have h2 : Kd.R (Kd.int .i64) 3 W w0.heap.size _ (.slice X3 q.length y3) q := Kd.R_step (Kd.R_bound h) (fun k hk _ => by
    obtain ⟨_, _, _, e, he, cells, hc⟩ := hk
    have e2 : e = 3 := by simpa [Kd.int, Kd.scalar] using he
    rw [hc, hK k cells e hc (by rw [e2]; decide)])
  exact (Kd.R_reads' h2).2.2
set_option maxHeartbeats 4000000 in
set_option maxRecDepth 100000 in
theorem disk_sync_t (w0 w : World) (g : Nat) (X0 : Option Addr) (y0 : Nat) (X1 : Option Addr) (y1 : Nat) (X3 : Option Addr) (y3 : Nat) (s : List ByteArray) (c : List S54) (q : List Int) (hB : Below w0.heap.size w0 w) (hd : DiskAt w0 w g (.slice X0 s.length y0) (.slice X1 c.length y1) (.slice X3 q.length y3) s c true q) (hin : ∀ p, p ∈ c → 0 ≤ p.f0 ∧ p.f0 < (s.length : Int)) (hl : c.length ≤ 1000000) (hll : q.length ≤ 1000000) :
    Calls Try.prog 27 #[.pointer (some ⟨g, 0, none⟩)] w fun e w' => e = .returned (.bool false) ∧ DiskAt w0 w' g (.slice X0 s.length y0) (.slice none 0 0) (.slice none 0 0) (settleL (keepB q) c 0 s) [] false [] ∧ Below w0.heap.size w0 w' ∧ ∀ (k : Nat) (cells : Array Value) (t : TypeId), w.heap[k]? = some (.cells cells t (0, 0)) → k ≠ g → 9 ≠ t → w'.heap[k]? = some (.cells cells t (0, 0)) := by
  have HC := Aside0.mk (disk_crash w0 w g X0 y0 X1 y1 (.slice X3 q.length y3) s c true q X3 y3 q hB hd hin hl hll (fun W _ hK => keep_ints hd.2.2.2.2 hK))
  obtain ⟨d0, d1, d2, d3, _, _, _, _⟩ := cells4 hd.2.1
  clear hB hd hin
  go_enter Try.func27, Try.ntmps27
  go_wp2_with fail
  refine HC.out.mono ?_
  rintro e w2 ⟨rfl, hd2, hb2, hk2⟩
  have HD2 := Aside0.mk hd2
  have HB2 := Aside0.mk hb2
  have HK2 := Aside0.mk hk2
  clear hd2 hb2 hk2 d0 d1 d2 d3
  go_wp2_with fail
  go_ret
  exact ⟨rfl, HD2.out, HB2.out, HK2.out⟩
set_option maxHeartbeats 4000000 in
set_option maxRecDepth 100000 in
theorem disk_sync_f (w0 w : World) (g : Nat) (X0 : Option Addr) (y0 : Nat) (X1 : Option Addr) (y1 : Nat) (vk : Value) (s : List ByteArray) (c : List S54) (q : List Int) (hB : Below w0.heap.size w0 w) (hd : DiskAt w0 w g (.slice X0 s.length y0) (.slice X1 c.length y1) vk s c false q) (hin : ∀ p, p ∈ c → 0 ≤ p.f0 ∧ p.f0 < (s.length : Int)) (hl : c.length ≤ 1000000) :
    Calls Try.prog 27 #[.pointer (some ⟨g, 0, none⟩)] w fun e w' => e = .returned (.bool true) ∧ DiskAt w0 w' g (.slice X0 s.length y0) (.slice none 0 0) vk (settleL (fun _ => true) c 0 s) [] false q ∧ Below w0.heap.size w0 w' ∧ ∀ (k : Nat) (cells : Array Value) (t : TypeId), w.heap[k]? = some (.cells cells t (0, 0)) → k ≠ g → 9 ≠ t → w'.heap[k]? = some (.cells cells t (0, 0)) := by
  have HC := Aside0.mk (disk_settle (fun _ => true) 48 #[] (enters_here (by rfl) (by rfl) (by rfl)) w0 w g X0 y0 X1 y1 vk s c false q hB hd hin hl (fun i W _ _ _ => sync_closure i W))
  obtain ⟨d0, d1, d2, d3, _, _, _, _⟩ := cells4 hd.2.1
  clear hB hd hin
  go_enter Try.func27, Try.ntmps27
  go_wp2_with fail
  refine HC.out.mono ?_
  rintro e w2 ⟨rfl, hd2, hb2, hk2⟩
  have HD2 := Aside0.mk hd2
  have HB2 := Aside0.mk hb2
  have HK2 := Aside0.mk hk2
  clear hd2 hb2 hk2 d0 d1 d2 d3
  go_wp2_with fail
  go_ret
  exact ⟨rfl, HD2.out, HB2.out, HK2.out⟩
def impl_DiskSync.f (l0_0 : List ByteArray) (l0_1 : List S54) (a0_2 : Bool) (l0_3 : List Int) : Option (List ByteArray × List S54 × Bool × List Int × Bool × Int) :=
  if diskB l0_0 l0_1 a0_2 l0_3 = true then (if a0_2 = true then some (settleL (keepB l0_3) l0_1 0 l0_0, [], false, [], false, 0) else some (settleL (fun _ => true) l0_1 0 l0_0, [], false, l0_3, true, 0)) else some ([], [], false, [], false, 1)
set_option maxHeartbeats 16000000 in
set_option maxRecDepth 100000 in
theorem impl_DiskSync.calls (A0_0 : Option Addr) (c0_0 : Nat) (l0_0 : List ByteArray) (A0_1 : Option Addr) (c0_1 : Nat) (l0_1 : List (S54)) (a0_2 : Bool) (A0_3 : Option Addr) (c0_3 : Nat) (l0_3 : List Int) (r1 : List ByteArray) (r2 : List (S54)) (r3 : Bool) (r4 : List Int) (r5 : Bool) (r6 : Int) (w : World) (hr0_0 : Kd.C Kd.string w A0_0 l0_0.length l0_0) (hc0_0 : l0_0.length ≤ c0_0) (hr0_1 : Kd.C k54 w A0_1 l0_1.length l0_1) (hc0_1 : l0_1.length ≤ c0_1) (hr0_3 : Kd.C (Kd.int .i64) w A0_3 l0_3.length l0_3) (hc0_3 : l0_3.length ≤ c0_3) (h : impl_DiskSync.f l0_0 l0_1 a0_2 l0_3 = some (r1, r2, r3, r4, r5, r6)) :
    Calls Try.prog 9 #[.agg #[.slice A0_0 l0_0.length c0_0, .slice A0_1 l0_1.length c0_1, .bool a0_2, .slice A0_3 l0_3.length c0_3]] w fun e w' => ∃ v0_ v1_ v3_ : Value, e = .returned (.tuple #[.agg #[v0_, v1_, .bool r3, v3_], .bool r5, .int .i64 r6]) ∧ Kd.R Kd.string 9 w' w.heap.size (fun _ => True) v0_ r1 ∧ Kd.R k54 54 w' w.heap.size (fun _ => True) v1_ r2 ∧ Kd.R (Kd.int .i64) 3 w' w.heap.size (fun _ => True) v3_ r4 ∧ Below w.heap.size w w' := by
  unfold impl_DiskSync.f at h
  have hu := Try.underlying27
  have HR0 := Aside0.mk hr0_0
  have HR1 := Aside0.mk hr0_1
  have HR3 := Aside0.mk hr0_3
  have hB0 : Below w.heap.size w ((w.alloc (.cells #[.slice A0_0 l0_0.length c0_0, .slice A0_1 l0_1.length c0_1, .bool a0_2, .slice A0_3 l0_3.length c0_3] 27 (0, 0))).alloc (.cells #[.slice none 0 0, .slice none 0 0, .bool false, .slice none 0 0] 27 (0, 0))) := below_alloc (below_alloc (Below.refl _ w) _) _
  have hD0 : ((w.alloc (.cells #[.slice A0_0 l0_0.length c0_0, .slice A0_1 l0_1.length c0_1, .bool a0_2, .slice A0_3 l0_3.length c0_3] 27 (0, 0))).alloc (.cells #[.slice none 0 0, .slice none 0 0, .bool false, .slice none 0 0] 27 (0, 0))).heap[w.heap.size]? = some (.cells #[.slice A0_0 l0_0.length c0_0, .slice A0_1 l0_1.length c0_1, .bool a0_2, .slice A0_3 l0_3.length c0_3] 27 (0, 0)) := blk_alloc (blk_new w _) _
  have hsz1 : (w.alloc (.cells #[.slice A0_0 l0_0.length c0_0, .slice A0_1 l0_1.length c0_1, .bool a0_2, .slice A0_3 l0_3.length c0_3] 27 (0, 0))).heap.size = w.heap.size + 1 := by show (w.heap.push _).size = _; rw [Array.size_push]
  have hZ0 : ((w.alloc (.cells #[.slice A0_0 l0_0.length c0_0, .slice A0_1 l0_1.length c0_1, .bool a0_2, .slice A0_3 l0_3.length c0_3] 27 (0, 0))).alloc (.cells #[.slice none 0 0, .slice none 0 0, .bool false, .slice none 0 0] 27 (0, 0))).heap[w.heap.size + 1]? = some (.cells #[.slice none 0 0, .slice none 0 0, .bool false, .slice none 0 0] 27 (0, 0)) := by have h := blk_new (w.alloc (.cells #[.slice A0_0 l0_0.length c0_0, .slice A0_1 l0_1.length c0_1, .bool a0_2, .slice A0_3 l0_3.length c0_3] 27 (0, 0))) (.cells #[.slice none 0 0, .slice none 0 0, .bool false, .slice none 0 0] 27 (0, 0)); rw [hsz1] at h; exact h
  have HB0 := Aside0.mk hB0
  have HD0 := Aside0.mk hD0
  have HZ0 := Aside0.mk hZ0
  clear hr0_0 hr0_1 hr0_3 hB0 hD0 hZ0 hsz1
  have HOK := Aside0.mk (show impl_DiskOK.f l0_0 l0_1 a0_2 l0_3 = some (diskB l0_0 l0_1 a0_2 l0_3) from rfl)
  cases hd : diskB l0_0 l0_1 a0_2 l0_3 with
  | false =>
    rw [hd] at h HOK
    rw [if_neg (by simp)] at h
    simp only [Option.some.injEq, Prod.mk.injEq] at h
    obtain ⟨rfl, rfl, rfl, rfl, rfl, rfl⟩ := h
    clear hd
    go_enter Try.func9, Try.ntmps9
    go_wp2_with fail
    refine (impl_DiskOK.calls _ _ _ _ _ _ _ _ _ _ _ _ (Kd.C_below HR0.out HB0.out) hc0_0 (Kd.C_below HR1.out HB0.out) hc0_1 (Kd.C_below HR3.out HB0.out) hc0_3 HOK.out).mono ?_
    rintro e w1 ⟨rfl, hb1⟩
    have HB1 := Aside0.mk (below_step HB0.out hb1)
    have HD1 := Aside0.mk (blk_below HD0.out hb1)
    have HZ1 := Aside0.mk (blk_below HZ0.out hb1)
    obtain ⟨d0, d1, d2, d3, _, _, _, _⟩ := cells4 HD1.out
    obtain ⟨z0, z1, z2, z3, z4, z5, z6, z7⟩ := cells4 HZ1.out
    clear hb1
    go_wp2_with fail
    refine bodyPost_ret (results_ctt rfl _ _ (w.heap.size + 1) 27 #[.slice none 0 0, .slice none 0 0, .bool false, .slice none 0 0] (0, 0) _ rfl (set4_blk HZ1.out _ _ _ _) Try.underlying27 rfl (by kernel_rfl)) rfl ?_
    exact ⟨_, _, _, rfl, Kd.R_nil _ _ _ _ _, Kd.R_nil _ _ _ _ _, Kd.R_nil _ _ _ _ _, set4_below HB1.out (by omega) _ _ _ _⟩
  | true =>
    have hl := diskB_len hd
    rw [hd] at h HOK
    rw [if_pos rfl] at h
    clear hd
    have HCL := Aside0.mk (impl_own (s := l0_0) (c := l0_1) a0_2 (q := l0_3) (by omega) (by omega) (by omega))
    have HIN := Aside0.mk (show ∀ p, p ∈ l0_1 → 0 ≤ p.f0 ∧ p.f0 < (l0_0.length : Int) from fun p hp => by
      have h1 := List.all_eq_true.1 hl.2.2.2 p hp
      unfold pendB at h1
      simp only [Bool.and_eq_true, decide_eq_true_eq] at h1
      omega)
    have hm : l0_1.length ≤ 1000000 := by omega
    have hq : l0_3.length ≤ 1000000 := by omega
    clear hl
    cases a0_2 with
    | true =>
      rw [if_pos rfl] at h
      simp only [Option.some.injEq, Prod.mk.injEq] at h
      obtain ⟨rfl, rfl, rfl, rfl, rfl, rfl⟩ := h
      go_enter Try.func9, Try.ntmps9
      go_wp2_with fail
      refine (impl_DiskOK.calls _ _ _ _ _ _ _ _ _ _ _ _ (Kd.C_below HR0.out HB0.out) hc0_0 (Kd.C_below HR1.out HB0.out) hc0_1 (Kd.C_below HR3.out HB0.out) hc0_3 HOK.out).mono ?_
      rintro e w1 ⟨rfl, hb1⟩
      have HB1 := Aside0.mk (below_step HB0.out hb1)
      have HD1 := Aside0.mk (blk_below HD0.out hb1)
      have HZ1 := Aside0.mk (blk_below HZ0.out hb1)
      obtain ⟨d0, d1, d2, d3, _, _, _, _⟩ := cells4 HD1.out
      obtain ⟨z0, z1, z2, z3, z4, z5, z6, z7⟩ := cells4 HZ1.out
      clear hb1
      go_wp2_with fail
      refine (impl_cloneDisk.calls _ _ _ _ _ _ _ _ _ _ _ _ _ _ _ (Kd.C_below HR0.out HB1.out) hc0_0 (Kd.C_below HR1.out HB1.out) hc0_1 (Kd.C_below HR3.out HB1.out) hc0_3 HCL.out).mono ?_
      rintro e w3 ⟨x0, x1, x3, rfl, hs3, hc3, hq3, hb3⟩
      have HB3 := Aside0.mk (below_step HB1.out hb3)
      have HD3 := Aside0.mk (blk_below HD1.out hb3)
      have HZ3 := Aside0.mk (blk_below HZ1.out hb3)
      have hs4 := Kd.R_lower hs3 HB1.out.size
      have hc4 := Kd.R_lower hc3 HB1.out.size
      have hq4 := Kd.R_lower hq3 HB1.out.size
      obtain ⟨X0, y0, rfl, _, _⟩ := Kd.R_reads hs3
      obtain ⟨X1, y1, rfl, _, _⟩ := Kd.R_reads hc3
      obtain ⟨X3, y3, rfl, _, _⟩ := Kd.R_reads hq3
      have HA3 := Aside0.mk (show DiskAt w (w3.alloc (.cells #[.slice X0 l0_0.length y0, .slice X1 l0_1.length y1, .bool true, .slice X3 l0_3.length y3] 27 (0, 0))) w3.heap.size (.slice X0 l0_0.length y0) (.slice X1 l0_1.length y1) (.slice X3 l0_3.length y3) l0_0 l0_1 _ l0_3 from ⟨HB3.out.size, blk_new w3 _, Kd.R_alloc hs4 _, Kd.R_alloc hc4 _, Kd.R_alloc hq4 _⟩)
      have HBA := Aside0.mk (below_alloc HB3.out (.cells #[.slice X0 l0_0.length y0, .slice X1 l0_1.length y1, .bool true, .slice X3 l0_3.length y3] 27 (0, 0)))
      have HDA := Aside0.mk (blk_alloc HD3.out (.cells #[.slice X0 l0_0.length y0, .slice X1 l0_1.length y1, .bool true, .slice X3 l0_3.length y3] 27 (0, 0)))
      have HZA := Aside0.mk (blk_alloc HZ3.out (.cells #[.slice X0 l0_0.length y0, .slice X1 l0_1.length y1, .bool true, .slice X3 l0_3.length y3] 27 (0, 0)))
      have hg3 := blk_lt HZ3.out
      have hgne : w3.heap.size ≠ w.heap.size + 1 := by omega
      have HGN := Aside0.mk hgne
      clear hs3 hc3 hq3 hs4 hc4 hq4 hb3 hg3 hgne d0 d1 d2 d3 z0 z1 z2 z3 z4 z5 z6 z7 HD1 HZ1 HB1
      obtain ⟨d0, d1, d2, d3, _, _, _, _⟩ := cells4 HDA.out
      obtain ⟨z0, z1, z2, z3, z4, z5, z6, z7⟩ := cells4 HZA.out
      obtain ⟨e0, e1, e2, e3, _, _, _, _⟩ := cells4 HA3.out.2.1
      go_wp2_with fail
      refine (disk_sync_t w _ w3.heap.size X0 y0 X1 y1 X3 y3 l0_0 l0_1 l0_3 HBA.out HA3.out HIN.out hm hq).mono ?_
      rintro e w4 ⟨rfl, hd4, hb4, hk4⟩
      have HZ4 := Aside0.mk (hk4 _ _ _ HZA.out (by have := HGN.out; omega) (by decide))
      have HB4 := Aside0.mk hb4
      have HA4 := Aside0.mk hd4
      clear hd4 hb4 hk4 d0 d1 d2 d3 z0 z1 z2 z3 z4 z5 z6 z7 e0 e1 e2 e3
      obtain ⟨e0, e1, e2, e3, _, _, _, _⟩ := cells4 HA4.out.2.1
      obtain ⟨z0, z1, z2, z3, z4, z5, z6, z7⟩ := cells4 HZ4.out
      go_wp2_with fail
      refine bodyPost_ret (results_ctt rfl _ _ (w.heap.size + 1) 27 #[.slice X0 l0_0.length y0, .slice none 0 0, .bool false, (.slice none 0 0)] (0, 0) _ rfl (set4_blk HZ4.out _ _ _ _) Try.underlying27 rfl (by kernel_rfl)) rfl ?_
      have hfin := DiskAt.set4 HA4.out HZ4.out HGN.out (.slice X0 l0_0.length y0) (.slice none 0 0) (.bool false) (.slice none 0 0)
      exact ⟨_, _, _, rfl, hfin.2.2.1, hfin.2.2.2.1, hfin.2.2.2.2, set4_below HB4.out (by omega) _ _ _ _⟩
    | false =>
      rw [if_neg (by simp)] at h
      simp only [Option.some.injEq, Prod.mk.injEq] at h
      obtain ⟨rfl, rfl, rfl, rfl, rfl, rfl⟩ := h
      go_enter Try.func9, Try.ntmps9
      go_wp2_with fail
      refine (impl_DiskOK.calls _ _ _ _ _ _ _ _ _ _ _ _ (Kd.C_below HR0.out HB0.out) hc0_0 (Kd.C_below HR1.out HB0.out) hc0_1 (Kd.C_below HR3.out HB0.out) hc0_3 HOK.out).mono ?_
      rintro e w1 ⟨rfl, hb1⟩
      have HB1 := Aside0.mk (below_step HB0.out hb1)
      have HD1 := Aside0.mk (blk_below HD0.out hb1)
      have HZ1 := Aside0.mk (blk_below HZ0.out hb1)
      obtain ⟨d0, d1, d2, d3, _, _, _, _⟩ := cells4 HD1.out
      obtain ⟨z0, z1, z2, z3, z4, z5, z6, z7⟩ := cells4 HZ1.out
      clear hb1
      go_wp2_with fail
      refine (impl_cloneDisk.calls _ _ _ _ _ _ _ _ _ _ _ _ _ _ _ (Kd.C_below HR0.out HB1.out) hc0_0 (Kd.C_below HR1.out HB1.out) hc0_1 (Kd.C_below HR3.out HB1.out) hc0_3 HCL.out).mono ?_
      rintro e w3 ⟨x0, x1, x3, rfl, hs3, hc3, hq3, hb3⟩
      have HB3 := Aside0.mk (below_step HB1.out hb3)
      have HD3 := Aside0.mk (blk_below HD1.out hb3)
      have HZ3 := Aside0.mk (blk_below HZ1.out hb3)
      have hs4 := Kd.R_lower hs3 HB1.out.size
      have hc4 := Kd.R_lower hc3 HB1.out.size
      have hq4 := Kd.R_lower hq3 HB1.out.size
      obtain ⟨X0, y0, rfl, _, _⟩ := Kd.R_reads hs3
      obtain ⟨X1, y1, rfl, _, _⟩ := Kd.R_reads hc3
      obtain ⟨X3, y3, rfl, _, _⟩ := Kd.R_reads hq3
      have HA3 := Aside0.mk (show DiskAt w (w3.alloc (.cells #[.slice X0 l0_0.length y0, .slice X1 l0_1.length y1, .bool false, .slice X3 l0_3.length y3] 27 (0, 0))) w3.heap.size (.slice X0 l0_0.length y0) (.slice X1 l0_1.length y1) (.slice X3 l0_3.length y3) l0_0 l0_1 _ l0_3 from ⟨HB3.out.size, blk_new w3 _, Kd.R_alloc hs4 _, Kd.R_alloc hc4 _, Kd.R_alloc hq4 _⟩)
      have HBA := Aside0.mk (below_alloc HB3.out (.cells #[.slice X0 l0_0.length y0, .slice X1 l0_1.length y1, .bool false, .slice X3 l0_3.length y3] 27 (0, 0)))
      have HDA := Aside0.mk (blk_alloc HD3.out (.cells #[.slice X0 l0_0.length y0, .slice X1 l0_1.length y1, .bool false, .slice X3 l0_3.length y3] 27 (0, 0)))
      have HZA := Aside0.mk (blk_alloc HZ3.out (.cells #[.slice X0 l0_0.length y0, .slice X1 l0_1.length y1, .bool false, .slice X3 l0_3.length y3] 27 (0, 0)))
      have hg3 := blk_lt HZ3.out
      have hgne : w3.heap.size ≠ w.heap.size + 1 := by omega
      have HGN := Aside0.mk hgne
      clear hs3 hc3 hq3 hs4 hc4 hq4 hb3 hg3 hgne d0 d1 d2 d3 z0 z1 z2 z3 z4 z5 z6 z7 HD1 HZ1 HB1
      obtain ⟨d0, d1, d2, d3, _, _, _, _⟩ := cells4 HDA.out
      obtain ⟨z0, z1, z2, z3, z4, z5, z6, z7⟩ := cells4 HZA.out
      obtain ⟨e0, e1, e2, e3, _, _, _, _⟩ := cells4 HA3.out.2.1
      go_wp2_with fail
      refine (disk_sync_f w _ w3.heap.size X0 y0 X1 y1 _ l0_0 l0_1 l0_3 HBA.out HA3.out HIN.out hm).mono ?_
      rintro e w4 ⟨rfl, hd4, hb4, hk4⟩
      have HZ4 := Aside0.mk (hk4 _ _ _ HZA.out (by have := HGN.out; omega) (by decide))
      have HB4 := Aside0.mk hb4
      have HA4 := Aside0.mk hd4
      clear hd4 hb4 hk4 d0 d1 d2 d3 z0 z1 z2 z3 z4 z5 z6 z7 e0 e1 e2 e3
      obtain ⟨e0, e1, e2, e3, _, _, _, _⟩ := cells4 HA4.out.2.1
      obtain ⟨z0, z1, z2, z3, z4, z5, z6, z7⟩ := cells4 HZ4.out
      go_wp2_with fail
      refine bodyPost_ret (results_ctt rfl _ _ (w.heap.size + 1) 27 #[.slice X0 l0_0.length y0, .slice none 0 0, .bool false, (.slice X3 l0_3.length y3)] (0, 0) _ rfl (set4_blk HZ4.out _ _ _ _) Try.underlying27 rfl (by kernel_rfl)) rfl ?_
      have hfin := DiskAt.set4 HA4.out HZ4.out HGN.out (.slice X0 l0_0.length y0) (.slice none 0 0) (.bool false) (.slice X3 l0_3.length y3)
      exact ⟨_, _, _, rfl, hfin.2.2.1, hfin.2.2.2.1, hfin.2.2.2.2, set4_below HB4.out (by omega) _ _ _ _⟩
theorem on_ {b : Nat → Bool} {L : List (Nat × Tmp × Value)} {a a0 : Act} {i : Nat} {t : Tmp} {v : Value} (ha : a = putSel a0 b L) (k : Nat) (h : L[k]? = some (i, t, v)) (h2 : ((L.drop (k + 1)).all fun x => !(x.2.1 == t)) = true) (h3 : b i = true) (h4 : Nat.ble (t + 1) a0.tmps.size = true) : a.tmps[t]? = some v := by
  rw [ha]
  exact putSel_on (e := (i, t, v)) k h h2 h3 h4
def IsS65 (w0 W : World) (g : Nat) (f0 : List Int) (f1 : Int) (f2 : Int) : Prop := ∃ A0 c0, W.heap[g]? = some (.cells #[.slice A0 f0.length c0, .int .i64 f1, .int .i64 f2] 65 (0, 0)) ∧ w0.heap.size ≤ g ∧ Kd.C (Kd.int .u8) w0 A0 f0.length f0
theorem IsS65.grown {w0 W : World} {g : Nat} {f0 : List Int} {f1 : Int} {f2 : Int} {W1 : World} {row : Option Nat} (h : IsS65 w0 W g f0 f1 f2) (hw : W.grownBy W1 row) (hne : some g ≠ row) : IsS65 w0 W1 g f0 f1 f2 := by
 obtain ⟨A0, c0, hb, hg, hr0⟩ := h
 exact ⟨A0, c0, blk_grown hb hw hne, hg, hr0⟩
theorem IsS65.kept {w0 W : World} {g : Nat} {f0 : List Int} {f1 : Int} {f2 : Int} {W1 : World} {S : Nat → Prop} (h : IsS65 w0 W g f0 f1 f2) (hk : Kept W W1 S) (hne : ¬ S g) : IsS65 w0 W1 g f0 f1 f2 := by
 obtain ⟨A0, c0, hb, hg, hr0⟩ := h
 exact ⟨A0, c0, blk_kept hb hk hne, hg, hr0⟩
theorem IsS65.below {w0 W : World} {g : Nat} {f0 : List Int} {f1 : Int} {f2 : Int} {W1 : World} (h : IsS65 w0 W g f0 f1 f2) (hw : Below W.heap.size W W1) : IsS65 w0 W1 g f0 f1 f2 := h.grown (grown_of_below hw none) (by simp)
theorem IsS65.alloc {w0 W : World} {g : Nat} {f0 : List Int} {f1 : Int} {f2 : Int} (h : IsS65 w0 W g f0 f1 f2) (o : Obj) : IsS65 w0 (W.alloc o) g f0 f1 f2 := h.below (below_alloc (Below.refl _ _) o)
theorem IsS65.drewN {w0 W : World} {g : Nat} {f0 : List Int} {f1 : Int} {f2 : Int} (h : IsS65 w0 W g f0 f1 f2) (m : Nat) : IsS65 w0 (W.drewN m) g f0 f1 f2 := h
theorem IsS65.drew {w0 W : World} {g : Nat} {f0 : List Int} {f1 : Int} {f2 : Int} (h : IsS65 w0 W g f0 f1 f2) : IsS65 w0 W.drew g f0 f1 f2 := h
theorem IsS65.at_ {w0 W : World} {g : Nat} {f0 : List Int} {f1 : Int} {f2 : Int} {w' : World} {m : Nat} (hq : W.drewN m = w') (h : IsS65 w0 W g f0 f1 f2) : IsS65 w0 w' g f0 f1 f2 := by subst hq; exact IsS65.drewN h m
theorem IsS65.apart {w0 W : World} {g : Nat} {f0 : List Int} {f1 : Int} {f2 : Int} {α : Type} {d : Kd α} {e : Nat} {base : Nat} {ok : Nat → Prop} {v : Value} {xs : List α} (h : IsS65 w0 W g f0 f1 f2) (ho : d.R e W base ok v xs) (ht : ∀ q, q ∈ e :: d.E → q ≠ 65) : d.R e W base (fun k => ok k ∧ k ≠ g) v xs := by
 obtain ⟨A0, c0, hb, hg, hr0⟩ := h
 exact Kd.R_types ho hb ht
theorem IsS65.own_ne {w0 W : World} {g : Nat} {f0 : List Int} {f1 : Int} {f2 : Int} {α : Type} {d : Kd α} {e : Nat} {base : Nat} {ok : Nat → Prop} {v : Value} {xs : List α} (h : IsS65 w0 W g f0 f1 f2) (ho : d.R e W base ok v xs) (ht : e ≠ 65) : some g ≠ v.ownBlock := by
 obtain ⟨A0, c0, hb, hg, hr0⟩ := h
 exact Kd.R_ne ho hb ht
theorem IsS65.lt {w0 W : World} {g : Nat} {f0 : List Int} {f1 : Int} {f2 : Int} (h : IsS65 w0 W g f0 f1 f2) : g < W.heap.size := by
 obtain ⟨A0, c0, hb, hg, hr0⟩ := h
 exact blk_lt hb
theorem IsS65.ge {w0 W : World} {g : Nat} {f0 : List Int} {f1 : Int} {f2 : Int} (h : IsS65 w0 W g f0 f1 f2) : w0.heap.size ≤ g := by
 obtain ⟨A0, c0, hb, hg, hr0⟩ := h
 exact hg
theorem IsS65.ne_blk {w0 W : World} {g : Nat} {f0 : List Int} {f1 : Int} {f2 : Int} {a : Nat} {cs : Array Value} {t : TypeId} {fr : Nat × Nat} (h : IsS65 w0 W g f0 f1 f2) (hb2 : W.heap[a]? = some (.cells cs t fr)) (ht : t ≠ 65) : g ≠ a := by
 obtain ⟨A0, c0, hb, hg, hr0⟩ := h
 rintro rfl
 rw [hb] at hb2
 injection hb2 with hb2
 injection hb2 with _ ht2
 exact ht ht2.symm
theorem IsS65.far {w0 W : World} {g : Nat} {f0 : List Int} {f1 : Int} {f2 : Int} {p : Addr} (h : IsS65 w0 W g f0 f1 f2) (hne : g ≠ p.block) (u : Value) : IsS65 w0 (W.setCell p u) g f0 f1 f2 := by
 obtain ⟨A0, c0, hb, hg, hr0⟩ := h
 exact ⟨A0, c0, blk_far hb hne u, hg, hr0⟩
theorem IsS65.set_1 {w0 W : World} {g : Nat} {f0 : List Int} {f1 : Int} {f2 : Int} (h : IsS65 w0 W g f0 f1 f2) (x : Int) : IsS65 w0 (W.setCell ⟨g, 1, none⟩ (.int .i64 x)) g f0 x f2 := by
 obtain ⟨A0, c0, hb, hg, hr0⟩ := h
 exact ⟨A0, c0, by simpa using blk_set hb 1 (.int .i64 x), hg, hr0⟩
theorem IsS65.set_2 {w0 W : World} {g : Nat} {f0 : List Int} {f1 : Int} {f2 : Int} (h : IsS65 w0 W g f0 f1 f2) (x : Int) : IsS65 w0 (W.setCell ⟨g, 2, none⟩ (.int .i64 x)) g f0 f1 x := by
 obtain ⟨A0, c0, hb, hg, hr0⟩ := h
 exact ⟨A0, c0, by simpa using blk_set hb 2 (.int .i64 x), hg, hr0⟩
theorem IsS65.new (w0 W : World) (A0 : Option Addr) (c0 : Nat) (f0 : List Int) (f1 : Int) (f2 : Int) (hB : Below w0.heap.size w0 W) (hr0 : Kd.C (Kd.int .u8) w0 A0 f0.length f0) : IsS65 w0 (W.alloc (.cells #[.slice A0 f0.length c0, .int .i64 f1, .int .i64 f2] 65)) W.heap.size f0 f1 f2 := ⟨A0, c0, by simpa using heap_alloc_new W _, hB.size, hr0⟩
def spec_l00Source.f (l0 : List Int) : Option (List Int × Int × Int) := some (l0, 0, (l0.length : Int) % 1000)
set_option maxHeartbeats 8000000 in
set_option maxRecDepth 100000 in
theorem spec_l00Source.calls (A0 : Option Addr) (c0 : Nat) (l0 : List Int) (r1 : List Int) (r2 : Int) (r3 : Int) (w0 w : World) (hB : Below w0.heap.size w0 w) (hr0 : Kd.C (Kd.int .u8) w0 A0 l0.length l0) (hc0 : l0.length ≤ c0) (h : spec_l00Source.f l0 = some (r1, r2, r3)) :
  Calls Try.prog 17 #[.slice A0 l0.length c0] w fun e w' => ∃ g_ : Nat, e = .returned (.pointer (some ⟨g_, 0, none⟩)) ∧ IsS65 w0 w' g_ r1 r2 r3 ∧ Below w0.heap.size w0 w' ∧ Below w.heap.size w w' := by
 have hu65 := Try.underlying65
 have HR0 := Aside0.mk hr0
 have HC0 := Aside0.mk hc0
 clear hr0 hc0
 have HBW := Aside0.mk (Below.refl w.heap.size w)
 have HW0 := Aside0.mk hB.size
 have HB := Aside0.mk hB
 clear hB
 have H : (some (l0, 0, (l0.length : Int) % 1000)) = some (r1, r2, r3) := h
 clear h
 simp only [Option.some.injEq, Prod.mk.injEq] at H
 obtain ⟨rfl, rfl, rfl⟩ := H
 go_enter Try.func17, Try.ntmps17
 go_wp2_with (first | ((with_reducible refine gate_dst (N := 8) rfl ?_); refine box_event ?hg (N := 8) ?hd (cs := #[.slice A0 l0.length c0, .int .i64 0, .int .i64 ((l0.length : Int) % 1000)]) (t := 65) ?hr ?_; (case hd => rfl); (case hg => rfl); (case hr => first | (go_simp; done) | (go_simp; rfl)); intro gb101 hg w2 hbox hb; have n0_ := Aside0.mk (below_step HBW.out hb); have n1_ := Aside0.mk (below_step (by repeat (first | (with_reducible first | exact HB.out | apply below_alloc | apply pw_below_drewN | apply below_drew1) | exact HB.out)) hb); have n2_ := Aside0.mk (hbox); have n3_ := Aside0.mk ((by rw [hg]; exact (below_size (by repeat (first | (with_reducible first | exact HBW.out | apply below_alloc | apply pw_below_drewN | apply below_drew1) | exact HBW.out))) : w.heap.size ≤ gb101)); have n4_ := Aside0.mk ((Nat.le_trans HW0.out (by rw [hg]; exact (below_size (by repeat (first | (with_reducible first | exact HBW.out | apply below_alloc | apply pw_below_drewN | apply below_drew1) | exact HBW.out))) : w.heap.size ≤ gb101) : w0.heap.size ≤ gb101)); clear HBW; clear HB; have HBW := n0_; have HB := n1_; have BK101 := n2_; have GW101 := n3_; have GE101 := n4_; clear n0_ n1_ n2_ n3_ n4_; clear hb hbox hg))
 go_ret
 exact ⟨_, rfl, (show IsS65 w0 _ gb101 l0 0 ((l0.length : Int) % 1000) from ⟨_, _, by (with_reducible repeat (first | refine blk_drewN ?_ _ | refine blk_drew ?_ | refine blk_alloc ?_ _)); exact BK101.out, GE101.out, HR0.out⟩), by repeat (first | (with_reducible first | exact HB.out | apply below_alloc | apply pw_below_drewN | apply below_drew1 | refine below_set ?_ GE101.out) | exact HB.out), by repeat (first | (with_reducible first | exact HBW.out | apply below_alloc | apply pw_below_drewN | apply below_drew1 | refine below_set ?_ GW101.out) | exact HBW.out)⟩
end Go.Proofs.Ytddommgeaoknbaa.X
