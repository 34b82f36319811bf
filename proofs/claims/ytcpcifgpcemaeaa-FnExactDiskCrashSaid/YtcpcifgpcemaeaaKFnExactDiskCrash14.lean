import Derived.Test.YtcpcifgpcemaeaaKFnExactDiskCrash3
import Derived.Test.YtcpcifgpcemaeaaKFnExactDiskCrash4
import Derived.Test.YtcpcifgpcemaeaaKFnExactDiskCrash9
import Derived.Test.YtcpcifgpcemaeaaKFnExactDiskCrash13
import Derived.LoopTactic
import Derived.WalkSpells
import Derived.Outline
import Derived.Deep.RegionHeld3
namespace Go.Proofs.Ytcpcifgpcemaeaa.X
open Go.RowKit Go.Proofs.YtcpcifgpcemaeaaW.PrintWords Go.Proofs.YtcpcifgpcemaeaaW.PrintLast Go.Proofs.YtcpcifgpcemaeaaW.PrintMore
attribute [local go_sem] xbin_geq xbin_leq xbin_gtr max2_int min2_int max_two min_two max_three min_three max_four min_four
set_option linter.unusedVariables false
set_option linter.unusedSimpArgs false
def settleL (st : Nat → Bool) : List S95 → Nat → List ByteArray → List ByteArray
  | [], _, s => s
  | p :: c, i, s => settleL st c (i + 1) (if st i = true then s.set p.f0.toNat p.f1 else s)
theorem settleL_len (st : Nat → Bool) (c : List S95) : ∀ (i : Nat) (s : List ByteArray), (settleL st c i s).length = s.length := by
  induction c with
  | nil => intro i s; rfl
  | cons p c ih =>
    intro i s
    rw [settleL, ih]
    split <;> simp
def keepB (l : List Int) (i : Nat) : Bool := decide ((i : Int) < (l.length : Int)) && (rd l (i : Int) != 0)
set_option maxHeartbeats 8000000 in
set_option maxRecDepth 100000 in
theorem disk_settle (st : Nat → Bool) (gf : Nat) (lb : Array Value) (eg : ∀ args w, (callFunc gf args).run Try.prog w = .ok (.enter gf args) w) (w0 w : World) (g : Nat) (X0 : Option Addr) (y0 : Nat) (X1 : Option Addr) (y1 : Nat) (vk : Value) (s : List ByteArray) (c : List S95) (a : Bool) (q : List Int) (hB : Below w0.heap.size w0 w) (hd : DiskAt w0 w g (.slice X0 s.length y0) (.slice X1 c.length y1) vk s c a q) (hin : ∀ p, p ∈ c → 0 ≤ p.f0 ∧ p.f0 < (s.length : Int)) (hl : c.length ≤ 1000000)
    (hp : ∀ (i : Nat) (W : World), i < c.length → Below w0.heap.size w0 W → (∀ (k : Nat) (cells : Array Value) (t : TypeId), w.heap[k]? = some (.cells cells t (0, 0)) → 9 ≠ t → W.heap[k]? = some (.cells cells t (0, 0))) → Calls Try.prog gf (#[.int .i64 (i : Int)] ++ lb) W fun e W' => e = .returned (.bool (st i)) ∧ Below W.heap.size W W') :
    Calls Try.prog 119 #[.pointer (some ⟨g, 0, none⟩), .func (.func gf) #[] lb] w fun e w' => e = .returned (.tuple #[]) ∧ DiskAt w0 w' g (.slice X0 s.length y0) (.slice none 0 0) vk (settleL st c 0 s) [] a q ∧ Below w0.heap.size w0 w' ∧ ∀ (k : Nat) (cells : Array Value) (t : TypeId), w.heap[k]? = some (.cells cells t (0, 0)) → k ≠ g → 9 ≠ t → w'.heap[k]? = some (.cells cells t (0, 0)) := by
  have hu := Try.underlying95
  have hu2 := Try.underlying26
  have HB0 := Aside0.mk hB
  have HD0 := Aside0.mk hd
  have HIN := Aside0.mk hin
  have HP := Aside0.mk hp
  obtain ⟨d0, d1, d2, d3, _, _, _, _⟩ := cells4 hd.2.1
  clear hB hd hin hp
  go_enter Try.func119, Try.ntmps119
  go_wp2_with fail
  go_loopw [11] (fun v11 wr => ∃ (i : Nat) (ys : List ByteArray), i ≤ c.length ∧ v11 = .int .i64 i ∧ Aside0 (ys.length = s.length) ∧ Aside0 (settleL st (c.drop i) i ys = settleL st c 0 s) ∧ Aside0 (DiskAt w0 wr g (.slice X0 s.length y0) (.slice X1 c.length y1) vk ys c a q) ∧ Aside0 (Below w0.heap.size w0 wr) ∧ Aside0 (∀ (k : Nat) (cells : Array Value) (t : TypeId), w.heap[k]? = some (.cells cells t (0, 0)) → 9 ≠ t → wr.heap[k]? = some (.cells cells t (0, 0)))) (fun v11 _ => c.length - (intOf v11).toNat)
  case atStart => exact ⟨0, s, by omega, rfl, ⟨rfl⟩, ⟨rfl⟩, HD0, HB0, ⟨fun k cells t h _ => h⟩⟩
  case round =>
    clear HD0 HB0 d0 d1 d2 d3
    obtain ⟨i, ys, hi, rfl, HL, HS, HD, HB, HK⟩ := hrel
    by_cases hlt : i < c.length
    · have c1 : decide ((i : Int) < (c.length : Int)) = true := decide_eq_true (by omega)
      obtain ⟨gc, cc, hv, _, _, ccells, hcc⟩ := Kd.R_form HD.out.2.2.2.1 (by omega)
      injection hv with h1 _ h2
      subst h1; subst h2
      have hCy := (Kd.R_reads' HD.out.2.2.2.1).2.2
      obtain ⟨ad1, e1, hx0, hx1⟩ := at_T95 hCy (i : Int) (by omega) (by omega)
      cases e1
      obtain ⟨x, hx⟩ : ∃ x, x = c[i] := ⟨_, rfl⟩
      have hxy : rd_T95 c (i : Int) = x := by
        rw [hx]
        unfold rd_T95
        rw [Int.toNat_natCast]
        simp [List.getD_eq_getElem?_getD, hlt]
      rw [hxy, Int.toNat_natCast, add_plain] at hx0 hx1
      have hmem : x ∈ c := by rw [hx]; exact List.getElem_mem _
      have HX := Aside0.mk (HIN.out x hmem)
      have hdr : c.drop i = x :: c.drop (i + 1) := by rw [hx]; exact List.drop_eq_getElem_cons hlt
      have HS2 := Aside0.mk (show settleL st (c.drop (i + 1)) (i + 1) (if st i = true then ys.set x.f0.toNat x.f1 else ys) = settleL st c 0 s from by
        have h := HS.out
        rw [hdr, settleL] at h
        exact h)
      have p1 : 0 ≤ (i : Int) := by omega
      have q1 : (i : Int) < (c.length : Int) := by omega
      have hbW : Below w0.heap.size w0 (wr.alloc (.cells #[.int .i64 x.f0, .string x.f1] 95 (0, 0))) := below_alloc HB.out _
      have HPX := Aside0.mk (HP.out i _ hlt hbW (fun k cells t h1 h2 => blk_alloc (HK.out k cells t h1 h2) _))
      have HNB := Aside0.mk (blk_new wr (.cells #[.int .i64 x.f0, .string x.f1] 95 (0, 0)))
      have HAB := Aside0.mk hbW
      have HDA := Aside0.mk (HD.out.below (below_alloc (Below.refl _ wr) (.cells #[.int .i64 x.f0, .string x.f1] 95 (0, 0))))
      have HKA := Aside0.mk (show ∀ (k : Nat) (cells : Array Value) (t : TypeId), w.heap[k]? = some (.cells cells t (0, 0)) → 9 ≠ t → (wr.alloc (.cells #[.int .i64 x.f0, .string x.f1] 95 (0, 0))).heap[k]? = some (.cells cells t (0, 0)) from fun k cells t h1 h2 => blk_alloc (HK.out k cells t h1 h2) _)
      clear hxy hmem hdr hbW hcc ccells hCy HS HD HB HK
      cases hst : st i with
      | false =>
        rw [hst] at HPX HS2
        clear hst hx
        go_wp2_with fail
        refine HPX.out.mono ?_
        rintro e w2 ⟨rfl, hb2⟩
        have HD2 := Aside0.mk (HDA.out.below hb2)
        have HB2 := Aside0.mk (below_step HAB.out hb2)
        have HK2 := Aside0.mk (show ∀ (k : Nat) (cells : Array Value) (t : TypeId), w.heap[k]? = some (.cells cells t (0, 0)) → 9 ≠ t → w2.heap[k]? = some (.cells cells t (0, 0)) from fun k cells t h1 h2 => blk_below (HKA.out k cells t h1 h2) hb2)
        clear hb2 HNB HAB HDA HKA HPX
        go_wp2_with fail
        go_roundw
        case rel => exact ⟨i + 1, ys, by omega, by go_num, HL, HS2, HD2, HB2, HK2⟩
        case measure => simp [intOf]; omega
      | true =>
        rw [hst] at HPX HS2
        clear hst hx
        go_wp2_with fail
        refine HPX.out.mono ?_
        rintro e w2 ⟨rfl, hb2⟩
        go_wp2_with fail
        have HD2 := Aside0.mk (HDA.out.below hb2)
        have HB2 := Aside0.mk (below_step HAB.out hb2)
        have HK2 := Aside0.mk (show ∀ (k : Nat) (cells : Array Value) (t : TypeId), w.heap[k]? = some (.cells cells t (0, 0)) → 9 ≠ t → w2.heap[k]? = some (.cells cells t (0, 0)) from fun k cells t h1 h2 => blk_below (HKA.out k cells t h1 h2) hb2)
        have hnb : w2.heap[wr.heap.size]? = some (.cells #[.int .i64 x.f0, .string x.f1] 95 (0, 0)) := blk_below HNB.out hb2
        have hn0 : w2.drew.cell? ⟨wr.heap.size, 0, none⟩ = some (.int .i64 x.f0) := blk_cell (blk_drew hnb) 0
        have hn1 : w2.drew.cell? ⟨wr.heap.size, 1, none⟩ = some (.string x.f1) := blk_cell (blk_drew hnb) 1
        obtain ⟨d0, _, _, _, _, _, _, _⟩ := cells4 (blk_drew HD2.out.2.1)
        have z0 := HX.out.1
        have z1 := HX.out.2
        obtain ⟨gs, cs, hv, hgs, _, scells, hsc⟩ := Kd.R_form HD2.out.2.2.1 (by have := HL.out; omega)
        injection hv with h1 hn h2
        subst h1; subst h2
        clear hn
        obtain ⟨hs0, hs1⟩ := Kd.R_celln (⟨#[]⟩ : ByteArray) (Kd.R_drew HD2.out.2.2.1) x.f0 z0 z1
        have e0 : (w2.setCell ⟨gs, x.f0.toNat, none⟩ (.string x.f1)).drew.cell? ⟨g, 0, none⟩ = some (.slice (some ⟨gs, 0, none⟩) s.length y0) := blk_cell (blk_drew (blk_far HD2.out.2.1 (blk_ne HD2.out.2.1 hsc (by decide)) _)) 0
        have e1 : (w2.setCell ⟨gs, x.f0.toNat, none⟩ (.string x.f1)).drew.cell? ⟨wr.heap.size, 0, none⟩ = some (.int .i64 x.f0) := blk_cell (blk_drew (blk_far hnb (blk_ne hnb hsc (by decide)) _)) 0
        have e2 : (w2.setCell ⟨gs, x.f0.toNat, none⟩ (.string x.f1)).drew.cell? ⟨wr.heap.size, 1, none⟩ = some (.string x.f1) := blk_cell (blk_drew (blk_far hnb (blk_ne hnb hsc (by decide)) _)) 1
        have HR2 := Aside0.mk (Kd.R_putn HD2.out.2.2.1 x.f0 x.f1)
        have HGS := Aside0.mk hgs
        have HSC := Aside0.mk hsc
        have HE := Aside0.mk (And.intro e0 (And.intro e1 e2))
        have y1 : decide (0 ≤ x.f0) = true := decide_eq_true z0
        have y2 : decide (x.f0 < (s.length : Int)) = true := decide_eq_true z1
        clear hb2 HNB HAB HDA HKA HPX hnb hsc hgs hx0 hx1 e0 e1 e2
        go_region_held3 (fun W => W.cell? ⟨g, 0, none⟩ = some (.slice (some ⟨gs, 0, none⟩) s.length y0) ∧ W.cell? ⟨wr.heap.size, 0, none⟩ = some (.int .i64 x.f0) ∧ W.cell? ⟨wr.heap.size, 1, none⟩ = some (.string x.f1))
          (first | exact ⟨d0, hn0, hn1⟩ | exact HE.out)
          (first | fail)
        go_wp2_with fail
        go_roundw
        case rel => exact ⟨i + 1, ys.set x.f0.toNat x.f1, by omega, by go_num, ⟨by rw [List.length_set]; exact HL.out⟩, HS2, ⟨DiskAt.below (show DiskAt w0 (w2.setCell ⟨gs, x.f0.toNat, none⟩ (.string x.f1)) g _ _ vk _ c a q from ⟨HD2.out.1, blk_far HD2.out.2.1 (blk_ne HD2.out.2.1 HSC.out (by decide)) _, HR2.out, Kd.R_set HD2.out.2.2.2.1 HSC.out (ne_pend (by decide)) _ _, Kd.R_set HD2.out.2.2.2.2 HSC.out (ne_ints (by decide)) _ _⟩) (below_drew (Below.refl _ _))⟩, ⟨below_drew (HB2.out.setCell (p := ⟨gs, x.f0.toNat, none⟩) HGS.out _)⟩, ⟨fun k cells t h1 h2 => blk_drew (blk_far (HK2.out k cells t h1 h2) (blk_ne (HK2.out k cells t h1 h2) HSC.out (Ne.symm h2)) _)⟩⟩
        case measure => simp [intOf]; omega
    · have he : i = c.length := by omega
      have c1 : decide ((i : Int) < (c.length : Int)) = false := decide_eq_false (by omega)
      have HE := Aside0.mk (show ys = settleL st c 0 s from by
        have h := HS.out
        rw [he, List.drop_length, settleL] at h
        exact h)
      obtain ⟨d0, d1, d2, d3, f0, f1, f2, f3⟩ := cells4 HD.out.2.1
      clear HS he
      go_wp2_with fail
      go_end0
      rw [← HE.out]
      exact ⟨rfl, ⟨HD.out.1, blk_set HD.out.2.1 1 _, Kd.R_set HD.out.2.2.1 HD.out.2.1 (ne_string (by decide)) 1 _, Kd.R_nil _ _ _ _ _, Kd.R_set HD.out.2.2.2.2 HD.out.2.1 (ne_ints (by decide)) 1 _⟩, HB.out.setCell (p := ⟨g, 1, none⟩) HD.out.1 _, fun k cells t h1 hk h2 => (Below.heap_setCell _ _ _ k hk).trans (HK.out k cells t h1 h2)⟩
set_option maxHeartbeats 2000000 in
set_option maxRecDepth 100000 in
theorem crash_closure (l : List Int) (A : Option Addr) (cc gb : Nat) (i : Nat) (w : World) (hn : l.length ≤ 1000000) (hc : w.cell? ⟨gb, 0, none⟩ = some (.slice A l.length cc)) (hC : Kd.C (Kd.int .i64) w A l.length l) : Calls Try.prog 120 #[.int .i64 (i : Int), .pointer (some ⟨gb, 0, none⟩)] w fun e w' => e = .returned (.bool (keepB l i)) ∧ Below w.heap.size w w' := by
  by_cases h : (i : Int) < (l.length : Int)
  · have hk : keepB l i = (rd l (i : Int) != 0) := by unfold keepB; rw [decide_eq_true h]; rfl
    have c1 : decide ((i : Int) < (l.length : Int)) = true := decide_eq_true h
    obtain ⟨ad, e1, hx⟩ := Kd.at_int hC (i : Int) (by omega) h
    cases e1
    rw [Int.toNat_natCast] at hx
    have p1 : 0 ≤ (i : Int) := by omega
    rw [hk]
    clear hk hC
    go_enter Try.func120, Try.ntmps120
    go_wp2_with fail
    go_ret
    exact ⟨rfl, by first | exact Below.refl _ _ | exact below_drew (Below.refl _ _)⟩
  · have hk : keepB l i = false := by unfold keepB; rw [decide_eq_false h]; rfl
    have c1 : decide ((i : Int) < (l.length : Int)) = false := decide_eq_false h
    rw [hk]
    clear hk hC
    go_enter Try.func120, Try.ntmps120
    go_wp2_with fail
    go_ret
    exact ⟨rfl, by first | exact Below.refl _ _ | exact below_drew (Below.refl _ _)⟩
theorem sync_closure (i : Int) (w : World) : Calls Try.prog 121 #[.int .i64 i] w fun e w' => e = .returned (.bool true) ∧ Below w.heap.size w w' := by
  go_enter Try.func121, Try.ntmps121
  go_wp2_with fail
  go_ret
  exact ⟨rfl, Below.refl _ _⟩
set_option maxHeartbeats 4000000 in
set_option maxRecDepth 100000 in
theorem disk_crash (w0 w : World) (g : Nat) (X0 : Option Addr) (y0 : Nat) (X1 : Option Addr) (y1 : Nat) (vk : Value) (s : List ByteArray) (c : List S95) (a : Bool) (q : List Int) (A : Option Addr) (cc : Nat) (l : List Int) (hB : Below w0.heap.size w0 w) (hd : DiskAt w0 w g (.slice X0 s.length y0) (.slice X1 c.length y1) vk s c a q) (hin : ∀ p, p ∈ c → 0 ≤ p.f0 ∧ p.f0 < (s.length : Int)) (hl : c.length ≤ 1000000) (hll : l.length ≤ 1000000)
    (hC : ∀ W, Below w0.heap.size w0 W → (∀ (k : Nat) (cells : Array Value) (t : TypeId), w.heap[k]? = some (.cells cells t (0, 0)) → 9 ≠ t → W.heap[k]? = some (.cells cells t (0, 0))) → Kd.C (Kd.int .i64) W A l.length l) :
    Calls Try.prog 84 #[.pointer (some ⟨g, 0, none⟩), .slice A l.length cc] w fun e w' => e = .returned (.tuple #[]) ∧ DiskAt w0 w' g (.slice X0 s.length y0) (.slice none 0 0) (.slice none 0 0) (settleL (keepB l) c 0 s) [] false [] ∧ Below w0.heap.size w0 w' ∧ ∀ (k : Nat) (cells : Array Value) (t : TypeId), w.heap[k]? = some (.cells cells t (0, 0)) → k ≠ g → 9 ≠ t → w'.heap[k]? = some (.cells cells t (0, 0)) := by
  have HB1 := Aside0.mk (below_alloc hB (.cells #[.slice A l.length cc] 24 (0, 0)))
  have HD1 := Aside0.mk (hd.below (below_alloc (Below.refl _ w) (.cells #[.slice A l.length cc] 24 (0, 0))))
  have HN := Aside0.mk (blk_new w (.cells #[.slice A l.length cc] 24 (0, 0)))
  have HIN := Aside0.mk hin
  have HC := Aside0.mk hC
  have hgl := blk_lt hd.2.1
  have HGL := Aside0.mk hgl
  clear hB hd hin hC hgl
  go_enter Try.func84, Try.ntmps84
  go_wp2_with fail
  refine (disk_settle (keepB l) 120 #[.pointer (some ⟨w.heap.size, 0, none⟩)] (enters_here (by rfl) (by rfl) (by rfl)) w0 (w.alloc (.cells #[.slice A l.length cc] 24 (0, 0))) g X0 y0 X1 y1 vk s c a q HB1.out HD1.out HIN.out hl (fun i W hi hBW hK => crash_closure l A cc w.heap.size i W hll (blk_cell (hK _ _ _ HN.out (by decide)) 0) (HC.out W hBW (fun k cells t h1 h2 => hK k cells t (blk_alloc h1 _) h2)))).mono ?_
  rintro e w2 ⟨rfl, hd2, hb2, hk2⟩
  have HD2 := Aside0.mk hd2
  have HB2 := Aside0.mk hb2
  have HK2 := Aside0.mk hk2
  clear hd2 hb2 hk2 HB1 HD1 HN
  obtain ⟨d0, d1, d2, d3, f0, f1, f2, f3⟩ := cells4 HD2.out.2.1
  go_wp2_with fail
  go_end0
  exact ⟨rfl, ⟨HD2.out.1, blk_set (blk_set HD2.out.2.1 2 _) 3 _, Kd.R_set (Kd.R_set HD2.out.2.2.1 HD2.out.2.1 (ne_string (by decide)) 2 _) (blk_set HD2.out.2.1 2 _) (ne_string (by decide)) 3 _, Kd.R_nil _ _ _ _ _, Kd.R_nil _ _ _ _ _⟩, (HB2.out.setCell (p := ⟨g, 2, none⟩) HD2.out.1 _).setCell (p := ⟨g, 3, none⟩) HD2.out.1 _, fun k cells t h1 hk h2 => (Below.heap_setCell _ _ _ k hk).trans ((Below.heap_setCell _ _ _ k hk).trans (HK2.out k cells t (blk_alloc h1 _) hk h2))⟩
end Go.Proofs.Ytcpcifgpcemaeaa.X
namespace Go.Proofs.Ytcpcifgpcemaeaa.X
open Go.RowKit Go.Proofs.YtcpcifgpcemaeaaW.PrintWords Go.Proofs.YtcpcifgpcemaeaaW.PrintLast Go.Proofs.YtcpcifgpcemaeaaW.PrintMore
attribute [local go_sem] xbin_geq xbin_leq xbin_gtr max2_int min2_int max_two min_two max_three min_three max_four min_four
set_option linter.unusedVariables false
set_option linter.unusedSimpArgs false
def impl_DiskCrash.f (l0_0 : List ByteArray) (l0_1 : List S95) (a0_2 : Bool) (l0_3 : List Int) (l1 : List Int) : Option (List ByteArray × List S95 × Bool × List Int × Int) :=
  if 4096 < l1.length then some ([], [], false, [], 2) else if diskB l0_0 l0_1 a0_2 l0_3 = true then some (settleL (keepB l1) l0_1 0 l0_0, [], false, [], 0) else some ([], [], false, [], 1)
set_option maxHeartbeats 16000000 in
set_option maxRecDepth 100000 in
theorem impl_DiskCrash.calls (A0_0 : Option Addr) (c0_0 : Nat) (l0_0 : List ByteArray) (A0_1 : Option Addr) (c0_1 : Nat) (l0_1 : List (S95)) (a0_2 : Bool) (A0_3 : Option Addr) (c0_3 : Nat) (l0_3 : List Int) (A1 : Option Addr) (c1 : Nat) (l1 : List Int) (r1 : List ByteArray) (r2 : List (S95)) (r3 : Bool) (r4 : List Int) (r5 : Int) (w : World) (hr0_0 : Kd.C Kd.string w A0_0 l0_0.length l0_0) (hc0_0 : l0_0.length ≤ c0_0) (hr0_1 : Kd.C k95 w A0_1 l0_1.length l0_1) (hc0_1 : l0_1.length ≤ c0_1) (hr0_3 : Kd.C (Kd.int .i64) w A0_3 l0_3.length l0_3) (hc0_3 : l0_3.length ≤ c0_3) (hr1 : Kd.C (Kd.int .i64) w A1 l1.length l1) (hc1 : l1.length ≤ c1) (h : impl_DiskCrash.f l0_0 l0_1 a0_2 l0_3 l1 = some (r1, r2, r3, r4, r5)) :
    Calls Try.prog 34 #[.agg #[.slice A0_0 l0_0.length c0_0, .slice A0_1 l0_1.length c0_1, .bool a0_2, .slice A0_3 l0_3.length c0_3], .slice A1 l1.length c1] w fun e w' => ∃ v0_ v1_ v3_ : Value, e = .returned (.tuple #[.agg #[v0_, v1_, .bool r3, v3_], .int .i64 r5]) ∧ Kd.R Kd.string 9 w' w.heap.size (fun _ => True) v0_ r1 ∧ Kd.R k95 95 w' w.heap.size (fun _ => True) v1_ r2 ∧ Kd.R (Kd.int .i64) 3 w' w.heap.size (fun _ => True) v3_ r4 ∧ Below w.heap.size w w' := by
  unfold impl_DiskCrash.f at h
  have hu := Try.underlying26
  have HR0 := Aside0.mk hr0_0
  have HR1 := Aside0.mk hr0_1
  have HR3 := Aside0.mk hr0_3
  have HR4 := Aside0.mk hr1
  clear hr1
  have hB0 : Below w.heap.size w ((w.alloc (.cells #[.slice A0_0 l0_0.length c0_0, .slice A0_1 l0_1.length c0_1, .bool a0_2, .slice A0_3 l0_3.length c0_3] 26 (0, 0))).alloc (.cells #[.slice none 0 0, .slice none 0 0, .bool false, .slice none 0 0] 26 (0, 0))) := below_alloc (below_alloc (Below.refl _ w) _) _
  have hD0 : ((w.alloc (.cells #[.slice A0_0 l0_0.length c0_0, .slice A0_1 l0_1.length c0_1, .bool a0_2, .slice A0_3 l0_3.length c0_3] 26 (0, 0))).alloc (.cells #[.slice none 0 0, .slice none 0 0, .bool false, .slice none 0 0] 26 (0, 0))).heap[w.heap.size]? = some (.cells #[.slice A0_0 l0_0.length c0_0, .slice A0_1 l0_1.length c0_1, .bool a0_2, .slice A0_3 l0_3.length c0_3] 26 (0, 0)) := blk_alloc (blk_new w _) _
  have hsz1 : (w.alloc (.cells #[.slice A0_0 l0_0.length c0_0, .slice A0_1 l0_1.length c0_1, .bool a0_2, .slice A0_3 l0_3.length c0_3] 26 (0, 0))).heap.size = w.heap.size + 1 := by show (w.heap.push _).size = _; rw [Array.size_push]
  have hZ0 : ((w.alloc (.cells #[.slice A0_0 l0_0.length c0_0, .slice A0_1 l0_1.length c0_1, .bool a0_2, .slice A0_3 l0_3.length c0_3] 26 (0, 0))).alloc (.cells #[.slice none 0 0, .slice none 0 0, .bool false, .slice none 0 0] 26 (0, 0))).heap[w.heap.size + 1]? = some (.cells #[.slice none 0 0, .slice none 0 0, .bool false, .slice none 0 0] 26 (0, 0)) := by have h := blk_new (w.alloc (.cells #[.slice A0_0 l0_0.length c0_0, .slice A0_1 l0_1.length c0_1, .bool a0_2, .slice A0_3 l0_3.length c0_3] 26 (0, 0))) (.cells #[.slice none 0 0, .slice none 0 0, .bool false, .slice none 0 0] 26 (0, 0)); rw [hsz1] at h; exact h
  have HB0 := Aside0.mk hB0
  have HD0 := Aside0.mk hD0
  have HZ0 := Aside0.mk hZ0
  clear hr0_0 hr0_1 hr0_3 hB0 hD0 hZ0 hsz1
  by_cases h1 : 4096 < l1.length
  · rw [if_pos h1] at h
    simp only [Option.some.injEq, Prod.mk.injEq] at h
    obtain ⟨rfl, rfl, rfl, rfl, rfl⟩ := h
    have hx1 : decide (4096 < (l1.length : Int)) = true := decide_eq_true (by omega)
    go_enter Try.func34, Try.ntmps34
    go_wp2_with fail
    refine bodyPost_ret (results_ct rfl _ _ (w.heap.size + 1) 26 #[.slice none 0 0, .slice none 0 0, .bool false, .slice none 0 0] (0, 0) _ rfl (HZ0.out) Try.underlying26 rfl (by kernel_rfl)) rfl ?_
    exact ⟨_, _, _, rfl, Kd.R_nil _ _ _ _ _, Kd.R_nil _ _ _ _ _, Kd.R_nil _ _ _ _ _, HB0.out⟩
  · rw [if_neg h1] at h
    have hx1 : decide (4096 < (l1.length : Int)) = false := decide_eq_false (by omega)
    have HOK := Aside0.mk (show impl_DiskOK.f l0_0 l0_1 a0_2 l0_3 = some (diskB l0_0 l0_1 a0_2 l0_3) from rfl)
    cases hd : diskB l0_0 l0_1 a0_2 l0_3 with
    | false =>
      rw [hd] at h HOK
      rw [if_neg (by simp)] at h
      simp only [Option.some.injEq, Prod.mk.injEq] at h
      obtain ⟨rfl, rfl, rfl, rfl, rfl⟩ := h
      clear hd
      go_enter Try.func34, Try.ntmps34
      go_wp2_with fail
      refine (impl_DiskOK.calls _ _ _ _ _ _ _ _ _ _ _ _ (Kd.C_below HR0.out HB0.out) hc0_0 (Kd.C_below HR1.out HB0.out) hc0_1 (Kd.C_below HR3.out HB0.out) hc0_3 HOK.out).mono ?_
      rintro e w1 ⟨rfl, hb1⟩
      have HB1 := Aside0.mk (below_step HB0.out hb1)
      have HD1 := Aside0.mk (blk_below HD0.out hb1)
      have HZ1 := Aside0.mk (blk_below HZ0.out hb1)
      obtain ⟨d0, d1, d2, d3, _, _, _, _⟩ := cells4 HD1.out
      obtain ⟨z0, z1, z2, z3, z4, z5, z6, z7⟩ := cells4 HZ1.out
      clear hb1
      go_wp2_with fail
      refine bodyPost_ret (results_ct rfl _ _ (w.heap.size + 1) 26 #[.slice none 0 0, .slice none 0 0, .bool false, .slice none 0 0] (0, 0) _ rfl (set4_blk HZ1.out _ _ _ _) Try.underlying26 rfl (by kernel_rfl)) rfl ?_
      exact ⟨_, _, _, rfl, Kd.R_nil _ _ _ _ _, Kd.R_nil _ _ _ _ _, Kd.R_nil _ _ _ _ _, set4_below HB1.out (by omega) _ _ _ _⟩
    | true =>
      have hl := diskB_len hd
      rw [hd] at h HOK
      rw [if_pos rfl] at h
      clear hd
      have HCL := Aside0.mk (impl_own (s := l0_0) (c := l0_1) a0_2 (q := l0_3) (by omega) (by omega) (by omega))
      have HIN := Aside0.mk (show ∀ p, p ∈ l0_1 → 0 ≤ p.f0 ∧ p.f0 < (l0_0.length : Int) from fun p hp => by
        have h1 := List.all_eq_true.1 hl.2.2.2 p hp
        unfold pendB at h1
        simp only [Bool.and_eq_true, decide_eq_true_eq] at h1
        omega)
      have hm : l0_1.length ≤ 1000000 := by omega
      have hq : l0_3.length ≤ 1000000 := by omega
      clear hl
      simp only [Option.some.injEq, Prod.mk.injEq] at h
      obtain ⟨rfl, rfl, rfl, rfl, rfl⟩ := h
      have hk : l1.length ≤ 1000000 := by omega
      go_enter Try.func34, Try.ntmps34
      go_wp2_with fail
      refine (impl_DiskOK.calls _ _ _ _ _ _ _ _ _ _ _ _ (Kd.C_below HR0.out HB0.out) hc0_0 (Kd.C_below HR1.out HB0.out) hc0_1 (Kd.C_below HR3.out HB0.out) hc0_3 HOK.out).mono ?_
      rintro e w1 ⟨rfl, hb1⟩
      have HB1 := Aside0.mk (below_step HB0.out hb1)
      have HD1 := Aside0.mk (blk_below HD0.out hb1)
      have HZ1 := Aside0.mk (blk_below HZ0.out hb1)
      obtain ⟨d0, d1, d2, d3, _, _, _, _⟩ := cells4 HD1.out
      obtain ⟨z0, z1, z2, z3, z4, z5, z6, z7⟩ := cells4 HZ1.out
      clear hb1
      go_wp2_with fail
      refine (impl_cloneDisk.calls _ _ _ _ _ _ _ _ _ _ _ _ _ _ _ (Kd.C_below HR0.out HB1.out) hc0_0 (Kd.C_below HR1.out HB1.out) hc0_1 (Kd.C_below HR3.out HB1.out) hc0_3 HCL.out).mono ?_
      rintro e w3 ⟨x0, x1, x3, rfl, hs3, hc3, hq3, hb3⟩
      have HB3 := Aside0.mk (below_step HB1.out hb3)
      have HD3 := Aside0.mk (blk_below HD1.out hb3)
      have HZ3 := Aside0.mk (blk_below HZ1.out hb3)
      have hs4 := Kd.R_lower hs3 HB1.out.size
      have hc4 := Kd.R_lower hc3 HB1.out.size
      have hq4 := Kd.R_lower hq3 HB1.out.size
      obtain ⟨X0, y0, rfl, _, _⟩ := Kd.R_reads hs3
      obtain ⟨X1, y1, rfl, _, _⟩ := Kd.R_reads hc3
      obtain ⟨X3, y3, rfl, _, _⟩ := Kd.R_reads hq3
      have HA3 := Aside0.mk (show DiskAt w (w3.alloc (.cells #[.slice X0 l0_0.length y0, .slice X1 l0_1.length y1, .bool a0_2, .slice X3 l0_3.length y3] 26 (0, 0))) w3.heap.size (.slice X0 l0_0.length y0) (.slice X1 l0_1.length y1) (.slice X3 l0_3.length y3) l0_0 l0_1 _ l0_3 from ⟨HB3.out.size, blk_new w3 _, Kd.R_alloc hs4 _, Kd.R_alloc hc4 _, Kd.R_alloc hq4 _⟩)
      have HBA := Aside0.mk (below_alloc HB3.out (.cells #[.slice X0 l0_0.length y0, .slice X1 l0_1.length y1, .bool a0_2, .slice X3 l0_3.length y3] 26 (0, 0)))
      have HDA := Aside0.mk (blk_alloc HD3.out (.cells #[.slice X0 l0_0.length y0, .slice X1 l0_1.length y1, .bool a0_2, .slice X3 l0_3.length y3] 26 (0, 0)))
      have HZA := Aside0.mk (blk_alloc HZ3.out (.cells #[.slice X0 l0_0.length y0, .slice X1 l0_1.length y1, .bool a0_2, .slice X3 l0_3.length y3] 26 (0, 0)))
      have hg3 := blk_lt HZ3.out
      have hgne : w3.heap.size ≠ w.heap.size + 1 := by omega
      have HGN := Aside0.mk hgne
      clear hs3 hc3 hq3 hs4 hc4 hq4 hb3 hg3 hgne d0 d1 d2 d3 z0 z1 z2 z3 z4 z5 z6 z7 HD1 HZ1 HB1
      obtain ⟨d0, d1, d2, d3, _, _, _, _⟩ := cells4 HDA.out
      obtain ⟨z0, z1, z2, z3, z4, z5, z6, z7⟩ := cells4 HZA.out
      obtain ⟨e0, e1, e2, e3, _, _, _, _⟩ := cells4 HA3.out.2.1
      go_wp2_with fail
      refine (disk_crash w _ w3.heap.size X0 y0 X1 y1 _ l0_0 l0_1 a0_2 l0_3 A1 c1 l1 HBA.out HA3.out HIN.out hm hk (fun W hW _ => Kd.C_below HR4.out hW)).mono ?_
      rintro e w4 ⟨rfl, hd4, hb4, hk4⟩
      have HZ4 := Aside0.mk (hk4 _ _ _ HZA.out (by have := HGN.out; omega) (by decide))
      have HB4 := Aside0.mk hb4
      have HA4 := Aside0.mk hd4
      clear hd4 hb4 hk4 d0 d1 d2 d3 z0 z1 z2 z3 z4 z5 z6 z7 e0 e1 e2 e3
      obtain ⟨e0, e1, e2, e3, _, _, _, _⟩ := cells4 HA4.out.2.1
      obtain ⟨z0, z1, z2, z3, z4, z5, z6, z7⟩ := cells4 HZ4.out
      go_wp2_with fail
      refine bodyPost_ret (results_ct rfl _ _ (w.heap.size + 1) 26 #[.slice X0 l0_0.length y0, .slice none 0 0, .bool false, (.slice none 0 0)] (0, 0) _ rfl (set4_blk HZ4.out _ _ _ _) Try.underlying26 rfl (by kernel_rfl)) rfl ?_
      have hfin := DiskAt.set4 HA4.out HZ4.out HGN.out (.slice X0 l0_0.length y0) (.slice none 0 0) (.bool false) (.slice none 0 0)
      exact ⟨_, _, _, rfl, hfin.2.2.1, hfin.2.2.2.1, hfin.2.2.2.2, set4_below HB4.out (by omega) _ _ _ _⟩
end Go.Proofs.Ytcpcifgpcemaeaa.X
namespace Go.Proofs.Ytcpcifgpcemaeaa.X
open Go.RowKit Go.Proofs.YtcpcifgpcemaeaaW.PrintWords Go.Proofs.YtcpcifgpcemaeaaW.PrintLast Go.Proofs.YtcpcifgpcemaeaaW.PrintMore
attribute [local go_sem] xbin_geq xbin_leq xbin_gtr max2_int min2_int max_two min_two max_three min_three max_four min_four
set_option linter.unusedVariables false
set_option linter.unusedSimpArgs false
def laws_eqIntS.l0 : Nat → List Int → List Int → Int → Option (Bool)
 | 0, _, _, _ => none
 | k + 1, x0, x1, x5 => if x5 < (x0.length : Int) then (if 0 ≤ x5 then (if x5 < (x1.length : Int) then (if (rd x0 x5) = (rd x1 x5) then (laws_eqIntS.l0 k x0 x1 (wrap64 (x5 + 1))) else (some false)) else (none)) else (none)) else (some true)
def laws_eqIntS.f (k : Nat) (l0 : List Int) (l1 : List Int) : Option (Bool) := if (l0.length : Int) = (l1.length : Int) then (laws_eqIntS.l0 k l0 l1 0) else (some false)
theorem laws_eqIntS.mono_l : ∀ k, (∀ y0 y1 y2, LeO (laws_eqIntS.l0 k y0 y1 y2) (laws_eqIntS.l0 (k + 1) y0 y1 y2))
 | 0 => fun _ _ _ r h => by simp [laws_eqIntS.l0] at h
 | k + 1 => by
  have ih0 := laws_eqIntS.mono_l k
  ·intro y0 y1 y2
   unfold laws_eqIntS.l0
   repeat' first
   | (with_reducible exact ih0 _ _ _)
   | (with_reducible exact LeO.refl _)
   | (with_reducible exact LeO.none _)
   | (with_reducible refine LeO.ite ?_ ?_)
   | (with_reducible refine LeO.bind ?_ (fun _ => ?_))
   | exact ih0 _ _ _
   | exact LeO.none _
   | refine LeO.ite ?_ ?_
   | refine LeO.bind ?_ (fun _ => ?_)
theorem laws_eqIntS.mono : ∀ a0 a1 k, LeO (laws_eqIntS.f k a0 a1) (laws_eqIntS.f (k + 1) a0 a1) := by
 intro a0 a1 k
 have ih0 := laws_eqIntS.mono_l k
 unfold laws_eqIntS.f
 repeat' first
   | (with_reducible exact ih0 _ _ _)
   | (with_reducible exact LeO.refl _)
   | (with_reducible exact LeO.none _)
   | (with_reducible refine LeO.ite ?_ ?_)
   | (with_reducible refine LeO.bind ?_ (fun _ => ?_))
   | exact ih0 _ _ _
   | exact LeO.none _
   | refine LeO.ite ?_ ?_
   | refine LeO.bind ?_ (fun _ => ?_)
set_option maxHeartbeats 8000000 in
set_option maxRecDepth 100000 in
theorem laws_eqIntS.calls (k : Nat) (A0 : Option Addr) (c0 : Nat) (l0 : List Int) (A1 : Option Addr) (c1 : Nat) (l1 : List Int) (r : Bool) (w : World) (hr0 : Kd.C (Kd.int .i64) w A0 l0.length l0) (hc0 : l0.length ≤ c0) (hr1 : Kd.C (Kd.int .i64) w A1 l1.length l1) (hc1 : l1.length ≤ c1) (h : laws_eqIntS.f k l0 l1 = some r) :
  Calls Try.prog 31 #[.slice A0 l0.length c0, .slice A1 l1.length c1] w fun e w' => e = .returned (.bool r) ∧ Drawn0 w w' := by
 have HR0 := Aside0.mk hr0
 have HC0 := Aside0.mk hc0
 clear hr0 hc0
 have HR1 := Aside0.mk hr1
 have HC1 := Aside0.mk hc1
 clear hr1 hc1
 have H : (if (l0.length : Int) = (l1.length : Int) then (laws_eqIntS.l0 k l0 l1 0) else (some false)) = some r := h
 clear h
 by_cases c3 : (l0.length : Int) = (l1.length : Int)
 ·rw [if_pos c3] at H
  have c3b0 : ((l0.length : Int) == (l1.length : Int)) = true := beq_iff_eq.mpr c3
  have c3b1 : ((l0.length : Int) != (l1.length : Int)) = false := bne_eq_false_iff_eq.mpr c3
  have c3b2 : (l0.length == l1.length) = true := by first | simpa using c3 | (simp at c3 ⊢; omega)
  clear c3
  have H' := Aside0.mk H
  clear H
  go_enter Try.func31, Try.ntmps31
  go_wp2
  repeat (go_quiet (fail); try go_wp2)
  go_loopg [5] k (fun kq v5 w' => ∃ (x5_1 : Int), v5 = .int .i64 x5_1 ∧ Aside0 (laws_eqIntS.l0 kq l0 l1 x5_1 = some r) ∧ Aside0 (kq ≤ k) ∧ Drawn0 w w')
  case atStart => exact ⟨(0), (by first | rfl | (simp; done) | (simp [*]; done)), H', ⟨Nat.le_refl _⟩, by repeat (first | exact Drawn0.refl _ | apply Drawn0.step)⟩
  case round =>
   clear H'
   try clear c1
   try clear p2
   try clear c3
   try clear c3b0
   try clear c3b1
   try clear c3b2
   obtain ⟨x5_1, rfl, HA, HK1, ⟨m1, rfl⟩⟩ := hrel
   cases gk with
   | zero => exact absurd HA.out (by simp [laws_eqIntS.l0])
   | succ k1 =>
    have H := HA.out
    clear HA
    simp only [laws_eqIntS.l0] at H
    by_cases c4 : x5_1 < (l0.length : Int)
    ·rw [if_pos c4] at H
     have c4b0 : decide (x5_1 < (l0.length : Int)) = true := decide_eq_true c4
     clear c4
     by_cases c5 : 0 ≤ x5_1
     ·rw [if_pos c5] at H
      have c5b0 : decide (0 ≤ x5_1) = true := decide_eq_true c5
      clear c5
      by_cases c6 : x5_1 < (l1.length : Int)
      ·rw [if_pos c6] at H
       have c6b0 : decide (x5_1 < (l1.length : Int)) = true := decide_eq_true c6
       clear c6
       by_cases c7 : (rd l0 x5_1) = (rd l1 x5_1)
       ·rw [if_pos c7] at H
        have c7b0 : ((rd l0 x5_1) == (rd l1 x5_1)) = true := beq_iff_eq.mpr c7
        have c7b1 : ((rd l0 x5_1) != (rd l1 x5_1)) = false := bne_eq_false_iff_eq.mpr c7
        clear c7
        have H' := Aside0.mk H
        clear H
        have p128 : 0 ≤ (x5_1 : Int) := of_decide_eq_true (by first | (with_reducible assumption) | assumption)
        have q128 : x5_1 < (l0.length : Int) := of_decide_eq_true (by first | (with_reducible assumption) | assumption)
        obtain ⟨ad128, e128, hx128_0⟩ := Kd.at_int HR0.out x5_1 p128 q128
        cases e128
        replace p128 := eq_true p128
        replace q128 := eq_true q128
        have p129 : 0 ≤ (x5_1 : Int) := of_decide_eq_true (by first | (with_reducible assumption) | assumption)
        have q129 : x5_1 < (l1.length : Int) := of_decide_eq_true (by first | (with_reducible assumption) | assumption)
        obtain ⟨ad129, e129, hx129_0⟩ := Kd.at_int HR1.out x5_1 p129 q129
        cases e129
        replace p129 := eq_true p129
        replace q129 := eq_true q129
        go_wp2
        repeat (go_quiet (fail); try go_wp2)
        go_roundg k1
        case measure => have := HK1.out; omega
        case rel => exact ⟨(wrap64 (x5_1 + 1)), (by first | rfl | (simp; done) | (simp [*]; done)), H', ⟨by have := HK1.out; omega⟩, by repeat (first | exact Drawn0.refl _ | apply Drawn0.step)⟩
       ·rw [if_neg c7] at H
        have c7b0 : ((rd l0 x5_1) == (rd l1 x5_1)) = false := beq_eq_false_iff_ne.mpr c7
        have c7b1 : ((rd l0 x5_1) != (rd l1 x5_1)) = true := bne_iff_ne.mpr c7
        obtain rfl := Option.some.inj H
        have p128 : 0 ≤ (x5_1 : Int) := of_decide_eq_true (by first | (with_reducible assumption) | assumption)
        have q128 : x5_1 < (l0.length : Int) := of_decide_eq_true (by first | (with_reducible assumption) | assumption)
        obtain ⟨ad128, e128, hx128_0⟩ := Kd.at_int HR0.out x5_1 p128 q128
        cases e128
        replace p128 := eq_true p128
        replace q128 := eq_true q128
        have p129 : 0 ≤ (x5_1 : Int) := of_decide_eq_true (by first | (with_reducible assumption) | assumption)
        have q129 : x5_1 < (l1.length : Int) := of_decide_eq_true (by first | (with_reducible assumption) | assumption)
        obtain ⟨ad129, e129, hx129_0⟩ := Kd.at_int HR1.out x5_1 p129 q129
        cases e129
        replace p129 := eq_true p129
        replace q129 := eq_true q129
        go_wp2
        repeat (go_quiet (fail); try go_wp2)
        go_ret
        exact ⟨by first | rfl | (simp; done) | (simp [*]; done), by repeat (first | exact Drawn0.refl _ | apply Drawn0.step)⟩
      ·rw [if_neg c6] at H
       exact absurd H (by simp)
     ·rw [if_neg c5] at H
      exact absurd H (by simp)
    ·rw [if_neg c4] at H
     have c4b0 : decide (x5_1 < (l0.length : Int)) = false := decide_eq_false c4
     clear c4
     obtain rfl := Option.some.inj H
     go_wp2
     repeat (go_quiet (fail); try go_wp2)
     go_ret
     exact ⟨by first | rfl | (simp; done) | (simp [*]; done), by repeat (first | exact Drawn0.refl _ | apply Drawn0.step)⟩
 ·rw [if_neg c3] at H
  have c3b0 : ((l0.length : Int) == (l1.length : Int)) = false := beq_eq_false_iff_ne.mpr c3
  have c3b1 : ((l0.length : Int) != (l1.length : Int)) = true := bne_iff_ne.mpr c3
  have c3b2 : (l0.length == l1.length) = false := by first | simpa using c3 | (simp at c3 ⊢; omega)
  obtain rfl := Option.some.inj H
  go_enter Try.func31, Try.ntmps31
  go_wp2
  repeat (go_quiet (fail); try go_wp2)
  go_ret
  exact ⟨by first | rfl | (simp; done) | (simp [*]; done), by repeat (first | exact Drawn0.refl _ | apply Drawn0.step)⟩
end Go.Proofs.Ytcpcifgpcemaeaa.X
