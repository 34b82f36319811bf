import Derived.Test.YtonfmdgklgdgfaaKFnCheck4
import Derived.Test.YtonfmdgklgdgfaaKFnCheck5
import Derived.LoopTactic
import Derived.BigQuiet
namespace Go.Proofs.Ytonfmdgklgdgfaa.X
open Go.RowKit Go.Proofs.YtonfmdgklgdgfaaW.PrintWords Go.Proofs.YtonfmdgklgdgfaaW.PrintLast Go.Proofs.YtonfmdgklgdgfaaW.PrintMore
attribute [local go_sem] xbin_geq xbin_leq xbin_gtr max2_int min2_int max_two min_two max_three min_three max_four min_four
set_option linter.unusedVariables false
set_option linter.unusedSimpArgs false
set_option maxRecDepth 100000
theorem crcF_take (l : List Int) (k : Nat) (h : k < l.length) (r : Nat) : crcF r (l.take (k + 1)) = step8 (crcF r (l.take k) ^^^ (rd l (k : Int)).toNat) := by
  have e : rd l (k : Int) = l[k] := by unfold rd; rw [Int.toNat_natCast]; simp [List.getD_eq_getElem?_getD, h]
  rw [List.take_succ_eq_append_getElem h, crcF_append, e]
  rfl
theorem nib_lt {x c : Nat} (h : x < 4294967296) : nib x c < 4294967296 := by
  unfold nib
  exact Nat.xor_lt_two_pow (n := 32) (by omega) (step4_lt (by omega))
theorem idx_bits (x c : Nat) (h : x < 4294967296) (hc : c < 256) : bits .and .i64 (bits .xor .i64 (x : Int) (c : Int)) 15 = (((x ^^^ c) % 16 : Nat) : Int) := by
  have hx : x ^^^ c < 4294967296 := Nat.xor_lt_two_pow (n := 32) h (by omega)
  rw [i64_xor_nat _ _ (by omega) (by omega)]
  have := i64_and_nat (x ^^^ c) 15 (by omega) (by decide)
  rw [show (15 : Nat) = 2 ^ 4 - 1 from rfl, Nat.and_two_pow_sub_one_eq_mod] at this
  exact this
theorem nib_bits (x c : Nat) (h : x < 4294967296) : bits .xor .i64 ((x : Int) / 16) (tabZ ((x ^^^ c) % 16)) = ((nib x c : Nat) : Int) := by
  have e : (x : Int) / 16 = ((x / 16 : Nat) : Int) := by omega
  have h4 : step4 ((x ^^^ c) % 16) < 4294967296 := step4_lt (by omega)
  unfold tabZ
  rw [e, i64_xor_nat _ _ (by omega) (by omega)]
  rfl
def spec_l01Check.f (l0 : List Int) : Option Int := if (∀ c, c ∈ l0 → 0 ≤ c ∧ c < 256) then some (sumOf32 l0) else none
set_option maxHeartbeats 2000000 in
theorem spec_l01Check.calls (A0 : Option Addr) (c0 : Nat) (l0 : List Int) (r : Int) (w : World) (hr0 : Kd.C (Kd.int .u8) w A0 l0.length l0) (hc0 : l0.length ≤ c0) (h : spec_l01Check.f l0 = some r) :
    Calls Try.prog 56 #[.slice A0 l0.length c0] w fun e w' => e = .returned (.int .i64 r) ∧ Below w.heap.size w w' := by
  unfold spec_l01Check.f at h
  by_cases hb : ∀ c, c ∈ l0 → 0 ≤ c ∧ c < 256
  · rw [if_pos hb] at h
    obtain rfl := Option.some.inj h
    clear h
    have hm : l0.length ≤ 9223372036854775807 := hr0.2.1
    have HR := Aside0.mk hr0
    have HY := Aside0.mk hb
    clear hr0 hb
    have hy : tabRow 16 = #[.int .i64 (tabZ 0), .int .i64 (tabZ 1), .int .i64 (tabZ 2), .int .i64 (tabZ 3), .int .i64 (tabZ 4), .int .i64 (tabZ 5), .int .i64 (tabZ 6), .int .i64 (tabZ 7), .int .i64 (tabZ 8), .int .i64 (tabZ 9), .int .i64 (tabZ 10), .int .i64 (tabZ 11), .int .i64 (tabZ 12), .int .i64 (tabZ 13), .int .i64 (tabZ 14), .int .i64 (tabZ 15)] := rfl
    generalize tabZ 0 = y0 at *
    generalize tabZ 1 = y1 at *
    generalize tabZ 2 = y2 at *
    generalize tabZ 3 = y3 at *
    generalize tabZ 4 = y4 at *
    generalize tabZ 5 = y5 at *
    generalize tabZ 6 = y6 at *
    generalize tabZ 7 = y7 at *
    generalize tabZ 8 = y8 at *
    generalize tabZ 9 = y9 at *
    generalize tabZ 10 = y10 at *
    generalize tabZ 11 = y11 at *
    generalize tabZ 12 = y12 at *
    generalize tabZ 13 = y13 at *
    generalize tabZ 14 = y14 at *
    generalize tabZ 15 = y15 at *
    have HT := Aside0.mk hy
    clear hy
    go_enter Try.func56, Try.ntmps56
    go_wp2_with fail
    refine (l01Table_calls w).mono ?_
    rintro e w1 ⟨rfl, hb1⟩
    rw [HT.out]
    go_wp2_with fail
    have HG := Aside0.mk (show (w1.alloc (.cells #[.int .i64 y0, .int .i64 y1, .int .i64 y2, .int .i64 y3, .int .i64 y4, .int .i64 y5, .int .i64 y6, .int .i64 y7, .int .i64 y8, .int .i64 y9, .int .i64 y10, .int .i64 y11, .int .i64 y12, .int .i64 y13, .int .i64 y14, .int .i64 y15] 82 (0, 0))).heap[w1.heap.size]? = some (.cells (tabRow 16) 82 (0, 0)) from by rw [HT.out]; exact blk_new _ _)
    have HB := Aside0.mk (show Below w.heap.size w (w1.alloc (.cells #[.int .i64 y0, .int .i64 y1, .int .i64 y2, .int .i64 y3, .int .i64 y4, .int .i64 y5, .int .i64 y6, .int .i64 y7, .int .i64 y8, .int .i64 y9, .int .i64 y10, .int .i64 y11, .int .i64 y12, .int .i64 y13, .int .i64 y14, .int .i64 y15] 82 (0, 0))) from hb1.alloc (below_size hb1) _)
    generalize w1.alloc (.cells #[.int .i64 y0, .int .i64 y1, .int .i64 y2, .int .i64 y3, .int .i64 y4, .int .i64 y5, .int .i64 y6, .int .i64 y7, .int .i64 y8, .int .i64 y9, .int .i64 y10, .int .i64 y11, .int .i64 y12, .int .i64 y13, .int .i64 y14, .int .i64 y15] 82 (0, 0)) = w2 at HG HB ⊢
    generalize w1.heap.size = g at HG ⊢
    clear hb1
    go_loopw [4, 5] (fun v4 v5 wr => ∃ k : Nat, k ≤ l0.length ∧ v4 = .int .i64 ((crcF 4294967295 (l0.take k) : Nat) : Int) ∧ v5 = .int .i64 k ∧ wr = w2) (fun v4 v5 _ => l0.length - (intOf v5).toNat)
    case atStart => exact ⟨0, Nat.zero_le _, rfl, rfl, rfl⟩
    case round =>
      obtain ⟨k, hk, rfl, rfl, rfl⟩ := hrel
      have hxl : crcF 4294967295 (l0.take k) < 4294967296 := crcF_lt _ _ (by decide) fun c hc => HY.out c (List.mem_of_mem_take hc)
      by_cases hlt : k < l0.length
      · have c1 : decide ((k : Int) < (l0.length : Int)) = true := decide_eq_true (by omega)
        have p1 : 0 ≤ (k : Int) := by omega
        have q1 : (k : Int) < (l0.length : Int) := by omega
        obtain ⟨ad, e, hx⟩ := Kd.at_int HR.out (k : Int) p1 q1
        cases e
        have hmem : rd l0 (k : Int) ∈ l0 := by
          have e : rd l0 (k : Int) = l0[k] := by unfold rd; rw [Int.toNat_natCast]; simp [List.getD_eq_getElem?_getD, hlt]
          rw [e]; exact List.getElem_mem hlt
        have hbyte := HY.out _ hmem
        have hstep := crcF_take l0 k hlt 4294967295
        obtain ⟨c, hc⟩ : ∃ c : Nat, rd l0 (k : Int) = (c : Int) := ⟨(rd l0 (k : Int)).toNat, by omega⟩
        rw [hc] at hx hbyte hstep
        rw [Int.toNat_natCast] at hx hstep
        have hc2 : c < 256 := by omega
        rw [step8_nib _ _ hc2] at hstep
        replace hx := (HB.out.cell (World.block_lt_of_cell? w _ hx)).trans hx
        have HS := Aside0.mk hstep
        clear hstep hbyte hmem
        generalize crcF 4294967295 (l0.take k) = x at hxl HS ⊢
        replace p1 := eq_true p1
        replace q1 := eq_true q1
        have hn1 : nib x c < 4294967296 := nib_lt hxl
        have hn2 : nib (nib x c) (c / 16) < 4294967296 := nib_lt hn1
        have e1 := idx_bits x c hxl (by omega)
        have e2 := nib_bits x c hxl
        have ed : (c : Int) / 16 = ((c / 16 : Nat) : Int) := by omega
        have e3 := idx_bits (nib x c) (c / 16) hn1 (by omega)
        have e4 := nib_bits (nib x c) (c / 16) hn1
        have y16 : (x ^^^ c) % 16 < 16 := Nat.mod_lt _ (by decide)
        have z16 : (nib x c ^^^ (c / 16)) % 16 < 16 := Nat.mod_lt _ (by decide)
        have hcy : wr.cell? ⟨g, (x ^^^ c) % 16, none⟩ = some (.int .i64 (tabZ ((x ^^^ c) % 16))) := (blk_cell HG.out _).trans (by rw [tabRow_at _ y16, if_pos y16]; rfl)
        have hcz : wr.cell? ⟨g, (nib x c ^^^ (c / 16)) % 16, none⟩ = some (.int .i64 (tabZ ((nib x c ^^^ (c / 16)) % 16))) := (blk_cell HG.out _).trans (by rw [tabRow_at _ z16, if_pos z16]; rfl)
        generalize nib (nib x c) (c / 16) = n2 at *
        generalize nib x c = n1 at *
        generalize c / 16 = d at *
        generalize (x ^^^ c) % 16 = y at *
        generalize (n1 ^^^ d) % 16 = z at *
        generalize tabZ y = ty at *
        generalize tabZ z = tz at *
        have r1 : (0 ≤ (y : Int)) = True := eq_true (by omega)
        have r2 : ((y : Int) < 16) = True := eq_true (by omega)
        have r3 : (0 ≤ (z : Int)) = True := eq_true (by omega)
        have r4 : ((z : Int) < 16) = True := eq_true (by omega)
        go_wp2_with fail
        exact ⟨⟨k + 1, by omega, by rw [HS.out], rfl, trivial⟩, by simp [intOf]; omega⟩
      · have e : k = l0.length := by omega
        have c1 : decide ((k : Int) < (l0.length : Int)) = false := decide_eq_false (by omega)
        have e9 : crcF 4294967295 (l0.take k) = crcF 4294967295 l0 := by rw [e, List.take_length]
        rw [e9] at hxl ⊢
        have e1 : bits .xor .i64 ((crcF 4294967295 l0 : Nat) : Int) 4294967295 = sumOf32 l0 := by
          have := i64_xor_nat (crcF 4294967295 l0) 4294967295 (by omega) (by decide)
          rw [Nat.xor_comm] at this
          exact this
        generalize hS : sumOf32 l0 = s at e1
        generalize crcF 4294967295 l0 = x at e1 ⊢
        go_wp2_with fail
        go_ret
        exact ⟨by rw [hS]; rfl, HB.out⟩
  · rw [if_neg hb] at h
    cases h
end Go.Proofs.Ytonfmdgklgdgfaa.X
namespace Go.Proofs.Ytonfmdgklgdgfaa.X
open Go.RowKit Go.Proofs.YtonfmdgklgdgfaaW.PrintWords Go.Proofs.YtonfmdgklgdgfaaW.PrintLast Go.Proofs.YtonfmdgklgdgfaaW.PrintMore
attribute [local go_sem] xbin_geq xbin_leq xbin_gtr max2_int min2_int max_two min_two max_three min_three max_four min_four
set_option linter.unusedVariables false
set_option linter.unusedSimpArgs false
def spec_Check32.f (l0 : List Int) : Option (Int) := if (l0.length : Int) > 65536 then (some 0) else ((spec_l01Check.f l0).bind fun t138 => (some t138))
set_option maxHeartbeats 8000000 in
set_option maxRecDepth 100000 in
theorem spec_Check32.calls (A0 : Option Addr) (c0 : Nat) (l0 : List Int) (r : Int) (w : World) (hr0 : Kd.C (Kd.int .u8) w A0 l0.length l0) (hc0 : l0.length ≤ c0) (h : spec_Check32.f l0 = some r) :
  Calls Try.prog 22 #[.slice A0 l0.length c0] w fun e w' => e = .returned (.int .i64 r) ∧ Below w.heap.size w w' := by
 have HR0 := Aside0.mk hr0
 have HC0 := Aside0.mk hc0
 clear hr0 hc0
 have HB := Aside0.mk (Below.refl w.heap.size w)
 have H : (if (l0.length : Int) > 65536 then (some 0) else ((spec_l01Check.f l0).bind fun t138 => (some t138))) = some r := h
 clear h
 by_cases c2 : (l0.length : Int) > 65536
 ·rw [if_pos c2] at H
  have c2b0 : decide (65536 < (l0.length : Int)) = true := decide_eq_true c2
  have c2b1 : decide (65536 < l0.length) = true := decide_eq_true (by omega)
  clear c2
  obtain rfl := Option.some.inj H
  go_enter Try.func22, Try.ntmps22
  go_wp2
  go_ret
  exact ⟨by first | rfl | (simp [errW_none, errW_some] <;> rfl) | (simp [*, errW_none, errW_some] <;> rfl), by repeat (first | (with_reducible first | exact HB.out | apply below_alloc | apply pw_below_drewN | apply below_drew1) | exact HB.out)⟩
 ·rw [if_neg c2] at H
  have c2b0 : decide (65536 < (l0.length : Int)) = false := decide_eq_false c2
  have c2b1 : decide (65536 < l0.length) = false := decide_eq_false (by omega)
  clear c2
  replace H := Option.bind_eq_some_iff.mp H
  obtain ⟨t138, A30, H⟩ := H
  replace H : (some t138) = some r := H
  have A3 := Aside0.mk A30
  clear A30
  obtain rfl := Option.some.inj H
  go_enter Try.func22, Try.ntmps22
  go_wp2_with (first | ((with_reducible refine gate_callee (f := 56) rfl ?_); refine goesL_ (some 7) rfl rfl Try.func56 (by kernel_rfl) rfl #[.slice A0 l0.length c0] rfl (by (try simp only [List.map_toArray, List.map_cons, List.map_nil]); first | done | rfl | (simp only [List.length_drop, List.length_take]; rfl)) ?_; (with_reducible refine (spec_l01Check.calls _ _ l0 t138 _ ?side1 ?side2 A3.out).mono ?_); (case side1 => repeat (first | exact HR0.out | (with_reducible refine Kd.C_alloc ?_ _) | (with_reducible refine Kd.C_drewN ?_ _) | (with_reducible refine Kd.C_drew ?_))); (case side2 => exact HC0.out); rintro e w4 ⟨rfl, hb⟩; refine ⟨_, rfl, ?_⟩; have n0_ := Aside0.mk (below_step (by repeat (first | (with_reducible first | exact HB.out | apply below_alloc | apply pw_below_drewN | apply below_drew1) | exact HB.out)) hb); clear HB; have HB := n0_; clear n0_; (try clear hb); (try clear hb2); (try clear hk); (try clear hi)))
  go_ret
  exact ⟨by first | rfl | (simp [errW_none, errW_some] <;> rfl) | (simp [*, errW_none, errW_some] <;> rfl), by repeat (first | (with_reducible first | exact HB.out | apply below_alloc | apply pw_below_drewN | apply below_drew1) | exact HB.out)⟩
end Go.Proofs.Ytonfmdgklgdgfaa.X
namespace Go.Proofs.Ytonfmdgklgdgfaa.X
open Go.RowKit Go.Proofs.YtonfmdgklgdgfaaW.PrintWords Go.Proofs.YtonfmdgklgdgfaaW.PrintLast Go.Proofs.YtonfmdgklgdgfaaW.PrintMore
attribute [local go_sem] xbin_geq xbin_leq xbin_gtr max2_int min2_int max_two min_two max_three min_three max_four min_four
set_option linter.unusedVariables false
set_option linter.unusedSimpArgs false
def laws_at.f (l0 : List Int) (a1 : Int) (a2 : Int) : Option (Int) := if a2 ≤ 1 then (some 0) else (if (l0.length : Int) = 0 then (if a2 = 0 then (none) else (some (Int.tmod (wrap64 (a1 * 7)) a2))) else (if 0 ≤ (Int.tmod a1 (l0.length : Int)) then (if (Int.tmod a1 (l0.length : Int)) < (l0.length : Int) then (if 0 ≤ (Int.tmod (wrap64 (a1 + 1)) (l0.length : Int)) then (if (Int.tmod (wrap64 (a1 + 1)) (l0.length : Int)) < (l0.length : Int) then (if a2 = 0 then (none) else (some (Int.tmod (wrap64 ((wrap64 ((wrap64 ((wrap64 (rd l0 (Int.tmod a1 (l0.length : Int)))) * 31)) + (wrap64 (rd l0 (Int.tmod (wrap64 (a1 + 1)) (l0.length : Int)))))) + (wrap64 (Int.tdiv a1 (l0.length : Int))))) a2))) else (none)) else (none)) else (none)) else (none)))
set_option maxHeartbeats 8000000 in
set_option maxRecDepth 100000 in
theorem laws_at.calls (A0 : Option Addr) (c0 : Nat) (l0 : List Int) (a1 : Int) (a2 : Int) (r : Int) (w : World) (hr0 : Kd.C (Kd.int .u8) w A0 l0.length l0) (hc0 : l0.length ≤ c0) (h : laws_at.f l0 a1 a2 = some r) :
  Calls Try.prog 23 #[.slice A0 l0.length c0, .int .i64 a1, .int .i64 a2] w fun e w' => e = .returned (.int .i64 r) ∧ Drawn0 w w' := by
 have HR0 := Aside0.mk hr0
 have HC0 := Aside0.mk hc0
 clear hr0 hc0
 have H : (if a2 ≤ 1 then (some 0) else (if (l0.length : Int) = 0 then (if a2 = 0 then (none) else (some (Int.tmod (wrap64 (a1 * 7)) a2))) else (if 0 ≤ (Int.tmod a1 (l0.length : Int)) then (if (Int.tmod a1 (l0.length : Int)) < (l0.length : Int) then (if 0 ≤ (Int.tmod (wrap64 (a1 + 1)) (l0.length : Int)) then (if (Int.tmod (wrap64 (a1 + 1)) (l0.length : Int)) < (l0.length : Int) then (if a2 = 0 then (none) else (some (Int.tmod (wrap64 ((wrap64 ((wrap64 ((wrap64 (rd l0 (Int.tmod a1 (l0.length : Int)))) * 31)) + (wrap64 (rd l0 (Int.tmod (wrap64 (a1 + 1)) (l0.length : Int)))))) + (wrap64 (Int.tdiv a1 (l0.length : Int))))) a2))) else (none)) else (none)) else (none)) else (none)))) = some r := h
 clear h
 by_cases c4 : a2 ≤ 1
 ·rw [if_pos c4] at H
  have c4b0 : decide (a2 ≤ 1) = true := decide_eq_true c4
  clear c4
  obtain rfl := Option.some.inj H
  go_enter Try.func23, Try.ntmps23
  go_wp2
  repeat (go_quiet (fail); try go_wp2)
  go_ret
  exact ⟨by first | rfl | (simp; done) | (simp [*]; done), by repeat (first | exact Drawn0.refl _ | apply Drawn0.step)⟩
 ·rw [if_neg c4] at H
  have c4b0 : decide (a2 ≤ 1) = false := decide_eq_false c4
  clear c4
  by_cases c5 : (l0.length : Int) = 0
  ·rw [if_pos c5] at H
   have c5b0 : ((l0.length : Int) == 0) = true := beq_iff_eq.mpr c5
   have c5b1 : ((l0.length : Int) != 0) = false := bne_eq_false_iff_eq.mpr c5
   clear c5
   by_cases c6 : a2 = 0
   ·rw [if_pos c6] at H
    exact absurd H (by simp)
   ·rw [if_neg c6] at H
    have c6b0 : (a2 == 0) = false := beq_eq_false_iff_ne.mpr c6
    have c6b1 : (a2 != 0) = true := bne_iff_ne.mpr c6
    obtain rfl := Option.some.inj H
    go_enter Try.func23, Try.ntmps23
    go_wp2
    repeat (go_quiet (fail); try go_wp2)
    go_ret
    exact ⟨by first | rfl | (simp; done) | (simp [*]; done), by repeat (first | exact Drawn0.refl _ | apply Drawn0.step)⟩
  ·rw [if_neg c5] at H
   have c5b0 : ((l0.length : Int) == 0) = false := beq_eq_false_iff_ne.mpr c5
   have c5b1 : ((l0.length : Int) != 0) = true := bne_iff_ne.mpr c5
   have c5b2 : ¬ (l0 = []) := fun h_ => c5 (by rw [h_]; rfl)
   obtain ⟨ji7, hji7⟩ : ∃ j_ : Int, (Int.tmod a1 (l0.length : Int)) = j_ := ⟨_, rfl⟩
   replace H : (if 0 ≤ (ji7) then (if (ji7) < (l0.length : Int) then (if 0 ≤ (Int.tmod (wrap64 (a1 + 1)) (l0.length : Int)) then (if (Int.tmod (wrap64 (a1 + 1)) (l0.length : Int)) < (l0.length : Int) then (if a2 = 0 then (none) else (some (Int.tmod (wrap64 ((wrap64 ((wrap64 ((wrap64 (rd l0 (ji7))) * 31)) + (wrap64 (rd l0 (Int.tmod (wrap64 (a1 + 1)) (l0.length : Int)))))) + (wrap64 (Int.tdiv a1 (l0.length : Int))))) a2))) else (none)) else (none)) else (none)) else (none)) = some r := by first | (rw [hji7] at H; exact H) | (simp only [hji7] at H ⊢; exact H)
   by_cases c8 : 0 ≤ (ji7)
   ·rw [if_pos c8] at H
    have c8b0 : decide (0 ≤ (ji7)) = true := decide_eq_true c8
    clear c8
    by_cases c9 : (ji7) < (l0.length : Int)
    ·rw [if_pos c9] at H
     have c9b0 : decide ((ji7) < (l0.length : Int)) = true := decide_eq_true c9
     clear c9
     obtain ⟨ji10, hji10⟩ : ∃ j_ : Int, (Int.tmod (wrap64 (a1 + 1)) (l0.length : Int)) = j_ := ⟨_, rfl⟩
     replace H : (if 0 ≤ (ji10) then (if (ji10) < (l0.length : Int) then (if a2 = 0 then (none) else (some (Int.tmod (wrap64 ((wrap64 ((wrap64 ((wrap64 (rd l0 (ji7))) * 31)) + (wrap64 (rd l0 (ji10))))) + (wrap64 (Int.tdiv a1 (l0.length : Int))))) a2))) else (none)) else (none)) = some r := by first | (rw [hji10] at H; exact H) | (simp only [hji10] at H ⊢; exact H)
     by_cases c11 : 0 ≤ (ji10)
     ·rw [if_pos c11] at H
      have c11b0 : decide (0 ≤ (ji10)) = true := decide_eq_true c11
      clear c11
      by_cases c12 : (ji10) < (l0.length : Int)
      ·rw [if_pos c12] at H
       have c12b0 : decide ((ji10) < (l0.length : Int)) = true := decide_eq_true c12
       clear c12
       by_cases c13 : a2 = 0
       ·rw [if_pos c13] at H
        exact absurd H (by simp)
       ·rw [if_neg c13] at H
        have c13b0 : (a2 == 0) = false := beq_eq_false_iff_ne.mpr c13
        have c13b1 : (a2 != 0) = true := bne_iff_ne.mpr c13
        obtain rfl := Option.some.inj H
        have p139 : 0 ≤ ((ji7) : Int) := of_decide_eq_true (by first | (with_reducible assumption) | assumption)
        have q139 : (ji7) < (l0.length : Int) := of_decide_eq_true (by first | (with_reducible assumption) | assumption)
        obtain ⟨ad139, e139, hx139_0⟩ := Kd.at_int HR0.out (ji7) p139 q139
        cases e139
        replace p139 := eq_true p139
        replace q139 := eq_true q139
        have p140 : 0 ≤ ((ji10) : Int) := of_decide_eq_true (by first | (with_reducible assumption) | assumption)
        have q140 : (ji10) < (l0.length : Int) := of_decide_eq_true (by first | (with_reducible assumption) | assumption)
        obtain ⟨ad140, e140, hx140_0⟩ := Kd.at_int HR0.out (ji10) p140 q140
        obtain rfl : ad139 = ad140 := (by injection e140)
        replace p140 := eq_true p140
        replace q140 := eq_true q140
        go_enter Try.func23, Try.ntmps23
        go_wp2
        repeat (go_quiet (fail); try go_wp2)
        go_ret
        exact ⟨by first | rfl | (simp; done) | (simp only [← hji7, ← hji10] <;> (first | rfl | simp)) | (simp [*]; done), by repeat (first | exact Drawn0.refl _ | apply Drawn0.step)⟩
      ·rw [if_neg c12] at H
       exact absurd H (by simp)
     ·rw [if_neg c11] at H
      exact absurd H (by simp)
    ·rw [if_neg c9] at H
     exact absurd H (by simp)
   ·rw [if_neg c8] at H
    exact absurd H (by simp)
end Go.Proofs.Ytonfmdgklgdgfaa.X
