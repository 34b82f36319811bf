import Derived.Test.YtgcncphdjabjjaaKFnExactApplyDiff3
import Derived.Test.YtgcncphdjabjjaaKFnExactApplyDiff13
import Derived.Test.YtgcncphdjabjjaaKFnExactApplyDiff14
import Derived.Test.YtgcncphdjabjjaaKFnExactApplyDiff15
import Derived.Test.YtgcncphdjabjjaaKFnExactApplyDiff16
import Derived.Test.YtgcncphdjabjjaaKFnExactApplyDiff17
import Derived.Test.YtgcncphdjabjjaaKFnExactApplyDiff19
import Derived.Test.YtgcncphdjabjjaaKFnExactApplyDiff20
import Derived.LoopTactic
import Derived.WalkSpells
namespace Go.Proofs.Ytgcncphdjabjjaa.X
open Go.RowKit Go.Proofs.YtgcncphdjabjjaaW.PrintWords Go.Proofs.YtgcncphdjabjjaaW.PrintLast Go.Proofs.YtgcncphdjabjjaaW.PrintMore
attribute [local go_sem] xbin_geq xbin_leq xbin_gtr max2_int min2_int max_two min_two max_three min_three max_four min_four
set_option linter.unusedVariables false
set_option linter.unusedSimpArgs false
instance fineDec (l : List S76) : Decidable (Fine l) := by unfold Fine; infer_instance
def spec_l05Apply.f (l0 : List S76) (l1 : List S82) : Option (List S76 × Int) := if Fine l0 ∧ l0.length ≤ 100000 ∧ l1.length ≤ 100000 then some (applyL l0 l0 l1) else none
set_option maxHeartbeats 8000000 in
set_option maxRecDepth 100000 in
theorem spec_l05Apply.calls (P0_ : Nat → Prop) (A0 : Option Addr) (c0 : Nat) (l0 : List S76) (A1 : Option Addr) (c1 : Nat) (l1 : List S82) (r1 : List S76) (r2 : Int) (w : World) (hs0 : Kd.V k76 76 w w.heap.size (fun k_ => P0_ k_) (.slice A0 l0.length c0) l0) (hr1 : Kd.C k82 w A1 l1.length l1) (hc1 : l1.length ≤ c1) (h : spec_l05Apply.f l0 l1 = some (r1, r2)) :
    Calls Try.prog 61 #[.slice A0 l0.length c0, .slice A1 l1.length c1] w fun e w' => ∃ v0_ : Value, e = .returned (.tuple #[v0_, .int .i64 r2]) ∧ Kd.V k76 76 w' w.heap.size (fun k_ => (P0_ k_ ∨ w.heap.size ≤ k_)) v0_ r1 ∧ Below w.heap.size w w' := by
  unfold spec_l05Apply.f at h
  by_cases hs : Fine l0 ∧ l0.length ≤ 100000 ∧ l1.length ≤ 100000
  · rw [if_pos hs] at h
    have h := Option.some.inj h
    obtain ⟨hf0, hl0, hl1⟩ := hs
    have hu := Try.underlying82
    have hu2 := Try.underlying76
    have HV0 := Aside0.mk (show Kd.V k76 76 w w.heap.size (fun k_ => (P0_ k_ ∨ w.heap.size ≤ k_)) (.slice A0 l0.length c0) l0 from Kd.V_mono hs0 (fun k_ hk => .inl hk))
    have HR := Aside0.mk hr1
    have HE := Aside0.mk h
    have HF0 := Aside0.mk hf0
    clear hs0 hr1 h hf0
    go_enter Try.func61, Try.ntmps61
    go_wp2_with fail
    go_loopw [6, 7] (fun v6 v7 wr => ∃ (i : Nat) (out : List S76), i ≤ l1.length ∧ v7 = .int .i64 i ∧ out.length + (l1.length - i) ≤ 200000 ∧ Aside0 (Fine out) ∧ Aside0 (applyL l0 out (l1.drop i) = (r1, r2)) ∧ Aside0 (Kd.V k76 76 wr w.heap.size (fun k_ => (P0_ k_ ∨ w.heap.size ≤ k_)) v6 out) ∧ Aside0 (Below w.heap.size w wr)) (fun _ v7 _ => l1.length - (intOf v7).toNat)
    case atStart => exact ⟨0, l0, Nat.zero_le _, rfl, by omega, HF0, ⟨by rw [List.drop_zero]; exact HE.out⟩, HV0, ⟨Below.refl _ _⟩⟩
    case round =>
      obtain ⟨i, out, hi, rfl, hlo, HF, HA, HV, HB⟩ := hrel
      obtain ⟨A6, c6, rfl⟩ := Kd.V_slice HV.out
      by_cases hlt : i < l1.length
      · have c1 : decide ((i : Int) < (l1.length : Int)) = true := decide_eq_true (by omega)
        have p1 : 0 ≤ (i : Int) := by omega
        have q1 : (i : Int) < (l1.length : Int) := by omega
        obtain ⟨ad, e, hx0, hx1, hx2, hx3, hx4⟩ := at_T82 HR.out (i : Int) p1 q1
        cases e
        have et : rd_T82 l1 (i : Int) = l1[i] := by unfold rd_T82; rw [Int.toNat_natCast]; simp [List.getD_eq_getElem?_getD, hlt]
        rw [et, Int.toNat_natCast] at hx0 hx1 hx2 hx3 hx4
        have hdr : l1.drop i = l1[i] :: l1.drop (i + 1) := List.drop_eq_getElem_cons hlt
        replace hx0 := (HB.out.cell (World.block_lt_of_cell? w _ hx0)).trans hx0
        replace hx1 := (HB.out.cell (World.block_lt_of_cell? w _ hx1)).trans hx1
        replace hx2 := (HB.out.cell (World.block_lt_of_cell? w _ hx2)).trans hx2
        replace hx3 := (HB.out.cell (World.block_lt_of_cell? w _ hx3)).trans hx3
        replace hx4 := (HB.out.cell (World.block_lt_of_cell? w _ hx4)).trans hx4
        clear et
        rw [hdr] at HA
        clear hdr
        generalize l1[i] = d at hx0 hx1 hx2 hx3 hx4 HA
        have hd1 := diffOne_bool d
        obtain ⟨dk, dold, dnew, dwas, dis⟩ := d
        simp only at hx0 hx1 hx2 hx3 hx4 hd1
        replace p1 := eq_true p1
        replace q1 := eq_true q1
        obtain ⟨K, hK⟩ := spec_get out dk (by omega)
        have HK := Aside0.mk (hK K (Nat.le_refl _))
        clear hK
        have HD := Aside0.mk hd1
        clear hd1
        go_wp2_with fail
        have hv1 := Kd.V_alloc HV.out (.cells #[.string dk, .string dold, .string dnew, .bool dwas, .bool dis] 82 (0, 0))
        obtain ⟨_, hle6, hC6⟩ := Kd.V_reads' hv1
        refine (spec_l01Get.calls K _ _ out dk (getV out dk) (hasAt out dk) _ hC6 hle6 HK.out).mono ?_
        rintro e w1 ⟨rfl, hd⟩
        have hblk : w1.heap[wr.heap.size]? = some (.cells #[.string dk, .string dold, .string dnew, .bool dwas, .bool dis] 82 (0, 0)) := blk_below (blk_new wr (.cells #[.string dk, .string dold, .string dnew, .bool dwas, .bool dis] 82 (0, 0))) hd.below
        have HBK := Aside0.mk hblk
        have HB1 := Aside0.mk (show Below wr.heap.size wr w1 from below_step ((Below.refl _ wr).alloc (Nat.le_refl _) (.cells #[.string dk, .string dold, .string dnew, .bool dwas, .bool dis] 82 (0, 0))) hd.below)
        have b0 := blk_cell hblk 0
        have b1 := blk_cell hblk 1
        have b2 := blk_cell hblk 2
        have b3 := blk_cell hblk 3
        have b4 := blk_cell hblk 4
        simp only [List.getElem?_toArray, List.getElem?_cons_zero, List.getElem?_cons_succ] at b0 b1 b2 b3 b4
        clear hd hv1 hle6 hC6 hblk hx0 hx1 hx2 hx3 hx4
        go_upto_region 7 with fail
        go_cut [71] (fun v71 wc => v71 = .bool (!(diffOne ⟨dk, dold, dnew, dwas, dis⟩)) ∧ Aside0 (Below wr.heap.size wr wc) ∧ Aside0 (wc.heap[wr.heap.size]? = some (.cells #[.string dk, .string dold, .string dnew, .bool dwas, .bool dis] 82 (0, 0))))
        case first =>
          have hsp := spec_pair ⟨dk, dnew⟩
          simp only at hsp
          generalize hok : okP ⟨dk, dnew⟩ = ok at hsp HD
          have HSP := Aside0.mk hsp
          clear hsp hok
          cases ok with
          | false =>
            go_wp2_with fail
            refine (spec_l01Pair.calls dk dnew false _ HSP.out).mono ?_
            rintro e w2 ⟨rfl, hb2⟩
            have HB2 := Aside0.mk (below_step HB1.out hb2)
            have HBK2 := Aside0.mk (blk_below HBK.out hb2)
            clear hb2 b0 b1 b2 b3 b4
            go_wp2_with fail
            go_meet
            case rel => exact ⟨by rw [HD.out]; rfl, HB2, HBK2⟩
          | true =>
            by_cases hsz : dold.size ≤ 90
            · have hz1 : decide (90 < (dold.size : Int)) = false := decide_eq_false (by omega)
              have hz2 := decide_eq_true hsz
              cases dwas with
              | true =>
                cases dis with
                | true =>
                  go_wp2_with fail
                  refine (spec_l01Pair.calls dk dnew true _ HSP.out).mono ?_
                  rintro e w2 ⟨rfl, hb2⟩
                  have HB2 := Aside0.mk (below_step HB1.out hb2)
                  have HBK2 := Aside0.mk (blk_below HBK.out hb2)
                  clear hb2 b0 b1 b2 b3 b4
                  have b0 := blk_cell HBK2.out 0
                  have b1 := blk_cell HBK2.out 1
                  have b2 := blk_cell HBK2.out 2
                  have b3 := blk_cell HBK2.out 3
                  have b4 := blk_cell HBK2.out 4
                  simp only [List.getElem?_toArray, List.getElem?_cons_zero, List.getElem?_cons_succ] at b0 b1 b2 b3 b4
                  go_wp2_with fail
                  go_meet
                  case rel => exact ⟨by rw [HD.out, hz2]; rfl, HB2, HBK2⟩
                | false =>
                  go_wp2_with fail
                  refine (spec_l01Pair.calls dk dnew true _ HSP.out).mono ?_
                  rintro e w2 ⟨rfl, hb2⟩
                  have HB2 := Aside0.mk (below_step HB1.out hb2)
                  have HBK2 := Aside0.mk (blk_below HBK.out hb2)
                  clear hb2 b0 b1 b2 b3 b4
                  have b0 := blk_cell HBK2.out 0
                  have b1 := blk_cell HBK2.out 1
                  have b2 := blk_cell HBK2.out 2
                  have b3 := blk_cell HBK2.out 3
                  have b4 := blk_cell HBK2.out 4
                  simp only [List.getElem?_toArray, List.getElem?_cons_zero, List.getElem?_cons_succ] at b0 b1 b2 b3 b4
                  go_wp2_with fail
                  go_meet
                  case rel => exact ⟨by rw [HD.out, hz2]; cases hq : dnew.toList <;> simp [hq], HB2, HBK2⟩
              | false =>
                cases dis with
                | false =>
                  go_wp2_with fail
                  refine (spec_l01Pair.calls dk dnew true _ HSP.out).mono ?_
                  rintro e w2 ⟨rfl, hb2⟩
                  have HB2 := Aside0.mk (below_step HB1.out hb2)
                  have HBK2 := Aside0.mk (blk_below HBK.out hb2)
                  clear hb2 b0 b1 b2 b3 b4
                  have b0 := blk_cell HBK2.out 0
                  have b1 := blk_cell HBK2.out 1
                  have b2 := blk_cell HBK2.out 2
                  have b3 := blk_cell HBK2.out 3
                  have b4 := blk_cell HBK2.out 4
                  simp only [List.getElem?_toArray, List.getElem?_cons_zero, List.getElem?_cons_succ] at b0 b1 b2 b3 b4
                  go_wp2_with fail
                  go_meet
                  case rel => exact ⟨by rw [HD.out, hz2]; rfl, HB2, HBK2⟩
                | true =>
                  by_cases he : dold.toList = ([] : List UInt8)
                  · have e1 : (dold.toList != ([] : List UInt8)) = false := by simp [he]
                    have e2 : (dold.toList == ([] : List UInt8)) = true := by simp [he]
                    go_wp2_with fail
                    refine (spec_l01Pair.calls dk dnew true _ HSP.out).mono ?_
                    rintro e w2 ⟨rfl, hb2⟩
                    have HB2 := Aside0.mk (below_step HB1.out hb2)
                    have HBK2 := Aside0.mk (blk_below HBK.out hb2)
                    clear hb2 b0 b1 b2 b3 b4
                    have b0 := blk_cell HBK2.out 0
                    have b1 := blk_cell HBK2.out 1
                    have b2 := blk_cell HBK2.out 2
                    have b3 := blk_cell HBK2.out 3
                    have b4 := blk_cell HBK2.out 4
                    simp only [List.getElem?_toArray, List.getElem?_cons_zero, List.getElem?_cons_succ] at b0 b1 b2 b3 b4
                    go_wp2_with fail
                    go_meet
                    case rel => exact ⟨by rw [HD.out, hz2]; simp [he], HB2, HBK2⟩
                  · have e1 : (dold.toList != ([] : List UInt8)) = true := by simp [he]
                    have e2 : (dold.toList == ([] : List UInt8)) = false := by simp [he]
                    go_wp2_with fail
                    refine (spec_l01Pair.calls dk dnew true _ HSP.out).mono ?_
                    rintro e w2 ⟨rfl, hb2⟩
                    have HB2 := Aside0.mk (below_step HB1.out hb2)
                    have HBK2 := Aside0.mk (blk_below HBK.out hb2)
                    clear hb2 b0 b1 b2 b3 b4
                    have b0 := blk_cell HBK2.out 0
                    have b1 := blk_cell HBK2.out 1
                    have b2 := blk_cell HBK2.out 2
                    have b3 := blk_cell HBK2.out 3
                    have b4 := blk_cell HBK2.out 4
                    simp only [List.getElem?_toArray, List.getElem?_cons_zero, List.getElem?_cons_succ] at b0 b1 b2 b3 b4
                    go_wp2_with fail
                    go_meet
                    case rel => exact ⟨by rw [HD.out, hz2]; simp [he], HB2, HBK2⟩
            · have hz1 : decide (90 < (dold.size : Int)) = true := decide_eq_true (by omega)
              go_wp2_with fail
              refine (spec_l01Pair.calls dk dnew true _ HSP.out).mono ?_
              rintro e w2 ⟨rfl, hb2⟩
              have HB2 := Aside0.mk (below_step HB1.out hb2)
              have HBK2 := Aside0.mk (blk_below HBK.out hb2)
              clear hb2 b0 b1 b2 b3 b4
              have b1 := blk_cell HBK2.out 1
              simp only [List.getElem?_toArray, List.getElem?_cons_zero, List.getElem?_cons_succ] at b1
              go_wp2_with fail
              go_meet
              case rel => exact ⟨by rw [HD.out, decide_eq_false hsz]; rfl, HB2, HBK2⟩
        case rest =>
          obtain ⟨rfl, HBc, HBKc⟩ := hcut
          have HBw := Aside0.mk (below_step HB.out HBc.out)
          have b0 := blk_cell HBKc.out 0
          have b1 := blk_cell HBKc.out 1
          have b2 := blk_cell HBKc.out 2
          have b3 := blk_cell HBKc.out 3
          have b4 := blk_cell HBKc.out 4
          simp only [List.getElem?_toArray, List.getElem?_cons_zero, List.getElem?_cons_succ] at b0 b1 b2 b3 b4
          clear HD HK HB1 HBK
          cases hone : diffOne ⟨dk, dold, dnew, dwas, dis⟩ with
          | false =>
            go_wp2_with fail
            go_ret2
            have ha := HA.out
            unfold applyL at ha
            rw [if_neg (by rw [hone]; decide)] at ha
            simp only [Prod.mk.injEq] at ha
            obtain ⟨rfl, rfl⟩ := ha
            exact ⟨_, rfl, Kd.V_below HV0.out HBw.out, HBw.out⟩
          | true =>
            cases hh : hasAt out dk with
            | false =>
              cases dwas with
              | true =>
                go_wp2_with fail
                go_ret2
                have ha := HA.out
                unfold applyL at ha
                rw [if_pos hone, if_neg (by simp [fitsB, hh])] at ha
                simp only [Prod.mk.injEq] at ha
                obtain ⟨rfl, rfl⟩ := ha
                exact ⟨_, rfl, Kd.V_below HV0.out HBw.out, HBw.out⟩
              | false =>
                cases dis with
                | false => simp [diffOne] at hone
                | true =>
                  go_wp2_with fail
                  have hvc := Kd.V_below HV.out HBc.out
                  obtain ⟨_, hle, hC⟩ := Kd.V_reads' hvc
                  obtain ⟨K2, hK2⟩ := spec_put out dk dnew (by omega)
                  refine (spec_l01Put.calls K2 _ _ out dk dnew _ _ hC hle (hK2 K2 (Nat.le_refl _))).mono ?_
                  rintro e w3 ⟨v3, rfl, hr3, hb3⟩
                  have hsw := HBw.out.size
                  have HV3 := Aside0.mk (Kd.R_V (base' := w.heap.size) (Kd.R_mono (Kd.R_bound hr3) (fun k hk => (show P0_ k ∨ w.heap.size ≤ k from .inr (Nat.le_trans hsw hk.2.1)))))
                  have HB3 := Aside0.mk (below_step HBw.out hb3)
                  have hsl : (stepD out ⟨dk, dold, dnew, false, true⟩) = putP out dk dnew := by simp [stepD]
                  have hlen := stepD_length out ⟨dk, dold, dnew, false, true⟩
                  have hfine := stepD_fine HF.out hone
                  have ha := HA.out
                  unfold applyL at ha
                  rw [if_pos hone, if_pos (show fitsB out ⟨dk, dold, dnew, false, true⟩ = true from by simp [fitsB, hh])] at ha
                  rw [hsl] at hlen hfine ha
                  have HF3 := Aside0.mk hfine
                  have HA3 := Aside0.mk ha
                  clear hr3 hb3 hvc hle hC hfine ha hsw b0 b1 b2 b3 b4
                  go_wp2_with fail
                  go_roundw
                  case rel => exact ⟨i + 1, putP out dk dnew, by omega, by go_num, by omega, HF3, HA3, HV3, HB3⟩
                  case measure => simp [intOf]; omega
            | true =>
              cases dwas with
              | false =>
                go_wp2_with fail
                go_ret2
                have ha := HA.out
                unfold applyL at ha
                rw [if_pos hone, if_neg (by simp [fitsB, hh])] at ha
                simp only [Prod.mk.injEq] at ha
                obtain ⟨rfl, rfl⟩ := ha
                exact ⟨_, rfl, Kd.V_below HV0.out HBw.out, HBw.out⟩
              | true =>
                by_cases hv : (getV out dk).toList = dold.toList
                · have e1 : ((getV out dk).toList != dold.toList) = false := by simp [hv]
                  cases dis with
                  | true =>
                    go_wp2_with fail
                    have hvc := Kd.V_below HV.out HBc.out
                    obtain ⟨_, hle, hC⟩ := Kd.V_reads' hvc
                    obtain ⟨K2, hK2⟩ := spec_put out dk dnew (by omega)
                    refine (spec_l01Put.calls K2 _ _ out dk dnew _ _ hC hle (hK2 K2 (Nat.le_refl _))).mono ?_
                    rintro e w3 ⟨v3, rfl, hr3, hb3⟩
                    have hsw := HBw.out.size
                    have HV3 := Aside0.mk (Kd.R_V (base' := w.heap.size) (Kd.R_mono (Kd.R_bound hr3) (fun k hk => (show P0_ k ∨ w.heap.size ≤ k from .inr (Nat.le_trans hsw hk.2.1)))))
                    have HB3 := Aside0.mk (below_step HBw.out hb3)
                    have hsl : (stepD out ⟨dk, dold, dnew, true, true⟩) = putP out dk dnew := by simp [stepD]
                    have hlen := stepD_length out ⟨dk, dold, dnew, true, true⟩
                    have hfine := stepD_fine HF.out hone
                    have ha := HA.out
                    unfold applyL at ha
                    rw [if_pos hone, if_pos (show fitsB out ⟨dk, dold, dnew, true, true⟩ = true from by simp [fitsB, hh, hv])] at ha
                    rw [hsl] at hlen hfine ha
                    have HF3 := Aside0.mk hfine
                    have HA3 := Aside0.mk ha
                    clear hr3 hb3 hvc hle hC hfine ha hsw b0 b1 b2 b3 b4
                    go_wp2_with fail
                    go_roundw
                    case rel => exact ⟨i + 1, putP out dk dnew, by omega, by go_num, by omega, HF3, HA3, HV3, HB3⟩
                    case measure => simp [intOf]; omega
                  | false =>
                    go_wp2_with fail
                    have hvc := Kd.V_below HV.out HBc.out
                    obtain ⟨_, hle, hC⟩ := Kd.V_reads' hvc
                    obtain ⟨K2, hK2⟩ := spec_drop out dk (by omega)
                    rw [show (out.filter fun p => !decide (p.f0.toList = dk.toList)) = dropP out dk from by unfold dropP; rw [if_pos hh]; exact filter_is_erase HF.out.2 hh] at hK2
                    refine (spec_l01Drop.calls K2 _ _ out dk _ _ hC hle (hK2 K2 (Nat.le_refl _))).mono ?_
                    rintro e w3 ⟨v3, rfl, hr3, hb3⟩
                    have hsw := HBw.out.size
                    have HV3 := Aside0.mk (Kd.R_V (base' := w.heap.size) (Kd.R_mono (Kd.R_bound hr3) (fun k hk => (show P0_ k ∨ w.heap.size ≤ k from .inr (Nat.le_trans hsw hk.2.1)))))
                    have HB3 := Aside0.mk (below_step HBw.out hb3)
                    have hsl : (stepD out ⟨dk, dold, dnew, true, false⟩) = dropP out dk := by simp [stepD]
                    have hlen := stepD_length out ⟨dk, dold, dnew, true, false⟩
                    have hfine := stepD_fine HF.out hone
                    have ha := HA.out
                    unfold applyL at ha
                    rw [if_pos hone, if_pos (show fitsB out ⟨dk, dold, dnew, true, false⟩ = true from by simp [fitsB, hh, hv])] at ha
                    rw [hsl] at hlen hfine ha
                    have HF3 := Aside0.mk hfine
                    have HA3 := Aside0.mk ha
                    clear hr3 hb3 hvc hle hC hfine ha hsw b0 b1 b2 b3 b4
                    go_wp2_with fail
                    go_roundw
                    case rel => exact ⟨i + 1, dropP out dk, by omega, by go_num, by omega, HF3, HA3, HV3, HB3⟩
                    case measure => simp [intOf]; omega
                · have e1 : ((getV out dk).toList == dold.toList) = false := by simp [hv]
                  go_wp2_with fail
                  go_ret2
                  have ha := HA.out
                  unfold applyL at ha
                  rw [if_pos hone, if_neg (by simp [fitsB, hh, hv])] at ha
                  simp only [Prod.mk.injEq] at ha
                  obtain ⟨rfl, rfl⟩ := ha
                  exact ⟨_, rfl, Kd.V_below HV0.out HBw.out, HBw.out⟩
      · have he : i = l1.length := by omega
        have c1 : decide ((i : Int) < (l1.length : Int)) = false := decide_eq_false (by omega)
        have ha := HA.out
        rw [he, List.drop_length] at ha
        unfold applyL at ha
        by_cases h60 : 60 < out.length
        · have c2 : decide (60 < (out.length : Int)) = true := decide_eq_true (by omega)
          rw [if_pos h60] at ha
          simp only [Prod.mk.injEq] at ha
          obtain ⟨rfl, rfl⟩ := ha
          go_wp2_with fail
          go_ret2
          exact ⟨_, rfl, Kd.V_below HV0.out HB.out, HB.out⟩
        · have c2 : decide (60 < (out.length : Int)) = false := decide_eq_false (by omega)
          rw [if_neg h60] at ha
          simp only [Prod.mk.injEq] at ha
          obtain ⟨rfl, rfl⟩ := ha
          go_wp2_with fail
          go_ret2
          exact ⟨_, rfl, HV.out, HB.out⟩
  · rw [if_neg hs] at h
    cases h
end Go.Proofs.Ytgcncphdjabjjaa.X
