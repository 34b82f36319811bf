import Derived.Test.YtlkdcicpaneakaaKFnExactReplayAll2
import Derived.Test.YtlkdcicpaneakaaKFnExactReplayAll4
import Derived.Test.YtlkdcicpaneakaaKFnExactReplayAll6
import Derived.Test.YtlkdcicpaneakaaKFnExactReplayAll7
import Derived.LoopTactic
import Derived.WalkSpells
namespace Go.Proofs.Ytlkdcicpaneakaa.X
open Go.RowKit Go.Proofs.YtlkdcicpaneakaaW.PrintWords Go.Proofs.YtlkdcicpaneakaaW.PrintLast Go.Proofs.YtlkdcicpaneakaaW.PrintMore
attribute [local go_sem] qaA qaB qaC qaw qax qaH qaI qap qaq qay qaz
set_option linter.unusedVariables false
set_option linter.unusedSimpArgs false
def qc0.f (k : Nat) (l0 : List (S48)) (a1 : ByteArray) (a2 : ByteArray) : Option ((List (S48))) := (qbk.f k l0 a1).bind fun t119 => (if 0 ≤ t119 then (if t119 ≤ (l0.length : Int) then ((some (l0.drop (t119 : Int).toNat : List (S48))).bind fun y120 => (if t119 < (l0.length : Int) then (if ((qaK l0 t119).f0).toList = a1.toList then (if 0 ≤ (wrap64 (t119 + 1)) then (if (wrap64 (t119 + 1)) ≤ (l0.length : Int) then ((some (l0.drop ((wrap64 (t119 + 1)) : Int).toNat : List (S48))).bind fun y125 => ((some (([] : List (S48)) : List (S48))).bind fun y129 => ((some (l0.take (t119 : Int).toNat : List (S48))).bind fun y132 => (if y129.length + y132.length < 4398046511104 then ((some (y129 ++ y132 : List (S48))).bind fun y136 => (if y136.length < 4398046511104 then ((some (y136 ++ [(⟨a1, a2⟩ : S48)] : List (S48))).bind fun y139 => (if y139.length + y125.length < 4398046511104 then (some (y139 ++ y125)) else (none))) else (none))) else (none))))) else (none)) else (none)) else ((some (([] : List (S48)) : List (S48))).bind fun y145 => ((some (l0.take (t119 : Int).toNat : List (S48))).bind fun y148 => (if y145.length + y148.length < 4398046511104 then ((some (y145 ++ y148 : List (S48))).bind fun y152 => (if y152.length < 4398046511104 then ((some (y152 ++ [(⟨a1, a2⟩ : S48)] : List (S48))).bind fun y155 => (if y155.length + y120.length < 4398046511104 then (some (y155 ++ y120)) else (none))) else (none))) else (none))))) else ((some (([] : List (S48)) : List (S48))).bind fun y161 => ((some (l0.take (t119 : Int).toNat : List (S48))).bind fun y164 => (if y161.length + y164.length < 4398046511104 then ((some (y161 ++ y164 : List (S48))).bind fun y168 => (if y168.length < 4398046511104 then ((some (y168 ++ [(⟨a1, a2⟩ : S48)] : List (S48))).bind fun y171 => (if y171.length + y120.length < 4398046511104 then (some (y171 ++ y120)) else (none))) else (none))) else (none)))))) else (none)) else (none))
set_option maxHeartbeats 8000000 in
set_option maxRecDepth 100000 in
theorem qc0.calls (k : Nat) (A0 : Option Addr) (c0 : Nat) (l0 : List (S48)) (a1 : ByteArray) (a2 : ByteArray) (r : List (S48)) (w : World) (hr0 : Kd.C k48 w A0 l0.length l0) (hc0 : l0.length ≤ c0) (h : qc0.f k l0 a1 a2 = some r) :
  Calls Try.prog 47 #[.slice A0 l0.length c0, .string a1, .string a2] w fun e w' => ∃ v0_ : Value, e = .returned (v0_) ∧ Kd.R k48 48 w' w.heap.size (fun _ => True) v0_ r ∧ Below w.heap.size w w' := by
 have hu48 := Try.underlying48
 have HR0 := Aside0.mk hr0
 have HC0 := Aside0.mk hc0
 clear hr0 hc0
 have HB := Aside0.mk (Below.refl w.heap.size w)
 have H : ((qbk.f k l0 a1).bind fun t119 => (if 0 ≤ t119 then (if t119 ≤ (l0.length : Int) then ((some (l0.drop (t119 : Int).toNat : List (S48))).bind fun y120 => (if t119 < (l0.length : Int) then (if ((qaK l0 t119).f0).toList = a1.toList then (if 0 ≤ (wrap64 (t119 + 1)) then (if (wrap64 (t119 + 1)) ≤ (l0.length : Int) then ((some (l0.drop ((wrap64 (t119 + 1)) : Int).toNat : List (S48))).bind fun y125 => ((some (([] : List (S48)) : List (S48))).bind fun y129 => ((some (l0.take (t119 : Int).toNat : List (S48))).bind fun y132 => (if y129.length + y132.length < 4398046511104 then ((some (y129 ++ y132 : List (S48))).bind fun y136 => (if y136.length < 4398046511104 then ((some (y136 ++ [(⟨a1, a2⟩ : S48)] : List (S48))).bind fun y139 => (if y139.length + y125.length < 4398046511104 then (some (y139 ++ y125)) else (none))) else (none))) else (none))))) else (none)) else (none)) else ((some (([] : List (S48)) : List (S48))).bind fun y145 => ((some (l0.take (t119 : Int).toNat : List (S48))).bind fun y148 => (if y145.length + y148.length < 4398046511104 then ((some (y145 ++ y148 : List (S48))).bind fun y152 => (if y152.length < 4398046511104 then ((some (y152 ++ [(⟨a1, a2⟩ : S48)] : List (S48))).bind fun y155 => (if y155.length + y120.length < 4398046511104 then (some (y155 ++ y120)) else (none))) else (none))) else (none))))) else ((some (([] : List (S48)) : List (S48))).bind fun y161 => ((some (l0.take (t119 : Int).toNat : List (S48))).bind fun y164 => (if y161.length + y164.length < 4398046511104 then ((some (y161 ++ y164 : List (S48))).bind fun y168 => (if y168.length < 4398046511104 then ((some (y168 ++ [(⟨a1, a2⟩ : S48)] : List (S48))).bind fun y171 => (if y171.length + y120.length < 4398046511104 then (some (y171 ++ y120)) else (none))) else (none))) else (none)))))) else (none)) else (none))) = some r := h
 clear h
 replace H := Option.bind_eq_some_iff.mp H
 obtain ⟨t119, A40, H⟩ := H
 try dsimp only at H
 have A4 := Aside0.mk A40
 clear A40
 by_cases c5 : 0 ≤ t119
 ·rw [if_pos c5] at H
  have c5b0 := eq_true c5
  have c5b1 : decide (0 ≤ t119) = true := decide_eq_true c5
  clear c5
  by_cases c6 : t119 ≤ (l0.length : Int)
  ·rw [if_pos c6] at H
   have c6b0 := eq_true c6
   have c6b1 : decide (t119 ≤ (l0.length : Int)) = true := decide_eq_true c6
   clear c6
   obtain ⟨y120, hy120⟩ : ∃ y_ : List (S48), y_ = (l0.drop (t119 : Int).toNat) := ⟨_, rfl⟩
   replace H : (if t119 < (l0.length : Int) then (if ((qaK l0 t119).f0).toList = a1.toList then (if 0 ≤ (wrap64 (t119 + 1)) then (if (wrap64 (t119 + 1)) ≤ (l0.length : Int) then ((some (l0.drop ((wrap64 (t119 + 1)) : Int).toNat : List (S48))).bind fun y125 => ((some (([] : List (S48)) : List (S48))).bind fun y129 => ((some (l0.take (t119 : Int).toNat : List (S48))).bind fun y132 => (if y129.length + y132.length < 4398046511104 then ((some (y129 ++ y132 : List (S48))).bind fun y136 => (if y136.length < 4398046511104 then ((some (y136 ++ [(⟨a1, a2⟩ : S48)] : List (S48))).bind fun y139 => (if y139.length + y125.length < 4398046511104 then (some (y139 ++ y125)) else (none))) else (none))) else (none))))) else (none)) else (none)) else ((some (([] : List (S48)) : List (S48))).bind fun y145 => ((some (l0.take (t119 : Int).toNat : List (S48))).bind fun y148 => (if y145.length + y148.length < 4398046511104 then ((some (y145 ++ y148 : List (S48))).bind fun y152 => (if y152.length < 4398046511104 then ((some (y152 ++ [(⟨a1, a2⟩ : S48)] : List (S48))).bind fun y155 => (if y155.length + y120.length < 4398046511104 then (some (y155 ++ y120)) else (none))) else (none))) else (none))))) else ((some (([] : List (S48)) : List (S48))).bind fun y161 => ((some (l0.take (t119 : Int).toNat : List (S48))).bind fun y164 => (if y161.length + y164.length < 4398046511104 then ((some (y161 ++ y164 : List (S48))).bind fun y168 => (if y168.length < 4398046511104 then ((some (y168 ++ [(⟨a1, a2⟩ : S48)] : List (S48))).bind fun y171 => (if y171.length + y120.length < 4398046511104 then (some (y171 ++ y120)) else (none))) else (none))) else (none))))) = some r := by first | (rw [hy120]; with_reducible exact H) | (have H2_ := (Option.bind_some _ _).symm.trans H; rw [hy120]; with_reducible exact H2_) | (have H2_ := (Option.bind_some _ _).symm.trans H; with_reducible exact H2_) | with_reducible exact H | (rw [hy120]; exact H) | exact H
   have Ny120 := Aside0.mk hy120
   clear hy120
   by_cases c7 : t119 < (l0.length : Int)
   ·rw [if_pos c7] at H
    have c7b0 : decide (t119 < (l0.length : Int)) = true := decide_eq_true c7
    clear c7
    by_cases c8 : ((qaK l0 t119).f0).toList = a1.toList
    ·rw [if_pos c8] at H
     have c8b0 : (((qaK l0 t119).f0).toList == a1.toList) = true := beq_iff_eq.mpr c8
     have c8b1 : (((qaK l0 t119).f0).toList != a1.toList) = false := bne_eq_false_iff_eq.mpr c8
     clear c8
     obtain ⟨ji9, hji9⟩ : ∃ j_ : Int, (wrap64 (t119 + 1)) = j_ := ⟨_, rfl⟩
     replace H : (if 0 ≤ (ji9) then (if (ji9) ≤ (l0.length : Int) then ((some (l0.drop ((ji9) : Int).toNat : List (S48))).bind fun y125 => ((some (([] : List (S48)) : List (S48))).bind fun y129 => ((some (l0.take (t119 : Int).toNat : List (S48))).bind fun y132 => (if y129.length + y132.length < 4398046511104 then ((some (y129 ++ y132 : List (S48))).bind fun y136 => (if y136.length < 4398046511104 then ((some (y136 ++ [(⟨a1, a2⟩ : S48)] : List (S48))).bind fun y139 => (if y139.length + y125.length < 4398046511104 then (some (y139 ++ y125)) else (none))) else (none))) else (none))))) else (none)) else (none)) = some r := by first | (rw [hji9] at H; exact H) | (simp only [hji9] at H ⊢; exact H)
     (try rw [hji9] at A4)
     have hji9w : (IntKind.i64.wrap (t119 + 1)) = ji9 := (qbe _).trans hji9
     by_cases c10 : 0 ≤ (ji9)
     ·rw [if_pos c10] at H
      have c10b0 := eq_true c10
      have c10b1 : decide (0 ≤ (ji9)) = true := decide_eq_true c10
      clear c10
      by_cases c11 : (ji9) ≤ (l0.length : Int)
      ·rw [if_pos c11] at H
       have c11b0 := eq_true c11
       have c11b1 : decide ((ji9) ≤ (l0.length : Int)) = true := decide_eq_true c11
       clear c11
       obtain ⟨y125, hy125⟩ : ∃ y_ : List (S48), y_ = (l0.drop ((ji9) : Int).toNat) := ⟨_, rfl⟩
       replace H : ((some (([] : List (S48)) : List (S48))).bind fun y129 => ((some (l0.take (t119 : Int).toNat : List (S48))).bind fun y132 => (if y129.length + y132.length < 4398046511104 then ((some (y129 ++ y132 : List (S48))).bind fun y136 => (if y136.length < 4398046511104 then ((some (y136 ++ [(⟨a1, a2⟩ : S48)] : List (S48))).bind fun y139 => (if y139.length + y125.length < 4398046511104 then (some (y139 ++ y125)) else (none))) else (none))) else (none)))) = some r := by first | (rw [hy125]; with_reducible exact H) | (have H2_ := (Option.bind_some _ _).symm.trans H; rw [hy125]; with_reducible exact H2_) | (have H2_ := (Option.bind_some _ _).symm.trans H; with_reducible exact H2_) | with_reducible exact H | (rw [hy125]; exact H) | exact H
       have Ny125 := Aside0.mk hy125
       clear hy125
       obtain ⟨y129, hy129⟩ : ∃ y_ : List (S48), y_ = (([] : List (S48))) := ⟨_, rfl⟩
       replace H : ((some (l0.take (t119 : Int).toNat : List (S48))).bind fun y132 => (if y129.length + y132.length < 4398046511104 then ((some (y129 ++ y132 : List (S48))).bind fun y136 => (if y136.length < 4398046511104 then ((some (y136 ++ [(⟨a1, a2⟩ : S48)] : List (S48))).bind fun y139 => (if y139.length + y125.length < 4398046511104 then (some (y139 ++ y125)) else (none))) else (none))) else (none))) = some r := by first | (rw [hy129]; with_reducible exact H) | (have H2_ := (Option.bind_some _ _).symm.trans H; rw [hy129]; with_reducible exact H2_) | (have H2_ := (Option.bind_some _ _).symm.trans H; with_reducible exact H2_) | with_reducible exact H | (rw [hy129]; exact H) | exact H
       have Ny129 := Aside0.mk hy129
       clear hy129
       have c12b0 := eq_true (of_decide_eq_true (by first | (with_reducible assumption) | assumption) : 0 ≤ t119)
       have c13b0 := eq_true (of_decide_eq_true (by first | (with_reducible assumption) | assumption) : t119 ≤ (l0.length : Int))
       obtain ⟨y132, hy132⟩ : ∃ y_ : List (S48), y_ = (l0.take (t119 : Int).toNat) := ⟨_, rfl⟩
       replace H : (if y129.length + y132.length < 4398046511104 then ((some (y129 ++ y132 : List (S48))).bind fun y136 => (if y136.length < 4398046511104 then ((some (y136 ++ [(⟨a1, a2⟩ : S48)] : List (S48))).bind fun y139 => (if y139.length + y125.length < 4398046511104 then (some (y139 ++ y125)) else (none))) else (none))) else (none)) = some r := by first | (rw [hy132]; with_reducible exact H) | (have H2_ := (Option.bind_some _ _).symm.trans H; rw [hy132]; with_reducible exact H2_) | (have H2_ := (Option.bind_some _ _).symm.trans H; with_reducible exact H2_) | with_reducible exact H | (rw [hy132]; exact H) | exact H
       have Ny132 := Aside0.mk hy132
       clear hy132
       by_cases c14 : y129.length + y132.length < 4398046511104
       ·rw [if_pos c14] at H
        have LMc14 := Aside0.mk c14
        clear c14
        obtain ⟨y136, hy136⟩ : ∃ y_ : List (S48), y_ = (y129 ++ y132) := ⟨_, rfl⟩
        replace H : (if y136.length < 4398046511104 then ((some (y136 ++ [(⟨a1, a2⟩ : S48)] : List (S48))).bind fun y139 => (if y139.length + y125.length < 4398046511104 then (some (y139 ++ y125)) else (none))) else (none)) = some r := by first | (rw [hy136]; with_reducible exact H) | (have H2_ := (Option.bind_some _ _).symm.trans H; rw [hy136]; with_reducible exact H2_) | (have H2_ := (Option.bind_some _ _).symm.trans H; with_reducible exact H2_) | with_reducible exact H | (rw [hy136]; exact H) | exact H
        have Ny136 := Aside0.mk hy136
        clear hy136
        by_cases c15 : y136.length < 4398046511104
        ·rw [if_pos c15] at H
         have LMc15 := Aside0.mk c15
         clear c15
         obtain ⟨y139, hy139⟩ : ∃ y_ : List (S48), y_ = (y136 ++ [(⟨a1, a2⟩ : S48)]) := ⟨_, rfl⟩
         replace H : (if y139.length + y125.length < 4398046511104 then (some (y139 ++ y125)) else (none)) = some r := by first | (rw [hy139]; with_reducible exact H) | (have H2_ := (Option.bind_some _ _).symm.trans H; rw [hy139]; with_reducible exact H2_) | (have H2_ := (Option.bind_some _ _).symm.trans H; with_reducible exact H2_) | with_reducible exact H | (rw [hy139]; exact H) | exact H
         have Ny139 := Aside0.mk hy139
         clear hy139
         by_cases c16 : y139.length + y125.length < 4398046511104
         ·rw [if_pos c16] at H
          have LMc16 := Aside0.mk c16
          clear c16
          obtain ⟨y142, hy142⟩ : ∃ y_ : List (S48), y_ = (y139 ++ y125) := ⟨_, rfl⟩
          replace H : (some y142) = some r := by first | (rw [hy142]; with_reducible exact H) | (have H2_ := (Option.bind_some _ _).symm.trans H; rw [hy142]; with_reducible exact H2_) | (have H2_ := (Option.bind_some _ _).symm.trans H; with_reducible exact H2_) | with_reducible exact H | (rw [hy142]; exact H) | exact H
          have Ny142 := Aside0.mk hy142
          clear hy142
          obtain rfl := Option.some.inj H
          go_enter Try.func47, Try.ntmps47
          go_wp2_with (first | ((with_reducible refine qaE (f := 63) rfl ?_); refine qbn (some 11) rfl rfl Try.func63 (by kernel_rfl) rfl #[.slice A0 l0.length c0, .string a1] rfl (by (try simp only [List.map_toArray, List.map_cons, List.map_nil]); first | done | rfl | (simp only [List.length_drop, List.length_take]; rfl)) ?_; (with_reducible refine (qbk.calls k _ _ l0 a1 t119 _ ?side1 ?side2 A4.out).mono ?_); (case side1 => repeat (first | exact HR0.out | (with_reducible refine Kd.qa9 ?_ _) | (with_reducible refine Kd.qba ?_ _) | (with_reducible refine Kd.qbl ?_))); (case side2 => exact HC0.out); rintro e w' ⟨rfl, ⟨nd, rfl⟩⟩; refine ⟨_, rfl, ?_⟩; have q17 : (t119 : Int) ≤ ((l0.length : Int) : Int) := of_decide_eq_true (by first | (with_reducible assumption) | assumption); obtain ⟨i017, hi017, _, hsz17, _⟩ := info_parts qcL; have hroom17 : l0.length ≤ c0 := HC0.out; have hC17 : Kd.C k48 _ A0 l0.length l0 := HR0.out; have q017 : (0 : Int) ≤ (t119 : Int) := of_decide_eq_true (by first | (with_reducible assumption) | assumption); have hcut17 := qeP (P := Try.prog) 24 48 .i64 Try.underlying24 hi017 2 hsz17 A0 l0.length c0 t119 q017 q17; have hr17 := Kd.qhj (m := (t119 : Int).toNat) (c := c0) hC17 (by omega) hroom17; obtain ⟨A17, hA17⟩ : ∃ A1, A1 = (if c0 = (t119 : Int).toNat then A0 else (A0 : Option Addr).map (·.add ((t119 : Int).toNat * 2))) := ⟨_, rfl⟩; obtain ⟨c17, hc17⟩ : ∃ c1, c1 = c0 - (t119 : Int).toNat := ⟨_, rfl⟩; have hy17 : y120.length = l0.length - (t119 : Int).toNat := (by rw [Ny120.out, List.length_drop] <;> omega); rw [show (l0).drop (t119 : Int).toNat = y120 from Ny120.out.symm] at hr17; replace hr17 : Kd.C k48 _ A17 y120.length y120 := (by rw [hA17]; exact hr17); rw [← hy17, ← hA17, ← hc17] at hcut17; have HR123 := Aside0.mk hr17; have HC123 := Aside0.mk (show y120.length ≤ c17 from by rw [hy17, hc17]; exact Nat.sub_le_sub_right hroom17 _); clear hr17 hC17 hroom17 hi017 hsz17 hc17; have KY17 := Aside0.mk hy17; have KA17 := Aside0.mk hA17; clear hy17 hA17; replace q17 := eq_true q17; have p124 : 0 ≤ (t119 : Int) := of_decide_eq_true (by first | (with_reducible assumption) | assumption); have q124 : t119 < (l0.length : Int) := of_decide_eq_true (by first | (with_reducible assumption) | assumption); obtain ⟨ad124, e124, hx124_0, hx124_1⟩ := qcz HR0.out t119 p124 q124; cases e124; replace p124 := eq_true p124; replace q124 := eq_true q124; have q18 : ((ji9) : Int) ≤ ((l0.length : Int) : Int) := of_decide_eq_true (by first | (with_reducible assumption) | assumption); obtain ⟨i018, hi018, _, hsz18, _⟩ := info_parts qcL; have hroom18 : l0.length ≤ c0 := HC0.out; have hC18 : Kd.C k48 _ (some ad124) l0.length l0 := HR0.out; have q018 : (0 : Int) ≤ ((ji9) : Int) := of_decide_eq_true (by first | (with_reducible assumption) | assumption); have hcut18 := qeP (P := Try.prog) 24 48 .i64 Try.underlying24 hi018 2 hsz18 (some ad124) l0.length c0 (ji9) q018 q18; have hr18 := Kd.qhj (m := ((ji9) : Int).toNat) (c := c0) hC18 (by omega) hroom18; obtain ⟨A18, hA18⟩ : ∃ A1, A1 = (if c0 = ((ji9) : Int).toNat then (some ad124) else ((some ad124) : Option Addr).map (·.add (((ji9) : Int).toNat * 2))) := ⟨_, rfl⟩; obtain ⟨c18, hc18⟩ : ∃ c1, c1 = c0 - ((ji9) : Int).toNat := ⟨_, rfl⟩; have hy18 : y125.length = l0.length - ((ji9) : Int).toNat := (by rw [Ny125.out, List.length_drop] <;> omega); rw [show (l0).drop ((ji9) : Int).toNat = y125 from Ny125.out.symm] at hr18; replace hr18 : Kd.C k48 _ A18 y125.length y125 := (by rw [hA18]; exact hr18); rw [← hy18, ← hA18, ← hc18] at hcut18; have HR128 := Aside0.mk hr18; have HC128 := Aside0.mk (show y125.length ≤ c18 from by rw [hy18, hc18]; exact Nat.sub_le_sub_right hroom18 _); clear hr18 hC18 hroom18 hi018 hsz18 hc18; have KY18 := Aside0.mk hy18; have KA18 := Aside0.mk hA18; clear hy18 hA18; replace q18 := eq_true q18) | ((with_reducible refine qaM (N := 32) rfl ?_); refine Kd.qdN k48 _ 48 ?hg (N := 32) ?hd (xs := ([] : List (S48))) (inner := []) (ok := fun _ => True) (okp := fun _ => True) ?hr ?hp (fun _ hk => hk) trivial (Below.refl _ _) (Nat.le_refl _) (by simp) ?_; (case hd => rfl); (case hg => rfl); (case hr => first | (go_simp; done) | (go_simp; rfl)); (case hp => exact (Reps.none _ _)); intro v130 w19 ho20 hb hg_ hnew_; clear hg_ hnew_; (first | rw [← Ny129.out] at ho20 | (simp only [Int.reduceToNat] at ho20; rw [← Ny129.out] at ho20)); have n0_ := Aside0.mk (Kd.qbh ho20 (qak (by repeat (first | (with_reducible first | exact HB.out | apply qac | apply qaa | apply qab) | exact HB.out)))); have n1_ := Aside0.mk (qag (by repeat (first | (with_reducible first | exact HB.out | apply qac | apply qaa | apply qab) | exact HB.out)) hb); clear HB; have HO131 := n0_; have HB := n1_; clear n0_ n1_ hb ho20; have q21 : (t119 : Int) ≤ ((l0.length : Int) : Int) := of_decide_eq_true (by first | (with_reducible assumption) | assumption); obtain ⟨i021, hi021, _, hsz21, _⟩ := info_parts qcL; have hroom21 : l0.length ≤ c0 := HC0.out; have hC21 : Kd.C k48 _ (some ad124) l0.length l0 := HR0.out; have hcut21 := qh4 (P := Try.prog) 24 48 .i64 Try.underlying24 hi021 (some ad124) l0.length c0 t119 (of_decide_eq_true (by first | (with_reducible assumption) | assumption)) q21 hroom21; have hr21 := Kd.qh7 (m := (t119 : Int).toNat) hC21 (by omega); have hy21 : y132.length = (t119 : Int).toNat := (by rw [Ny132.out, List.length_take]; omega); rw [← Ny132.out] at hr21; rw [← hy21] at hcut21; have HR135 := Aside0.mk hr21; have HC135 := Aside0.mk (show y132.length ≤ c0 from by omega); clear hr21 hC21 hroom21 hi021 hsz21; have KY21 := Aside0.mk hy21; clear hy21; replace q21 := eq_true q21) | ((with_reducible refine qbC (b := .append) (xs := #[.tmp 32, .tmp 35]) rfl ?_); at_builtin; refine Kd.qbQ k48 (w0 := w) w.heap.size rfl (.tmp 32) (.tmp 35) 24 48 (.agg #[(.string ⟨#[]⟩), (.string ⟨#[]⟩)]) 32 rfl Try.underlying24 qcL rfl (by decide) (by omega) v130 y129 y132 _ _ _ (fun _ => True) (fun _ => False) rfl rfl ?aO ?aR (fun _ _ h => h) (fun _ h => h.elim) ?aF ?aB ?aS ?aL ?_; (case aR => repeat (first | exact (Kd.qa8 HR135.out HB.out) | (with_reducible refine Kd.qa9 ?_ _) | (with_reducible refine Kd.qba ?_ _) | (with_reducible refine Kd.qbl ?_))); (case aB => exact (by repeat (first | (with_reducible first | exact HB.out | apply qac | apply qaa | apply qab) | exact HB.out))); (case aF => exact (fun _ _ => trivial)); (case aO => exact (by (with_reducible repeat (first | apply Kd.qar | apply Kd.qas | apply Kd.qaD)); exact HO131.out)); (case aS => exact (qak (by repeat (first | (with_reducible first | exact HB.out | apply qac | apply qaa | apply qab) | exact HB.out)))); (case aL => have := LMc14.out; omega); intro v137 w22 ho hb hg hat; rw [← Ny136.out] at ho; have n0_ := Aside0.mk (hb); have n1_ := Aside0.mk (ho); clear HB HO131; have HB := n0_; have HO138 := n1_; clear n0_ n1_; clear ho hb hg hat) | ((with_reducible refine qbC (b := .append) (xs := #[.tmp 36, .tmp 40]) rfl ?_); at_builtin; refine Kd.qek k48 (w0 := w) w.heap.size rfl (.tmp 36) (.tmp 40) 24 48 (.agg #[(.string ⟨#[]⟩), (.string ⟨#[]⟩)]) 32 rfl Try.underlying24 qcL rfl (by decide) (by omega) v137 y136 (⟨a1, a2⟩ : S48) [.string a1, .string a2] (fun _ => True) (fun _ => False) rfl rfl ?aP (fun _ hk => hk.elim) ?aF ?aO ?aB ?aS ?aL ?_; (case aP => exact qcZ _ _ _ (⟨a1, a2⟩ : S48)); (case aB => exact (by repeat (first | (with_reducible first | exact HB.out | apply qac | apply qaa | apply qab) | exact HB.out))); (case aF => exact (fun _ _ => trivial)); (case aO => exact (by (with_reducible repeat (first | apply Kd.qar | apply Kd.qas | apply Kd.qaD)); exact HO138.out)); (case aS => exact (qak (by repeat (first | (with_reducible first | exact HB.out | apply qac | apply qaa | apply qab) | exact HB.out)))); (case aL => have := LMc15.out; omega); intro v140 w23 ho hb hg hat; rw [← Ny139.out] at ho; have n0_ := Aside0.mk (hb); have n1_ := Aside0.mk (ho); clear HB HO138; have HB := n0_; have HO141 := n1_; clear n0_ n1_; clear ho hb hg hat) | ((with_reducible refine qbC (b := .append) (xs := #[.tmp 41, .tmp 42]) rfl ?_); at_builtin; refine Kd.qbQ k48 (w0 := w) w.heap.size rfl (.tmp 41) (.tmp 42) 24 48 (.agg #[(.string ⟨#[]⟩), (.string ⟨#[]⟩)]) 32 rfl Try.underlying24 qcL rfl (by decide) (by omega) v140 y139 y125 _ _ _ (fun _ => True) (fun _ => False) rfl rfl ?aO ?aR (fun _ _ h => h) (fun _ h => h.elim) ?aF ?aB ?aS ?aL ?_; (case aR => repeat (first | exact (Kd.qa8 HR128.out HB.out) | (with_reducible refine Kd.qa9 ?_ _) | (with_reducible refine Kd.qba ?_ _) | (with_reducible refine Kd.qbl ?_))); (case aB => exact (by repeat (first | (with_reducible first | exact HB.out | apply qac | apply qaa | apply qab) | exact HB.out))); (case aF => exact (fun _ _ => trivial)); (case aO => exact (by (with_reducible repeat (first | apply Kd.qar | apply Kd.qas | apply Kd.qaD)); exact HO141.out)); (case aS => exact (qak (by repeat (first | (with_reducible first | exact HB.out | apply qac | apply qaa | apply qab) | exact HB.out)))); (case aL => have := LMc16.out; omega); intro v143 w24 ho hb hg hat; rw [← Ny142.out] at ho; have n0_ := Aside0.mk (hb); have n1_ := Aside0.mk (ho); clear HB HO141; have HB := n0_; have HO144 := n1_; clear n0_ n1_; clear ho hb hg hat))
          go_ret
          exact ⟨_, by first | rfl | (simp [qam, qan] <;> rfl) | (simp only [← hji9]; first | rfl | (simp [qam, qan] <;> rfl)) | (simp [*, qam, qan] <;> rfl), by (with_reducible repeat (first | apply Kd.qar | apply Kd.qas | apply Kd.qaD)); exact HO144.out, by repeat (first | (with_reducible first | exact HB.out | apply qac | apply qaa | apply qab) | exact HB.out)⟩
         ·rw [if_neg c16] at H
          exact absurd H (by simp)
        ·rw [if_neg c15] at H
         exact absurd H (by simp)
       ·rw [if_neg c14] at H
        exact absurd H (by simp)
      ·rw [if_neg c11] at H
       exact absurd H (by simp)
     ·rw [if_neg c10] at H
      exact absurd H (by simp)
    ·rw [if_neg c8] at H
     have c8b0 : (((qaK l0 t119).f0).toList == a1.toList) = false := beq_eq_false_iff_ne.mpr c8
     have c8b1 : (((qaK l0 t119).f0).toList != a1.toList) = true := bne_iff_ne.mpr c8
     obtain ⟨y145, hy145⟩ : ∃ y_ : List (S48), y_ = (([] : List (S48))) := ⟨_, rfl⟩
     replace H : ((some (l0.take (t119 : Int).toNat : List (S48))).bind fun y148 => (if y145.length + y148.length < 4398046511104 then ((some (y145 ++ y148 : List (S48))).bind fun y152 => (if y152.length < 4398046511104 then ((some (y152 ++ [(⟨a1, a2⟩ : S48)] : List (S48))).bind fun y155 => (if y155.length + y120.length < 4398046511104 then (some (y155 ++ y120)) else (none))) else (none))) else (none))) = some r := by first | (rw [hy145]; with_reducible exact H) | (have H2_ := (Option.bind_some _ _).symm.trans H; rw [hy145]; with_reducible exact H2_) | (have H2_ := (Option.bind_some _ _).symm.trans H; with_reducible exact H2_) | with_reducible exact H | (rw [hy145]; exact H) | exact H
     have Ny145 := Aside0.mk hy145
     clear hy145
     have c25b0 := eq_true (of_decide_eq_true (by first | (with_reducible assumption) | assumption) : 0 ≤ t119)
     have c26b0 := eq_true (of_decide_eq_true (by first | (with_reducible assumption) | assumption) : t119 ≤ (l0.length : Int))
     obtain ⟨y148, hy148⟩ : ∃ y_ : List (S48), y_ = (l0.take (t119 : Int).toNat) := ⟨_, rfl⟩
     replace H : (if y145.length + y148.length < 4398046511104 then ((some (y145 ++ y148 : List (S48))).bind fun y152 => (if y152.length < 4398046511104 then ((some (y152 ++ [(⟨a1, a2⟩ : S48)] : List (S48))).bind fun y155 => (if y155.length + y120.length < 4398046511104 then (some (y155 ++ y120)) else (none))) else (none))) else (none)) = some r := by first | (rw [hy148]; with_reducible exact H) | (have H2_ := (Option.bind_some _ _).symm.trans H; rw [hy148]; with_reducible exact H2_) | (have H2_ := (Option.bind_some _ _).symm.trans H; with_reducible exact H2_) | with_reducible exact H | (rw [hy148]; exact H) | exact H
     have Ny148 := Aside0.mk hy148
     clear hy148
     by_cases c27 : y145.length + y148.length < 4398046511104
     ·rw [if_pos c27] at H
      have LMc27 := Aside0.mk c27
      clear c27
      obtain ⟨y152, hy152⟩ : ∃ y_ : List (S48), y_ = (y145 ++ y148) := ⟨_, rfl⟩
      replace H : (if y152.length < 4398046511104 then ((some (y152 ++ [(⟨a1, a2⟩ : S48)] : List (S48))).bind fun y155 => (if y155.length + y120.length < 4398046511104 then (some (y155 ++ y120)) else (none))) else (none)) = some r := by first | (rw [hy152]; with_reducible exact H) | (have H2_ := (Option.bind_some _ _).symm.trans H; rw [hy152]; with_reducible exact H2_) | (have H2_ := (Option.bind_some _ _).symm.trans H; with_reducible exact H2_) | with_reducible exact H | (rw [hy152]; exact H) | exact H
      have Ny152 := Aside0.mk hy152
      clear hy152
      by_cases c28 : y152.length < 4398046511104
      ·rw [if_pos c28] at H
       have LMc28 := Aside0.mk c28
       clear c28
       obtain ⟨y155, hy155⟩ : ∃ y_ : List (S48), y_ = (y152 ++ [(⟨a1, a2⟩ : S48)]) := ⟨_, rfl⟩
       replace H : (if y155.length + y120.length < 4398046511104 then (some (y155 ++ y120)) else (none)) = some r := by first | (rw [hy155]; with_reducible exact H) | (have H2_ := (Option.bind_some _ _).symm.trans H; rw [hy155]; with_reducible exact H2_) | (have H2_ := (Option.bind_some _ _).symm.trans H; with_reducible exact H2_) | with_reducible exact H | (rw [hy155]; exact H) | exact H
       have Ny155 := Aside0.mk hy155
       clear hy155
       by_cases c29 : y155.length + y120.length < 4398046511104
       ·rw [if_pos c29] at H
        have LMc29 := Aside0.mk c29
        clear c29
        obtain ⟨y158, hy158⟩ : ∃ y_ : List (S48), y_ = (y155 ++ y120) := ⟨_, rfl⟩
        replace H : (some y158) = some r := by first | (rw [hy158]; with_reducible exact H) | (have H2_ := (Option.bind_some _ _).symm.trans H; rw [hy158]; with_reducible exact H2_) | (have H2_ := (Option.bind_some _ _).symm.trans H; with_reducible exact H2_) | with_reducible exact H | (rw [hy158]; exact H) | exact H
        have Ny158 := Aside0.mk hy158
        clear hy158
        obtain rfl := Option.some.inj H
        go_enter Try.func47, Try.ntmps47
        go_wp2_with (first | ((with_reducible refine qaE (f := 63) rfl ?_); refine qbn (some 11) rfl rfl Try.func63 (by kernel_rfl) rfl #[.slice A0 l0.length c0, .string a1] rfl (by (try simp only [List.map_toArray, List.map_cons, List.map_nil]); first | done | rfl | (simp only [List.length_drop, List.length_take]; rfl)) ?_; (with_reducible refine (qbk.calls k _ _ l0 a1 t119 _ ?side1 ?side2 A4.out).mono ?_); (case side1 => repeat (first | exact HR0.out | (with_reducible refine Kd.qa9 ?_ _) | (with_reducible refine Kd.qba ?_ _) | (with_reducible refine Kd.qbl ?_))); (case side2 => exact HC0.out); rintro e w' ⟨rfl, ⟨nd, rfl⟩⟩; refine ⟨_, rfl, ?_⟩; have q30 : (t119 : Int) ≤ ((l0.length : Int) : Int) := of_decide_eq_true (by first | (with_reducible assumption) | assumption); obtain ⟨i030, hi030, _, hsz30, _⟩ := info_parts qcL; have hroom30 : l0.length ≤ c0 := HC0.out; have hC30 : Kd.C k48 _ A0 l0.length l0 := HR0.out; have q030 : (0 : Int) ≤ (t119 : Int) := of_decide_eq_true (by first | (with_reducible assumption) | assumption); have hcut30 := qeP (P := Try.prog) 24 48 .i64 Try.underlying24 hi030 2 hsz30 A0 l0.length c0 t119 q030 q30; have hr30 := Kd.qhj (m := (t119 : Int).toNat) (c := c0) hC30 (by omega) hroom30; obtain ⟨A30, hA30⟩ : ∃ A1, A1 = (if c0 = (t119 : Int).toNat then A0 else (A0 : Option Addr).map (·.add ((t119 : Int).toNat * 2))) := ⟨_, rfl⟩; obtain ⟨c30, hc30⟩ : ∃ c1, c1 = c0 - (t119 : Int).toNat := ⟨_, rfl⟩; have hy30 : y120.length = l0.length - (t119 : Int).toNat := (by rw [Ny120.out, List.length_drop] <;> omega); rw [show (l0).drop (t119 : Int).toNat = y120 from Ny120.out.symm] at hr30; replace hr30 : Kd.C k48 _ A30 y120.length y120 := (by rw [hA30]; exact hr30); rw [← hy30, ← hA30, ← hc30] at hcut30; have HR123 := Aside0.mk hr30; have HC123 := Aside0.mk (show y120.length ≤ c30 from by rw [hy30, hc30]; exact Nat.sub_le_sub_right hroom30 _); clear hr30 hC30 hroom30 hi030 hsz30 hc30; have KY30 := Aside0.mk hy30; have KA30 := Aside0.mk hA30; clear hy30 hA30; replace q30 := eq_true q30; have p124 : 0 ≤ (t119 : Int) := of_decide_eq_true (by first | (with_reducible assumption) | assumption); have q124 : t119 < (l0.length : Int) := of_decide_eq_true (by first | (with_reducible assumption) | assumption); obtain ⟨ad124, e124, hx124_0, hx124_1⟩ := qcz HR0.out t119 p124 q124; cases e124; replace p124 := eq_true p124; replace q124 := eq_true q124) | ((with_reducible refine qaM (N := 32) rfl ?_); refine Kd.qdN k48 _ 48 ?hg (N := 32) ?hd (xs := ([] : List (S48))) (inner := []) (ok := fun _ => True) (okp := fun _ => True) ?hr ?hp (fun _ hk => hk) trivial (Below.refl _ _) (Nat.le_refl _) (by simp) ?_; (case hd => rfl); (case hg => rfl); (case hr => first | (go_simp; done) | (go_simp; rfl)); (case hp => exact (Reps.none _ _)); intro v146 w31 ho32 hb hg_ hnew_; clear hg_ hnew_; (first | rw [← Ny145.out] at ho32 | (simp only [Int.reduceToNat] at ho32; rw [← Ny145.out] at ho32)); have n0_ := Aside0.mk (Kd.qbh ho32 (qak (by repeat (first | (with_reducible first | exact HB.out | apply qac | apply qaa | apply qab) | exact HB.out)))); have n1_ := Aside0.mk (qag (by repeat (first | (with_reducible first | exact HB.out | apply qac | apply qaa | apply qab) | exact HB.out)) hb); clear HB; have HO147 := n0_; have HB := n1_; clear n0_ n1_ hb ho32; have q33 : (t119 : Int) ≤ ((l0.length : Int) : Int) := of_decide_eq_true (by first | (with_reducible assumption) | assumption); obtain ⟨i033, hi033, _, hsz33, _⟩ := info_parts qcL; have hroom33 : l0.length ≤ c0 := HC0.out; have hC33 : Kd.C k48 _ (some ad124) l0.length l0 := HR0.out; have hcut33 := qh4 (P := Try.prog) 24 48 .i64 Try.underlying24 hi033 (some ad124) l0.length c0 t119 (of_decide_eq_true (by first | (with_reducible assumption) | assumption)) q33 hroom33; have hr33 := Kd.qh7 (m := (t119 : Int).toNat) hC33 (by omega); have hy33 : y148.length = (t119 : Int).toNat := (by rw [Ny148.out, List.length_take]; omega); rw [← Ny148.out] at hr33; rw [← hy33] at hcut33; have HR151 := Aside0.mk hr33; have HC151 := Aside0.mk (show y148.length ≤ c0 from by omega); clear hr33 hC33 hroom33 hi033 hsz33; have KY33 := Aside0.mk hy33; clear hy33; replace q33 := eq_true q33) | ((with_reducible refine qbC (b := .append) (xs := #[.tmp 32, .tmp 35]) rfl ?_); at_builtin; refine Kd.qbQ k48 (w0 := w) w.heap.size rfl (.tmp 32) (.tmp 35) 24 48 (.agg #[(.string ⟨#[]⟩), (.string ⟨#[]⟩)]) 32 rfl Try.underlying24 qcL rfl (by decide) (by omega) v146 y145 y148 _ _ _ (fun _ => True) (fun _ => False) rfl rfl ?aO ?aR (fun _ _ h => h) (fun _ h => h.elim) ?aF ?aB ?aS ?aL ?_; (case aR => repeat (first | exact (Kd.qa8 HR151.out HB.out) | (with_reducible refine Kd.qa9 ?_ _) | (with_reducible refine Kd.qba ?_ _) | (with_reducible refine Kd.qbl ?_))); (case aB => exact (by repeat (first | (with_reducible first | exact HB.out | apply qac | apply qaa | apply qab) | exact HB.out))); (case aF => exact (fun _ _ => trivial)); (case aO => exact (by (with_reducible repeat (first | apply Kd.qar | apply Kd.qas | apply Kd.qaD)); exact HO147.out)); (case aS => exact (qak (by repeat (first | (with_reducible first | exact HB.out | apply qac | apply qaa | apply qab) | exact HB.out)))); (case aL => have := LMc27.out; omega); intro v153 w34 ho hb hg hat; rw [← Ny152.out] at ho; have n0_ := Aside0.mk (hb); have n1_ := Aside0.mk (ho); clear HB HO147; have HB := n0_; have HO154 := n1_; clear n0_ n1_; clear ho hb hg hat) | ((with_reducible refine qbC (b := .append) (xs := #[.tmp 36, .tmp 40]) rfl ?_); at_builtin; refine Kd.qek k48 (w0 := w) w.heap.size rfl (.tmp 36) (.tmp 40) 24 48 (.agg #[(.string ⟨#[]⟩), (.string ⟨#[]⟩)]) 32 rfl Try.underlying24 qcL rfl (by decide) (by omega) v153 y152 (⟨a1, a2⟩ : S48) [.string a1, .string a2] (fun _ => True) (fun _ => False) rfl rfl ?aP (fun _ hk => hk.elim) ?aF ?aO ?aB ?aS ?aL ?_; (case aP => exact qcZ _ _ _ (⟨a1, a2⟩ : S48)); (case aB => exact (by repeat (first | (with_reducible first | exact HB.out | apply qac | apply qaa | apply qab) | exact HB.out))); (case aF => exact (fun _ _ => trivial)); (case aO => exact (by (with_reducible repeat (first | apply Kd.qar | apply Kd.qas | apply Kd.qaD)); exact HO154.out)); (case aS => exact (qak (by repeat (first | (with_reducible first | exact HB.out | apply qac | apply qaa | apply qab) | exact HB.out)))); (case aL => have := LMc28.out; omega); intro v156 w35 ho hb hg hat; rw [← Ny155.out] at ho; have n0_ := Aside0.mk (hb); have n1_ := Aside0.mk (ho); clear HB HO154; have HB := n0_; have HO157 := n1_; clear n0_ n1_; clear ho hb hg hat) | ((with_reducible refine qbC (b := .append) (xs := #[.tmp 41, .tmp 42]) rfl ?_); at_builtin; refine Kd.qbQ k48 (w0 := w) w.heap.size rfl (.tmp 41) (.tmp 42) 24 48 (.agg #[(.string ⟨#[]⟩), (.string ⟨#[]⟩)]) 32 rfl Try.underlying24 qcL rfl (by decide) (by omega) v156 y155 y120 _ _ _ (fun _ => True) (fun _ => False) rfl rfl ?aO ?aR (fun _ _ h => h) (fun _ h => h.elim) ?aF ?aB ?aS ?aL ?_; (case aR => repeat (first | exact (Kd.qa8 HR123.out HB.out) | (with_reducible refine Kd.qa9 ?_ _) | (with_reducible refine Kd.qba ?_ _) | (with_reducible refine Kd.qbl ?_))); (case aB => exact (by repeat (first | (with_reducible first | exact HB.out | apply qac | apply qaa | apply qab) | exact HB.out))); (case aF => exact (fun _ _ => trivial)); (case aO => exact (by (with_reducible repeat (first | apply Kd.qar | apply Kd.qas | apply Kd.qaD)); exact HO157.out)); (case aS => exact (qak (by repeat (first | (with_reducible first | exact HB.out | apply qac | apply qaa | apply qab) | exact HB.out)))); (case aL => have := LMc29.out; omega); intro v159 w36 ho hb hg hat; rw [← Ny158.out] at ho; have n0_ := Aside0.mk (hb); have n1_ := Aside0.mk (ho); clear HB HO157; have HB := n0_; have HO160 := n1_; clear n0_ n1_; clear ho hb hg hat))
        go_ret
        exact ⟨_, by first | rfl | (simp [qam, qan] <;> rfl) | (simp [*, qam, qan] <;> rfl), by (with_reducible repeat (first | apply Kd.qar | apply Kd.qas | apply Kd.qaD)); exact HO160.out, by repeat (first | (with_reducible first | exact HB.out | apply qac | apply qaa | apply qab) | exact HB.out)⟩
       ·rw [if_neg c29] at H
        exact absurd H (by simp)
      ·rw [if_neg c28] at H
       exact absurd H (by simp)
     ·rw [if_neg c27] at H
      exact absurd H (by simp)
   ·rw [if_neg c7] at H
    have c7b0 : decide (t119 < (l0.length : Int)) = false := decide_eq_false c7
    clear c7
    obtain ⟨y161, hy161⟩ : ∃ y_ : List (S48), y_ = (([] : List (S48))) := ⟨_, rfl⟩
    replace H : ((some (l0.take (t119 : Int).toNat : List (S48))).bind fun y164 => (if y161.length + y164.length < 4398046511104 then ((some (y161 ++ y164 : List (S48))).bind fun y168 => (if y168.length < 4398046511104 then ((some (y168 ++ [(⟨a1, a2⟩ : S48)] : List (S48))).bind fun y171 => (if y171.length + y120.length < 4398046511104 then (some (y171 ++ y120)) else (none))) else (none))) else (none))) = some r := by first | (rw [hy161]; with_reducible exact H) | (have H2_ := (Option.bind_some _ _).symm.trans H; rw [hy161]; with_reducible exact H2_) | (have H2_ := (Option.bind_some _ _).symm.trans H; with_reducible exact H2_) | with_reducible exact H | (rw [hy161]; exact H) | exact H
    have Ny161 := Aside0.mk hy161
    clear hy161
    have c37b0 := eq_true (of_decide_eq_true (by first | (with_reducible assumption) | assumption) : 0 ≤ t119)
    have c38b0 := eq_true (of_decide_eq_true (by first | (with_reducible assumption) | assumption) : t119 ≤ (l0.length : Int))
    obtain ⟨y164, hy164⟩ : ∃ y_ : List (S48), y_ = (l0.take (t119 : Int).toNat) := ⟨_, rfl⟩
    replace H : (if y161.length + y164.length < 4398046511104 then ((some (y161 ++ y164 : List (S48))).bind fun y168 => (if y168.length < 4398046511104 then ((some (y168 ++ [(⟨a1, a2⟩ : S48)] : List (S48))).bind fun y171 => (if y171.length + y120.length < 4398046511104 then (some (y171 ++ y120)) else (none))) else (none))) else (none)) = some r := by first | (rw [hy164]; with_reducible exact H) | (have H2_ := (Option.bind_some _ _).symm.trans H; rw [hy164]; with_reducible exact H2_) | (have H2_ := (Option.bind_some _ _).symm.trans H; with_reducible exact H2_) | with_reducible exact H | (rw [hy164]; exact H) | exact H
    have Ny164 := Aside0.mk hy164
    clear hy164
    by_cases c39 : y161.length + y164.length < 4398046511104
    ·rw [if_pos c39] at H
     have LMc39 := Aside0.mk c39
     clear c39
     obtain ⟨y168, hy168⟩ : ∃ y_ : List (S48), y_ = (y161 ++ y164) := ⟨_, rfl⟩
     replace H : (if y168.length < 4398046511104 then ((some (y168 ++ [(⟨a1, a2⟩ : S48)] : List (S48))).bind fun y171 => (if y171.length + y120.length < 4398046511104 then (some (y171 ++ y120)) else (none))) else (none)) = some r := by first | (rw [hy168]; with_reducible exact H) | (have H2_ := (Option.bind_some _ _).symm.trans H; rw [hy168]; with_reducible exact H2_) | (have H2_ := (Option.bind_some _ _).symm.trans H; with_reducible exact H2_) | with_reducible exact H | (rw [hy168]; exact H) | exact H
     have Ny168 := Aside0.mk hy168
     clear hy168
     by_cases c40 : y168.length < 4398046511104
     ·rw [if_pos c40] at H
      have LMc40 := Aside0.mk c40
      clear c40
      obtain ⟨y171, hy171⟩ : ∃ y_ : List (S48), y_ = (y168 ++ [(⟨a1, a2⟩ : S48)]) := ⟨_, rfl⟩
      replace H : (if y171.length + y120.length < 4398046511104 then (some (y171 ++ y120)) else (none)) = some r := by first | (rw [hy171]; with_reducible exact H) | (have H2_ := (Option.bind_some _ _).symm.trans H; rw [hy171]; with_reducible exact H2_) | (have H2_ := (Option.bind_some _ _).symm.trans H; with_reducible exact H2_) | with_reducible exact H | (rw [hy171]; exact H) | exact H
      have Ny171 := Aside0.mk hy171
      clear hy171
      by_cases c41 : y171.length + y120.length < 4398046511104
      ·rw [if_pos c41] at H
       have LMc41 := Aside0.mk c41
       clear c41
       obtain ⟨y174, hy174⟩ : ∃ y_ : List (S48), y_ = (y171 ++ y120) := ⟨_, rfl⟩
       replace H : (some y174) = some r := by first | (rw [hy174]; with_reducible exact H) | (have H2_ := (Option.bind_some _ _).symm.trans H; rw [hy174]; with_reducible exact H2_) | (have H2_ := (Option.bind_some _ _).symm.trans H; with_reducible exact H2_) | with_reducible exact H | (rw [hy174]; exact H) | exact H
       have Ny174 := Aside0.mk hy174
       clear hy174
       obtain rfl := Option.some.inj H
       go_enter Try.func47, Try.ntmps47
       go_wp2_with (first | ((with_reducible refine qaE (f := 63) rfl ?_); refine qbn (some 11) rfl rfl Try.func63 (by kernel_rfl) rfl #[.slice A0 l0.length c0, .string a1] rfl (by (try simp only [List.map_toArray, List.map_cons, List.map_nil]); first | done | rfl | (simp only [List.length_drop, List.length_take]; rfl)) ?_; (with_reducible refine (qbk.calls k _ _ l0 a1 t119 _ ?side1 ?side2 A4.out).mono ?_); (case side1 => repeat (first | exact HR0.out | (with_reducible refine Kd.qa9 ?_ _) | (with_reducible refine Kd.qba ?_ _) | (with_reducible refine Kd.qbl ?_))); (case side2 => exact HC0.out); rintro e w' ⟨rfl, ⟨nd, rfl⟩⟩; refine ⟨_, rfl, ?_⟩; have q42 : (t119 : Int) ≤ ((l0.length : Int) : Int) := of_decide_eq_true (by first | (with_reducible assumption) | assumption); obtain ⟨i042, hi042, _, hsz42, _⟩ := info_parts qcL; have hroom42 : l0.length ≤ c0 := HC0.out; have hC42 : Kd.C k48 _ A0 l0.length l0 := HR0.out; have q042 : (0 : Int) ≤ (t119 : Int) := of_decide_eq_true (by first | (with_reducible assumption) | assumption); have hcut42 := qeP (P := Try.prog) 24 48 .i64 Try.underlying24 hi042 2 hsz42 A0 l0.length c0 t119 q042 q42; have hr42 := Kd.qhj (m := (t119 : Int).toNat) (c := c0) hC42 (by omega) hroom42; obtain ⟨A42, hA42⟩ : ∃ A1, A1 = (if c0 = (t119 : Int).toNat then A0 else (A0 : Option Addr).map (·.add ((t119 : Int).toNat * 2))) := ⟨_, rfl⟩; obtain ⟨c42, hc42⟩ : ∃ c1, c1 = c0 - (t119 : Int).toNat := ⟨_, rfl⟩; have hy42 : y120.length = l0.length - (t119 : Int).toNat := (by rw [Ny120.out, List.length_drop] <;> omega); rw [show (l0).drop (t119 : Int).toNat = y120 from Ny120.out.symm] at hr42; replace hr42 : Kd.C k48 _ A42 y120.length y120 := (by rw [hA42]; exact hr42); rw [← hy42, ← hA42, ← hc42] at hcut42; have HR123 := Aside0.mk hr42; have HC123 := Aside0.mk (show y120.length ≤ c42 from by rw [hy42, hc42]; exact Nat.sub_le_sub_right hroom42 _); clear hr42 hC42 hroom42 hi042 hsz42 hc42; have KY42 := Aside0.mk hy42; have KA42 := Aside0.mk hA42; clear hy42 hA42; replace q42 := eq_true q42) | ((with_reducible refine qaM (N := 32) rfl ?_); refine Kd.qdN k48 _ 48 ?hg (N := 32) ?hd (xs := ([] : List (S48))) (inner := []) (ok := fun _ => True) (okp := fun _ => True) ?hr ?hp (fun _ hk => hk) trivial (Below.refl _ _) (Nat.le_refl _) (by simp) ?_; (case hd => rfl); (case hg => rfl); (case hr => first | (go_simp; done) | (go_simp; rfl)); (case hp => exact (Reps.none _ _)); intro v162 w43 ho44 hb hg_ hnew_; clear hg_ hnew_; (first | rw [← Ny161.out] at ho44 | (simp only [Int.reduceToNat] at ho44; rw [← Ny161.out] at ho44)); have n0_ := Aside0.mk (Kd.qbh ho44 (qak (by repeat (first | (with_reducible first | exact HB.out | apply qac | apply qaa | apply qab) | exact HB.out)))); have n1_ := Aside0.mk (qag (by repeat (first | (with_reducible first | exact HB.out | apply qac | apply qaa | apply qab) | exact HB.out)) hb); clear HB; have HO163 := n0_; have HB := n1_; clear n0_ n1_ hb ho44; have q45 : (t119 : Int) ≤ ((l0.length : Int) : Int) := of_decide_eq_true (by first | (with_reducible assumption) | assumption); obtain ⟨i045, hi045, _, hsz45, _⟩ := info_parts qcL; have hroom45 : l0.length ≤ c0 := HC0.out; have hC45 : Kd.C k48 _ A0 l0.length l0 := HR0.out; have hcut45 := qh4 (P := Try.prog) 24 48 .i64 Try.underlying24 hi045 A0 l0.length c0 t119 (of_decide_eq_true (by first | (with_reducible assumption) | assumption)) q45 hroom45; have hr45 := Kd.qh7 (m := (t119 : Int).toNat) hC45 (by omega); have hy45 : y164.length = (t119 : Int).toNat := (by rw [Ny164.out, List.length_take]; omega); rw [← Ny164.out] at hr45; rw [← hy45] at hcut45; have HR167 := Aside0.mk hr45; have HC167 := Aside0.mk (show y164.length ≤ c0 from by omega); clear hr45 hC45 hroom45 hi045 hsz45; have KY45 := Aside0.mk hy45; clear hy45; replace q45 := eq_true q45) | ((with_reducible refine qbC (b := .append) (xs := #[.tmp 32, .tmp 35]) rfl ?_); at_builtin; refine Kd.qbQ k48 (w0 := w) w.heap.size rfl (.tmp 32) (.tmp 35) 24 48 (.agg #[(.string ⟨#[]⟩), (.string ⟨#[]⟩)]) 32 rfl Try.underlying24 qcL rfl (by decide) (by omega) v162 y161 y164 _ _ _ (fun _ => True) (fun _ => False) rfl rfl ?aO ?aR (fun _ _ h => h) (fun _ h => h.elim) ?aF ?aB ?aS ?aL ?_; (case aR => repeat (first | exact (Kd.qa8 HR167.out HB.out) | (with_reducible refine Kd.qa9 ?_ _) | (with_reducible refine Kd.qba ?_ _) | (with_reducible refine Kd.qbl ?_))); (case aB => exact (by repeat (first | (with_reducible first | exact HB.out | apply qac | apply qaa | apply qab) | exact HB.out))); (case aF => exact (fun _ _ => trivial)); (case aO => exact (by (with_reducible repeat (first | apply Kd.qar | apply Kd.qas | apply Kd.qaD)); exact HO163.out)); (case aS => exact (qak (by repeat (first | (with_reducible first | exact HB.out | apply qac | apply qaa | apply qab) | exact HB.out)))); (case aL => have := LMc39.out; omega); intro v169 w46 ho hb hg hat; rw [← Ny168.out] at ho; have n0_ := Aside0.mk (hb); have n1_ := Aside0.mk (ho); clear HB HO163; have HB := n0_; have HO170 := n1_; clear n0_ n1_; clear ho hb hg hat) | ((with_reducible refine qbC (b := .append) (xs := #[.tmp 36, .tmp 40]) rfl ?_); at_builtin; refine Kd.qek k48 (w0 := w) w.heap.size rfl (.tmp 36) (.tmp 40) 24 48 (.agg #[(.string ⟨#[]⟩), (.string ⟨#[]⟩)]) 32 rfl Try.underlying24 qcL rfl (by decide) (by omega) v169 y168 (⟨a1, a2⟩ : S48) [.string a1, .string a2] (fun _ => True) (fun _ => False) rfl rfl ?aP (fun _ hk => hk.elim) ?aF ?aO ?aB ?aS ?aL ?_; (case aP => exact qcZ _ _ _ (⟨a1, a2⟩ : S48)); (case aB => exact (by repeat (first | (with_reducible first | exact HB.out | apply qac | apply qaa | apply qab) | exact HB.out))); (case aF => exact (fun _ _ => trivial)); (case aO => exact (by (with_reducible repeat (first | apply Kd.qar | apply Kd.qas | apply Kd.qaD)); exact HO170.out)); (case aS => exact (qak (by repeat (first | (with_reducible first | exact HB.out | apply qac | apply qaa | apply qab) | exact HB.out)))); (case aL => have := LMc40.out; omega); intro v172 w47 ho hb hg hat; rw [← Ny171.out] at ho; have n0_ := Aside0.mk (hb); have n1_ := Aside0.mk (ho); clear HB HO170; have HB := n0_; have HO173 := n1_; clear n0_ n1_; clear ho hb hg hat) | ((with_reducible refine qbC (b := .append) (xs := #[.tmp 41, .tmp 42]) rfl ?_); at_builtin; refine Kd.qbQ k48 (w0 := w) w.heap.size rfl (.tmp 41) (.tmp 42) 24 48 (.agg #[(.string ⟨#[]⟩), (.string ⟨#[]⟩)]) 32 rfl Try.underlying24 qcL rfl (by decide) (by omega) v172 y171 y120 _ _ _ (fun _ => True) (fun _ => False) rfl rfl ?aO ?aR (fun _ _ h => h) (fun _ h => h.elim) ?aF ?aB ?aS ?aL ?_; (case aR => repeat (first | exact (Kd.qa8 HR123.out HB.out) | (with_reducible refine Kd.qa9 ?_ _) | (with_reducible refine Kd.qba ?_ _) | (with_reducible refine Kd.qbl ?_))); (case aB => exact (by repeat (first | (with_reducible first | exact HB.out | apply qac | apply qaa | apply qab) | exact HB.out))); (case aF => exact (fun _ _ => trivial)); (case aO => exact (by (with_reducible repeat (first | apply Kd.qar | apply Kd.qas | apply Kd.qaD)); exact HO173.out)); (case aS => exact (qak (by repeat (first | (with_reducible first | exact HB.out | apply qac | apply qaa | apply qab) | exact HB.out)))); (case aL => have := LMc41.out; omega); intro v175 w48 ho hb hg hat; rw [← Ny174.out] at ho; have n0_ := Aside0.mk (hb); have n1_ := Aside0.mk (ho); clear HB HO173; have HB := n0_; have HO176 := n1_; clear n0_ n1_; clear ho hb hg hat))
       go_ret
       exact ⟨_, by first | rfl | (simp [qam, qan] <;> rfl) | (simp [*, qam, qan] <;> rfl), by (with_reducible repeat (first | apply Kd.qar | apply Kd.qas | apply Kd.qaD)); exact HO176.out, by repeat (first | (with_reducible first | exact HB.out | apply qac | apply qaa | apply qab) | exact HB.out)⟩
      ·rw [if_neg c41] at H
       exact absurd H (by simp)
     ·rw [if_neg c40] at H
      exact absurd H (by simp)
    ·rw [if_neg c39] at H
     exact absurd H (by simp)
  ·rw [if_neg c6] at H
   exact absurd H (by simp)
 ·rw [if_neg c5] at H
  exact absurd H (by simp)
def qcl.f (l0 : List (S48)) (a1 : ByteArray) (a2 : ByteArray) : Option ((List (S48))) := (qbw.f l0 a1).bind fun bt317 => (if bt317.2 = true then (if 0 ≤ bt317.1 then (if bt317.1 < (l0.length : Int) then (some (l0.set (bt317.1 : Int).toNat (⟨(qaK l0 bt317.1).f0, a2⟩ : S48))) else (none)) else (none)) else ((qce.f l0 bt317.1 (([(⟨a1, a2⟩ : S48)] : List (S48)))).bind fun t323 => (some t323)))
set_option maxHeartbeats 8000000 in
set_option maxRecDepth 100000 in
theorem qcl.calls (P0_ : Nat → Prop) (u9000_ : Value) (l0 : List (S48)) (a1 : ByteArray) (a2 : ByteArray) (r : List (S48)) (w0 w : World) (hB : Below w0.heap.size w0 w) (ho0 : Kd.R k48 48 w w0.heap.size P0_ u9000_ l0) (h : qcl.f l0 a1 a2 = some r) :
  Calls Try.prog 66 #[u9000_, .string a1, .string a2] w fun e w' => ∃ v0_ : Value, e = .returned (v0_) ∧ Kd.R k48 48 w' w0.heap.size (fun k_ => (P0_ k_ ∨ w.heap.size ≤ k_)) v0_ r ∧ Below w0.heap.size w0 w' ∧ Kept w w' (fun k_ => P0_ k_) := by
 have hu48 := Try.underlying48
 have HO0 := Aside0.mk (show Kd.R k48 48 w w0.heap.size (fun k_ => (P0_ k_ ∨ w.heap.size ≤ k_)) u9000_ l0 from Kd.qbr ho0 (fun k_ hk => (.inl hk)))
 have HK := Aside0.mk (Kept.refl w (fun k_ => P0_ k_))
 have HW0 := Aside0.mk hB.size
 have HB := Aside0.mk hB
 clear hB
 have H : ((qbw.f l0 a1).bind fun bt317 => (if bt317.2 = true then (if 0 ≤ bt317.1 then (if bt317.1 < (l0.length : Int) then (some (l0.set (bt317.1 : Int).toNat (⟨(qaK l0 bt317.1).f0, a2⟩ : S48))) else (none)) else (none)) else ((qce.f l0 bt317.1 (([(⟨a1, a2⟩ : S48)] : List (S48)))).bind fun t323 => (some t323)))) = some r := h
 clear h
 replace H := Option.bind_eq_some_iff.mp H
 obtain ⟨⟨t317, t318⟩, A40, H⟩ := H
 try dsimp only at H
 have A4 := Aside0.mk A40
 clear A40
 by_cases c5 : t318 = true
 ·subst c5
  have H1 : (if 0 ≤ t317 then (if t317 < (l0.length : Int) then (some (l0.set (t317 : Int).toNat (⟨(qaK l0 t317).f0, a2⟩ : S48))) else (none)) else (none)) = some r := by rw [if_pos rfl] at H; exact H
  clear H
  have H := H1
  clear H1
  by_cases c6 : 0 ≤ t317
  ·rw [if_pos c6] at H
   have c6b0 : decide (0 ≤ t317) = true := decide_eq_true c6
   clear c6
   by_cases c7 : t317 < (l0.length : Int)
   ·rw [if_pos c7] at H
    have c7b0 : decide (t317 < (l0.length : Int)) = true := decide_eq_true c7
    clear c7
    obtain ⟨y319, hy319⟩ : ∃ y_ : List (S48), y_ = (l0.set (t317 : Int).toNat (⟨(qaK l0 t317).f0, a2⟩ : S48)) := ⟨_, rfl⟩
    replace H : (some y319) = some r := by first | (rw [hy319]; with_reducible exact H) | (have H2_ := (Option.bind_some _ _).symm.trans H; rw [hy319]; with_reducible exact H2_) | (have H2_ := (Option.bind_some _ _).symm.trans H; with_reducible exact H2_) | with_reducible exact H | (rw [hy319]; exact H) | exact H
    have Ny319 := Aside0.mk hy319
    clear hy319
    obtain rfl := Option.some.inj H
    obtain ⟨Ao9, co9, eo9⟩ := Kd.qbN HO0.out
    subst eo9
    go_enter Try.func66, Try.ntmps66
    go_wp2_with (first | ((with_reducible refine qaE (f := 65) rfl ?_); refine qbn (some 12) rfl rfl Try.func65 (by kernel_rfl) rfl #[.slice Ao9 l0.length co9, .string a1] rfl (by (try simp only [List.map_toArray, List.map_cons, List.map_nil]); first | done | rfl | (simp only [List.length_drop, List.length_take]; rfl)) ?_; (with_reducible refine (qbw.calls _ _ l0 a1 t317 true _ ?side1 ?side2 A4.out).mono ?_); (case side1 => repeat (first | exact (Kd.qaO HO0.out).2.2 | (with_reducible refine Kd.qa9 ?_ _) | (with_reducible refine Kd.qba ?_ _) | (with_reducible refine Kd.qbl ?_))); (case side2 => exact (Kd.qaO HO0.out).2.1); rintro e w10 ⟨rfl, hb⟩; refine ⟨_, rfl, ?_⟩; have n0_ := Aside0.mk (Kd.qaX (by (with_reducible repeat (first | apply Kd.qar | apply Kd.qas | apply Kd.qaD)); exact HO0.out) hb); have n1_ := Aside0.mk (Kept.below (S := (fun k_ => P0_ k_)) (by repeat (first | (with_reducible first | exact HK.out | apply Kept.alloc | apply Kept.drewN | apply Kept.drew) | exact HK.out)) hb); have n2_ := Aside0.mk (qag (by repeat (first | (with_reducible first | exact HB.out | apply qac | apply qaa | apply qab) | exact HB.out)) hb); clear HO0 HK HB; have HO0 := n0_; have HK := n1_; have HB := n2_; clear n0_ n1_ n2_; (try clear hb); (try clear hb2); (try clear hk); (try clear hi); have p8 : 0 ≤ (t317 : Int) := of_decide_eq_true (by first | (with_reducible assumption) | assumption); have q8 : (t317 : Int) < ((l0.length : Int) : Int) := of_decide_eq_true (by first | (with_reducible assumption) | assumption); obtain ⟨go8, co8, eo8, gb8, gl8, cl8, HG8⟩ := Kd.qdM HO0.out (by omega); (first | cases eo8 | (injection eo8 with ea_ en_ ec_; (first | subst ea_ | (injection ea_ with ea_; subst ea_)); subst ec_; clear en_)); have GB8 := Aside0.mk gb8; have GG8 := Aside0.mk HG8; clear gb8 gl8 HG8; have HMgo8 := Aside0.mk (show (P0_ go8 ∨ w.heap.size ≤ go8) from (HO0.out.1 _ rfl)); obtain ⟨ce8, hcl8, hM8, hcc8, hfr8⟩ := Kd.qcU HO0.out z48 (t317 : Int) p8 q8; obtain rfl := qcN hM8; have hx8_0 : w10.cell? ⟨go8, (t317 : Int).toNat * 2, none⟩ = some (.string ((qaK l0 t317).f0)) := hcc8 0 _ rfl; have hx8_1 : w10.cell? ⟨go8, (t317 : Int).toNat * 2 + 1, none⟩ = some (.string ((qaK l0 t317).f1)) := hcc8 1 _ rfl; have hf8_0 : w10.frozen? ⟨go8, (t317 : Int).toNat * 2, none⟩ = false := hfr8 0; have hf8_1 : w10.frozen? ⟨go8, (t317 : Int).toNat * 2 + 1, none⟩ = false := hfr8 1; clear hcl8 hcc8 hfr8 hM8; replace p8 := eq_true p8; replace q8 := eq_true q8; have HX11 := Aside0.mk (show Kd.R k48 48 w10 w0.heap.size (fun k_ => (P0_ k_ ∨ w.heap.size ≤ k_)) (.slice (some ⟨go8, 0, none⟩) l0.length co9) l0 from (by (with_reducible repeat (first | apply Kd.qar | apply Kd.qas | apply Kd.qaD)); exact HO0.out)); obtain ⟨ce11, hcl11, hM11, hcc11, hfr11⟩ := Kd.qcU HX11.out z48 (t317 : Int) (of_decide_eq_true (by first | (with_reducible assumption) | assumption)) (by have h_ : (t317 : Int) < ((l0.length : Int) : Int) := of_decide_eq_true (by first | (with_reducible assumption) | assumption); first | exact h_ | (have e_ := (Kd.qaO HO0.out).1; omega) | simpa using h_); obtain rfl := qcN hM11; have HP11 := Kd.qfx HX11.out (t317 : Int) (of_decide_eq_true (by first | (with_reducible assumption) | assumption)) (by have h_ : (t317 : Int) < ((l0.length : Int) : Int) := of_decide_eq_true (by first | (with_reducible assumption) | assumption); first | exact h_ | (have e_ := (Kd.qaO HO0.out).1; omega) | simpa using h_) (seg := [.string a2]) (j := 1) hcl11 hcc11 (show 2 ≤ 2 from by decide) (x' := (⟨(qaK l0 t317).f0, a2⟩ : S48)) (qcZ _ _ _ (⟨(qaK l0 t317).f0, a2⟩ : S48) ) (fun _ hk => hk); have hx11_1 := hcc11 1 _ rfl; (try simp only [show (k48).sz = 2 from rfl, Nat.mul_one, Nat.add_zero] at hx11_1); have hf11_1 := hfr11 1; (try simp only [show (k48).sz = 2 from rfl, Nat.mul_one, Nat.add_zero] at hf11_1); clear hcl11 hcc11 hfr11 hM11) | ((with_reducible refine qcr (t := 9) (p := 20) rfl ?_); refine qcg (t := 9) (p := 20) (v := ?vo_w12) (w1 := (w10.setCell ⟨go8, (t317 : Int).toNat * 2 + 1, none⟩ (.string a2))) ?hg ?ho ?hn ?hr ?_; (case ho => rfl); (case hg => rfl); (case hn => rfl); (case hr => first | (go_simp; done) | (go_simp; rfl)); intro w12 hw; have hg : w10.grownBy w12 (some go8) := (by rw [hw]; exact HP11.2); have hp_ : Kd.R k48 48 w12 w0.heap.size (fun k_ => (P0_ k_ ∨ w.heap.size ≤ k_)) (.slice (some ⟨go8, 0, none⟩) l0.length co9) y319 := (by rw [hw, Ny319.out]; exact HP11.1); clear HP11; have n0_ := Aside0.mk (hp_); have n1_ := Aside0.mk ((by rw [hw]; exact qah (HB.out) GB8.out : Below w0.heap.size w0 w12)); have n2_ := Aside0.mk (Kept.qcI (S := (fun k_ => P0_ k_)) hg (by repeat (first | (with_reducible first | exact HK.out | apply Kept.alloc | apply Kept.drewN | apply Kept.drew) | exact HK.out)) (fun k_ e_ => (HO0.out.1 k_ e_))); clear HO0 HB HK; have HO0 := n0_; have HB := n1_; have HK := n2_; clear n0_ n1_ n2_; clear hg hw hp_))
    go_ret
    exact ⟨_, by first | rfl | (simp [qam, qan] <;> rfl) | (simp [*, qam, qan] <;> rfl), by (with_reducible repeat (first | apply Kd.qar | apply Kd.qas | apply Kd.qaD)); exact HO0.out, by repeat (first | (with_reducible first | exact HB.out | apply qac | apply qaa | apply qab) | exact HB.out), by repeat (first | (with_reducible first | exact HK.out | apply Kept.alloc | apply Kept.drewN | apply Kept.drew) | exact HK.out)⟩
   ·rw [if_neg c7] at H
    exact absurd H (by simp)
  ·rw [if_neg c6] at H
   exact absurd H (by simp)
 ·replace c5 := Bool.eq_false_iff.mpr c5
  subst c5
  have H1 : ((qce.f l0 t317 (([(⟨a1, a2⟩ : S48)] : List (S48)))).bind fun t323 => (some t323)) = some r := by rw [if_neg (show ¬ (false = true) by decide)] at H; exact H
  clear H
  have H := H1
  clear H1
  obtain ⟨y320, hy320⟩ : ∃ y_ : List (S48), y_ = (([(⟨a1, a2⟩ : S48)] : List (S48))) := ⟨_, rfl⟩
  replace H : ((qce.f l0 t317 y320).bind fun t323 => (some t323)) = some r := by first | (rw [hy320]; with_reducible exact H) | (have H2_ := (Option.bind_some _ _).symm.trans H; rw [hy320]; with_reducible exact H2_) | (have H2_ := (Option.bind_some _ _).symm.trans H; with_reducible exact H2_) | with_reducible exact H | (rw [hy320]; exact H) | exact H
  have Ny320 := Aside0.mk hy320
  clear hy320
  replace H := Option.bind_eq_some_iff.mp H
  obtain ⟨t323, A130, H⟩ := H
  try dsimp only at H
  have A13 := Aside0.mk A130
  clear A130
  obtain rfl := Option.some.inj H
  obtain ⟨Ao14, co14, eo14⟩ := Kd.qbN HO0.out
  subst eo14
  go_enter Try.func66, Try.ntmps66
  go_wp2_with (first | ((with_reducible refine qaE (f := 65) rfl ?_); refine qbn (some 12) rfl rfl Try.func65 (by kernel_rfl) rfl #[.slice Ao14 l0.length co14, .string a1] rfl (by (try simp only [List.map_toArray, List.map_cons, List.map_nil]); first | done | rfl | (simp only [List.length_drop, List.length_take]; rfl)) ?_; (with_reducible refine (qbw.calls _ _ l0 a1 t317 false _ ?side1 ?side2 A4.out).mono ?_); (case side1 => repeat (first | exact (Kd.qaO HO0.out).2.2 | (with_reducible refine Kd.qa9 ?_ _) | (with_reducible refine Kd.qba ?_ _) | (with_reducible refine Kd.qbl ?_))); (case side2 => exact (Kd.qaO HO0.out).2.1); rintro e w15 ⟨rfl, hb⟩; refine ⟨_, rfl, ?_⟩; have n0_ := Aside0.mk (Kd.qaX (by (with_reducible repeat (first | apply Kd.qar | apply Kd.qas | apply Kd.qaD)); exact HO0.out) hb); have n1_ := Aside0.mk (Kept.below (S := (fun k_ => P0_ k_)) (by repeat (first | (with_reducible first | exact HK.out | apply Kept.alloc | apply Kept.drewN | apply Kept.drew) | exact HK.out)) hb); have n2_ := Aside0.mk (qag (by repeat (first | (with_reducible first | exact HB.out | apply qac | apply qaa | apply qab) | exact HB.out)) hb); clear HO0 HK HB; have HO0 := n0_; have HK := n1_; have HB := n2_; clear n0_ n1_ n2_; (try clear hb); (try clear hb2); (try clear hk); (try clear hi)) | ((with_reducible refine qaM (N := 27) rfl ?_); refine Kd.qdN k48 _ 48 ?hg (N := 27) ?hd (xs := ([(⟨a1, a2⟩ : S48)] : List (S48))) (inner := [.string a1, .string a2]) (ok := fun _ => True) (okp := fun _ => True) ?hr ?hp (fun _ hk => hk) trivial (Below.refl _ _) (Nat.le_refl _) (by simp) ?_; (case hd => rfl); (case hg => rfl); (case hr => first | (go_simp; done) | (go_simp; rfl)); (case hp => exact (Reps.c2 (show Kd.M k48 _ _ _ (⟨a1, a2⟩ : S48) [.string a1, .string a2] from (qcZ _ _ _ (⟨a1, a2⟩ : S48) )) (Reps.none _ _))); intro v321 w16 ho17 hb hg_ hnew_; clear hg_ hnew_; (first | rw [← Ny320.out] at ho17 | (simp only [Int.reduceToNat] at ho17; rw [← Ny320.out] at ho17)); have n0_ := Aside0.mk (Kd.qch (by (with_reducible repeat (first | apply Kd.qar | apply Kd.qas | apply Kd.qaD)); exact HO0.out) (Kd.qcT ho17) hb); have n1_ := Aside0.mk (Kd.qbh (Kd.qdb (Kd.R_newM (M := fun k_ => (P0_ k_ ∨ w.heap.size ≤ k_)) ho17 (by first | exact HK.out.1 | exact (show Kept w _ (fun k_ => P0_ k_) from by repeat (first | (with_reducible first | exact HK.out | apply Kept.alloc | apply Kept.drewN | apply Kept.drew) | exact HK.out)).1) (fun k_ h_ => .inr h_)) (Kd.R_lt (by (with_reducible repeat (first | apply Kd.qar | apply Kd.qas | apply Kd.qaD)); exact HO0.out))) (qak (by repeat (first | (with_reducible first | exact HB.out | apply qac | apply qaa | apply qab) | exact HB.out)))); have n2_ := Aside0.mk (Kept.below (S := (fun k_ => P0_ k_)) (by repeat (first | (with_reducible first | exact HK.out | apply Kept.alloc | apply Kept.drewN | apply Kept.drew) | exact HK.out)) hb); have n3_ := Aside0.mk (qag (by repeat (first | (with_reducible first | exact HB.out | apply qac | apply qaa | apply qab) | exact HB.out)) hb); clear HO0 HK HB; have HO0 := n0_; have HO322 := n1_; have HK := n2_; have HB := n3_; clear n0_ n1_ n2_ n3_ hb ho17; obtain ⟨Ao18, co18, eo18⟩ := Kd.qbN HO322.out; subst eo18) | ((with_reducible refine qaE (f := 80) rfl ?_); refine qbn (some 28) rfl rfl Try.func80 (by kernel_rfl) rfl #[.slice Ao14 l0.length co14, .int .i64 t317, .slice Ao18 y320.length co18] rfl (by (try simp only [List.map_toArray, List.map_cons, List.map_nil]); first | done | rfl | (simp only [List.length_drop, List.length_take]; rfl)) ?_; (with_reducible refine (qce.calls (fun k_ => some k_ = (.slice Ao14 l0.length co14 : Value).ownBlock) (.slice Ao14 l0.length co14) l0 t317 (fun k_ => some k_ = (.slice Ao18 y320.length co18 : Value).ownBlock) (.slice Ao18 y320.length co18) y320 t323 w0 _ ?side1 ?side2 ?side3 ?side4 ?side5 A13.out).mono ?_); (case side1 => repeat (first | (with_reducible first | exact HB.out | apply qac | apply qaa | apply qab) | exact HB.out)); (case side2 => exact Kd.qde rfl HO0.out); (case side3 => exact fun k_ e_ => (HO0.out.1 k_ e_.symm).2); (case side4 => exact Kd.qde rfl HO322.out); (case side5 => exact fun k_ e_ => (HO322.out.1 k_ e_.symm).2); rintro e w19 ⟨v324, rfl, ho0, hb, hkp⟩; refine ⟨_, rfl, ?_⟩; have n0_ := Aside0.mk (Kd.qbr (ok' := fun k_ => (P0_ k_ ∨ w.heap.size ≤ k_)) ho0 (fun k_ hk_ => Or.elim hk_ (fun hs_ => Or.elim hs_ (fun hs_ => (HO0.out.1 k_ (hs_).symm).1) (fun hs_ => (HO322.out.1 k_ (hs_).symm).1.1)) (fun hn_ => (.inr (Nat.le_trans (by first | exact HK.out.1 | exact (show Kept w _ (fun k_ => P0_ k_) from by repeat (first | (with_reducible first | exact HK.out | apply Kept.alloc | apply Kept.drewN | apply Kept.drew) | exact HK.out)).1) hn_))))); have n1_ := Aside0.mk (Kept.qhz (S := (fun k_ => P0_ k_)) (by repeat (first | (with_reducible first | exact HK.out | apply Kept.alloc | apply Kept.drewN | apply Kept.drew) | exact HK.out)) hkp (fun k_ hs_ => Or.elim hs_ (fun e_ => (fun e_ => (HO0.out.1 k_ e_.symm).1) e_) (fun e_ => (fun e_ => (HO322.out.1 k_ e_.symm).1.1) e_))); have n2_ := Aside0.mk (hb); clear HK HB HO0 HO322; have HO325 := n0_; have HK := n1_; have HB := n2_; clear n0_ n1_ n2_; (try clear hb); (try clear hkp); (try clear ho0)))
  go_ret
  exact ⟨_, by first | rfl | (simp [qam, qan] <;> rfl) | (simp [*, qam, qan] <;> rfl), by (with_reducible repeat (first | apply Kd.qar | apply Kd.qas | apply Kd.qaD)); exact HO325.out, by repeat (first | (with_reducible first | exact HB.out | apply qac | apply qaa | apply qab) | exact HB.out), by repeat (first | (with_reducible first | exact HK.out | apply Kept.alloc | apply Kept.drewN | apply Kept.drew) | exact HK.out)⟩
def putP (l : List S48) (key v : ByteArray) : List S48 := if hasAt l key = true then l.set (lowAt l key) ⟨key, v⟩ else l.take (lowAt l key) ++ [⟨key, v⟩] ++ l.drop (lowAt l key)
theorem qf8 (l : List S48) (key : ByteArray) : lowAt l key ≤ l.length := by
 unfold lowAt
 exact List.findIdx_le_length
theorem qhc (l : List S48) (key v : ByteArray) : (putP l key v).length = l.length + (if hasAt l key = true then 0 else 1) := by
 unfold putP
 have h := qf8 l key
 cases hh : hasAt l key with
 | true => simp
 | false => simp; omega
theorem impl_put {l : List S48} (key v : ByteArray) (h : Rises l) (hl : l.length ≤ 1000000) : qcl.f l key v = some (putP l key v) := by
 unfold qcl.f putP
 rw [qg9 key h hl, Option.bind_some]
 have hle := qf8 l key
 cases hh : hasAt l key with
 | false =>
  rw [if_neg (by simp), if_neg (by simp)]
  unfold qce.f
  rw [if_pos ⟨by simp only; omega, by simp only; omega, rfl, hl⟩, Option.bind_some]
  simp
 | true =>
  have hlt := qd6 hh
  have hk := qfg hh
  rw [if_pos rfl, if_pos rfl, if_pos (by simp only; omega), if_pos (by simp only; omega)]
  simp only [Int.toNat_natCast]
  rw [qiR l _ hlt, hk]
theorem set_is {α : Type} (l : List α) (i : Nat) (x : α) (h : i < l.length) : l.set i x = l.take i ++ [x] ++ l.drop (i + 1) := by
 rw [List.set_eq_take_append_cons_drop, if_pos h]
 simp
theorem qht (l : List S48) (key v : ByteArray) (hl : l.length ≤ 1000000) : Ev (fun k => qc0.f k l key v) (putP l key v) := by
 unfold qc0.f putP
 have hle := qf8 l key
 refine Ev.bind (qiO l key (by omega)) (Ev.pos (by omega) (Ev.pos (by omega) (Ev.bindk rfl ?_)))
 simp only [Int.toNat_natCast]
 by_cases h : lowAt l key < l.length
 ·refine Ev.pos (by omega) ?_
  by_cases h2 : (qaK l (lowAt l key)).f0.toList = key.toList
  ·have hh : hasAt l key = true := by unfold hasAt; simp [h, h2]
   have e := qcu (n := lowAt l key) (by omega)
   refine Ev.pos h2 (Ev.pos (by omega) (Ev.pos (by omega) (Ev.bindk rfl (Ev.bindk rfl (Ev.bindk rfl (Ev.pos (by simp; omega) (Ev.bindk rfl (Ev.pos (by simp; omega) (Ev.bindk rfl (Ev.pos (by simp; omega) (Ev.is ?_)))))))))))
   rw [if_pos hh, e, Int.toNat_natCast, set_is _ _ _ h]
   simp
  ·have hh : hasAt l key = false := by unfold hasAt; simp [h2]
   refine Ev.neg h2 (Ev.bindk rfl (Ev.bindk rfl (Ev.pos (by simp; omega) (Ev.bindk rfl (Ev.pos (by simp; omega) (Ev.bindk rfl (Ev.pos (by simp; omega) (Ev.is ?_))))))))
   rw [if_neg (by rw [hh]; simp)]
   simp
 ·have hh : hasAt l key = false := by unfold hasAt; simp [h]
  refine Ev.neg (by omega) (Ev.bindk rfl (Ev.bindk rfl (Ev.pos (by simp; omega) (Ev.bindk rfl (Ev.pos (by simp; omega) (Ev.bindk rfl (Ev.pos (by simp; omega) (Ev.is ?_))))))))
  rw [if_neg (by rw [hh]; simp)]
  simp
def Fine (l : List S48) : Prop := (∀ p ∈ l, okP p = true) ∧ Rises l
theorem bne_dec (a b : List UInt8) : (a != b) = !decide (a = b) := by by_cases h : a = b <;> simp [h]
theorem qiU {l : List S48} {key : ByteArray} {j : Nat} (hl : j < l.length) (hj : j < lowAt l key) : Op.bytesLess l[j].f0.toList key.toList = true := by
 have h := List.not_of_lt_findIdx (xs := l) (p := fun p => !Op.bytesLess p.f0.toList key.toList) hj
 simpa using h
theorem qiV {l : List S48} {key : ByteArray} (hr : Rises l) (hh : hasAt l key = false) {j : Nat} (hl : j < l.length) (hj : lowAt l key ≤ j) : Op.bytesLess key.toList l[j].f0.toList = true := by
 have hlt : lowAt l key < l.length := by omega
 have h1 : Op.bytesLess (l[lowAt l key]).f0.toList key.toList = false := by
  have h := List.findIdx_getElem (xs := l) (p := fun p => !Op.bytesLess p.f0.toList key.toList) (w := (show List.findIdx (fun p => !Op.bytesLess p.f0.toList key.toList) l < l.length from hlt))
  have h9 : (!Op.bytesLess (l[lowAt l key]).f0.toList key.toList) = true := h
  simpa using h9
 have h2 : Op.bytesLess key.toList (l[lowAt l key]).f0.toList = true := by
  cases h : Op.bytesLess key.toList (l[lowAt l key]).f0.toList with
  | true => rfl
  | false =>
   have he := qg7 h1 h
   unfold hasAt at hh
   rw [qiR l _ hlt, he] at hh
   simp [hlt] at hh
 rcases Nat.eq_or_lt_of_le hj with e | e
 ·subst e; exact h2
 ·exact qdH h2 (qet hr hl e)
theorem qiW {l : List S48} {key v : ByteArray} (hr : Rises l) : Rises (putP l key v) := by
 unfold putP
 cases hh : hasAt l key with
 | true =>
  rw [if_pos rfl]
  have hk := qfg hh
  have hlt := qd6 hh
  have e : (l.set (lowAt l key) ⟨key, v⟩).map (fun p => p.f0) = l.map (fun p => p.f0) := by
   rw [List.map_set]
   have : key = (l.map fun p => p.f0)[lowAt l key]'(by rw [List.length_map]; exact hlt) := by rw [List.getElem_map]; exact hk.symm
   conv => lhs; rw [show (⟨key, v⟩ : S48).f0 = (l.map fun p => p.f0)[lowAt l key]'(by rw [List.length_map]; exact hlt) from this]
   exact List.set_getElem_self _
  have h1 : (l.map fun p => p.f0).Pairwise (fun a b => Op.bytesLess a.toList b.toList = true) := List.pairwise_map.2 hr
  rw [← e] at h1
  exact List.pairwise_map.1 h1
 | false =>
  rw [if_neg (by simp)]
  have h1 : ∀ x ∈ l.take (lowAt l key), Op.bytesLess x.f0.toList key.toList = true := by
   intro x hx
   obtain ⟨j, hj, rfl⟩ := List.mem_take_iff_getElem.1 hx
   exact qiU (by omega) (by omega)
  have h2 : ∀ x ∈ l.drop (lowAt l key), Op.bytesLess key.toList x.f0.toList = true := by
   intro x hx
   obtain ⟨j, hj, rfl⟩ := List.mem_drop_iff_getElem.1 hx
   exact qiV hr hh (by omega) (by omega)
  unfold Rises
  rw [List.append_assoc, List.pairwise_append]
  refine ⟨List.Pairwise.sublist (List.take_sublist _ _) hr, ?_, ?_⟩
  ·rw [List.singleton_append, List.pairwise_cons]
   exact ⟨h2, List.Pairwise.sublist (List.drop_sublist _ _) hr⟩
  ·intro a ha b hb
   rw [List.singleton_append] at hb
   rcases List.mem_cons.1 hb with rfl | hb
   ·exact h1 a ha
   ·exact qdH (h1 a ha) (h2 b hb)
theorem fine_put {l : List S48} {key v : ByteArray} (h : Fine l) (hk : keyB key = true) (hv : v.size ≤ 90) : Fine (putP l key v) := by
 refine ⟨fun p hp => ?_, qiW h.2⟩
 have hn : okP ⟨key, v⟩ = true := by simp [okP, hk, hv]
 unfold putP at hp
 split at hp
 ·rcases List.mem_or_eq_of_mem_set hp with hp | rfl
  ·exact h.1 p hp
  ·exact hn
 ·rw [List.append_assoc] at hp
  rcases List.mem_append.1 hp with hp | hp
  ·exact h.1 p (List.mem_of_mem_take hp)
  ·rcases List.mem_append.1 hp with hp | hp
   ·rw [List.mem_singleton.1 hp]; exact hn
   ·exact h.1 p (List.mem_of_mem_drop hp)
theorem qiX {l : List S48} {key : ByteArray} (h : Fine l) : Fine (dropP l key) := by
 unfold dropP
 split
 ·exact ⟨fun p hp => h.1 p (List.mem_of_mem_eraseIdx hp), List.Pairwise.sublist (List.eraseIdx_sublist _ _) h.2⟩
 ·exact h
theorem dropP_le (l : List S48) (key : ByteArray) : (dropP l key).length ≤ l.length := by
 unfold dropP
 split
 ·exact (List.eraseIdx_sublist _ _).length_le
 ·exact Nat.le_refl _
def fitsB (out : List S48) (d : S56) : Bool := if hasAt out d.f0 = d.f3 then (if hasAt out d.f0 = true then decide ((getV out d.f0).toList = d.f1.toList) else true) else false
def stepD (out : List S48) (d : S56) : List S48 := if d.f4 = true then putP out d.f0 d.f2 else dropP out d.f0
def qbP (l0 : List S48) : List S48 → List S56 → List S48 × Int
 | out, [] => if 60 < out.length then (l0, 7) else (out, 0)
 | out, d :: r => if qbW d = true then (if fitsB out d = true then qbP l0 (stepD out d) r else (l0, 18)) else (l0, 3)
theorem qdv (out : List S48) (d : S56) : (stepD out d).length ≤ out.length + 1 := by
 unfold stepD
 have h1 := qhc out d.f0 d.f2
 have h2 := dropP_le out d.f0
 split
 ·rw [h1]; split <;> omega
 ·omega
theorem qhK {d : S56} (h : qbW d = true) : keyB d.f0 = true ∧ d.f1.size ≤ 90 ∧ d.f2.size ≤ 90 ∧ (d.f4 = false → d.f3 = true) := by
 unfold qbW at h
 cases h3 : d.f3 <;> cases h4 : d.f4 <;> simp [h3, h4] at h ⊢
 ·exact ⟨h.1, h.2.1, h.2.2.1⟩
 ·exact ⟨h.1, h.2.1, h.2.2.1⟩
 ·exact h
theorem qgH (d : S56) : qbW d = (okP ⟨d.f0, d.f2⟩ && (decide (d.f1.size ≤ 90) && (if d.f3 = true then (d.f4 || d.f2.toList == ([] : List UInt8)) else (d.f4 && d.f1.toList == ([] : List UInt8))))) := by
 unfold qbW okP
 cases keyB d.f0 <;> by_cases h1 : d.f1.size ≤ 90 <;> by_cases h2 : d.f2.size ≤ 90 <;> simp [h1, h2]
theorem qdC {out : List S48} {d : S56} (h : Fine out) (hd : qbW d = true) : Fine (stepD out d) := by
 obtain ⟨h1, _, h2, _⟩ := qhK hd
 unfold stepD
 split
 ·exact fine_put h h1 h2
 ·exact qiX h
theorem qfj (l0 : List S48) (h0 : Fine l0) (r : List S56) : ∀ out, Fine out → Fine (qbP l0 out r).1 := by
 induction r with
 | nil => intro out h; unfold qbP; split <;> assumption
 | cons d r ih =>
  intro out h
  unfold qbP
  split
  ·rename_i hd
   split
   ·exact ih _ (qdC h hd)
   ·exact h0
  ·exact h0
instance fineDec (l : List S48) : Decidable (Fine l) := by unfold Fine; infer_instance
def qcK.f (l0 : List S48) (l1 : List S56) : Option (List S48 × Int) := if Fine l0 ∧ l0.length ≤ 100000 ∧ l1.length ≤ 100000 then some (qbP l0 l0 l1) else none
set_option maxHeartbeats 8000000 in
set_option maxRecDepth 100000 in
theorem qcK.calls (P0_ : Nat → Prop) (A0 : Option Addr) (c0 : Nat) (l0 : List S48) (A1 : Option Addr) (c1 : Nat) (l1 : List S56) (r1 : List S48) (r2 : Int) (w : World) (hs0 : Kd.V k48 48 w w.heap.size (fun k_ => P0_ k_) (.slice A0 l0.length c0) l0) (hr1 : Kd.C k56 w A1 l1.length l1) (hc1 : l1.length ≤ c1) (h : qcK.f l0 l1 = some (r1, r2)) :
  Calls Try.prog 29 #[.slice A0 l0.length c0, .slice A1 l1.length c1] w fun e w' => ∃ v0_ : Value, e = .returned (.tuple #[v0_, .int .i64 r2]) ∧ Kd.V k48 48 w' w.heap.size (fun k_ => (P0_ k_ ∨ w.heap.size ≤ k_)) v0_ r1 ∧ Below w.heap.size w w' := by
 unfold qcK.f at h
 by_cases hs : Fine l0 ∧ l0.length ≤ 100000 ∧ l1.length ≤ 100000
 ·rw [if_pos hs] at h
  have h := Option.some.inj h
  obtain ⟨hf0, hl0, hl1⟩ := hs
  have hu := Try.underlying56
  have hu2 := Try.underlying48
  have HV0 := Aside0.mk (show Kd.V k48 48 w w.heap.size (fun k_ => (P0_ k_ ∨ w.heap.size ≤ k_)) (.slice A0 l0.length c0) l0 from Kd.V_mono hs0 (fun k_ hk => .inl hk))
  have HR := Aside0.mk hr1
  have HE := Aside0.mk h
  have HF0 := Aside0.mk hf0
  clear hs0 hr1 h hf0
  go_enter Try.func29, Try.ntmps29
  go_wp2_with fail
  go_loopw [6, 7] (fun v6 v7 wr => ∃ (i : Nat) (out : List S48), i ≤ l1.length ∧ v7 = .int .i64 i ∧ out.length + (l1.length - i) ≤ 200000 ∧ Aside0 (Fine out) ∧ Aside0 (qbP l0 out (l1.drop i) = (r1, r2)) ∧ Aside0 (Kd.V k48 48 wr w.heap.size (fun k_ => (P0_ k_ ∨ w.heap.size ≤ k_)) v6 out) ∧ Aside0 (Below w.heap.size w wr)) (fun _ v7 _ => l1.length - (intOf v7).toNat)
  case atStart => exact ⟨0, l0, Nat.zero_le _, rfl, by omega, HF0, ⟨by rw [List.drop_zero]; exact HE.out⟩, HV0, ⟨Below.refl _ _⟩⟩
  case round =>
   obtain ⟨i, out, hi, rfl, hlo, HF, HA, HV, HB⟩ := hrel
   obtain ⟨A6, c6, rfl⟩ := Kd.qik HV.out
   by_cases hlt : i < l1.length
   ·have c1 : decide ((i : Int) < (l1.length : Int)) = true := decide_eq_true (by omega)
    have p1 : 0 ≤ (i : Int) := by omega
    have q1 : (i : Int) < (l1.length : Int) := by omega
    obtain ⟨ad, e, hx0, hx1, hx2, hx3, hx4⟩ := qdd HR.out (i : Int) p1 q1
    cases e
    have et : qaf l1 (i : Int) = l1[i] := by unfold qaf; rw [Int.toNat_natCast]; simp [List.getD_eq_getElem?_getD, hlt]
    rw [et, Int.toNat_natCast] at hx0 hx1 hx2 hx3 hx4
    have hdr : l1.drop i = l1[i] :: l1.drop (i + 1) := List.drop_eq_getElem_cons hlt
    replace hx0 := (HB.out.cell (World.block_lt_of_cell? w _ hx0)).trans hx0
    replace hx1 := (HB.out.cell (World.block_lt_of_cell? w _ hx1)).trans hx1
    replace hx2 := (HB.out.cell (World.block_lt_of_cell? w _ hx2)).trans hx2
    replace hx3 := (HB.out.cell (World.block_lt_of_cell? w _ hx3)).trans hx3
    replace hx4 := (HB.out.cell (World.block_lt_of_cell? w _ hx4)).trans hx4
    clear et
    rw [hdr] at HA
    clear hdr
    generalize l1[i] = d at hx0 hx1 hx2 hx3 hx4 HA
    have hd1 := qgH d
    obtain ⟨dk, dold, dnew, dwas, dis⟩ := d
    simp only at hx0 hx1 hx2 hx3 hx4 hd1
    replace p1 := eq_true p1
    replace q1 := eq_true q1
    obtain ⟨K, hK⟩ := spec_get out dk (by omega)
    have HK := Aside0.mk (hK K (Nat.le_refl _))
    clear hK
    have HD := Aside0.mk hd1
    clear hd1
    go_wp2_with fail
    have hv1 := Kd.V_alloc HV.out (.cells #[.string dk, .string dold, .string dnew, .bool dwas, .bool dis] 56 (0, 0))
    obtain ⟨_, hle6, hC6⟩ := Kd.qer hv1
    refine (qdr.calls K _ _ out dk (getV out dk) (hasAt out dk) _ hC6 hle6 HK.out).mono ?_
    rintro e w1 ⟨rfl, hd⟩
    have hblk : w1.heap[wr.heap.size]? = some (.cells #[.string dk, .string dold, .string dnew, .bool dwas, .bool dis] 56 (0, 0)) := qao (qdw wr (.cells #[.string dk, .string dold, .string dnew, .bool dwas, .bool dis] 56 (0, 0))) hd.below
    have HBK := Aside0.mk hblk
    have HB1 := Aside0.mk (show Below wr.heap.size wr w1 from qag ((Below.refl _ wr).alloc (Nat.le_refl _) (.cells #[.string dk, .string dold, .string dnew, .bool dwas, .bool dis] 56 (0, 0))) hd.below)
    have b0 := qad hblk 0
    have b1 := qad hblk 1
    have b2 := qad hblk 2
    have b3 := qad hblk 3
    have b4 := qad hblk 4
    simp only [List.getElem?_toArray, List.getElem?_cons_zero, List.getElem?_cons_succ] at b0 b1 b2 b3 b4
    clear hd hv1 hle6 hC6 hblk hx0 hx1 hx2 hx3 hx4
    go_upto_region 7 with fail
    go_cut [71] (fun v71 wc => v71 = .bool (!(qbW ⟨dk, dold, dnew, dwas, dis⟩)) ∧ Aside0 (Below wr.heap.size wr wc) ∧ Aside0 (wc.heap[wr.heap.size]? = some (.cells #[.string dk, .string dold, .string dnew, .bool dwas, .bool dis] 56 (0, 0))))
    case first =>
     have hsp := qiN ⟨dk, dnew⟩
     simp only at hsp
     generalize hok : okP ⟨dk, dnew⟩ = ok at hsp HD
     have HSP := Aside0.mk hsp
     clear hsp hok
     cases ok with
     | false =>
      go_wp2_with fail
      refine (qb4.calls dk dnew false _ HSP.out).mono ?_
      rintro e w2 ⟨rfl, hb2⟩
      have HB2 := Aside0.mk (qag HB1.out hb2)
      have HBK2 := Aside0.mk (qao HBK.out hb2)
      clear hb2 b0 b1 b2 b3 b4
      go_wp2_with fail
      go_meet
      case rel => exact ⟨by rw [HD.out]; rfl, HB2, HBK2⟩
     | true =>
      by_cases hsz : dold.size ≤ 90
      ·have hz1 : decide (90 < (dold.size : Int)) = false := decide_eq_false (by omega)
       have hz2 := decide_eq_true hsz
       cases dwas with
       | true =>
        cases dis with
        | true =>
         go_wp2_with fail
         refine (qb4.calls dk dnew true _ HSP.out).mono ?_
         rintro e w2 ⟨rfl, hb2⟩
         have HB2 := Aside0.mk (qag HB1.out hb2)
         have HBK2 := Aside0.mk (qao HBK.out hb2)
         clear hb2 b0 b1 b2 b3 b4
         have b0 := qad HBK2.out 0
         have b1 := qad HBK2.out 1
         have b2 := qad HBK2.out 2
         have b3 := qad HBK2.out 3
         have b4 := qad HBK2.out 4
         simp only [List.getElem?_toArray, List.getElem?_cons_zero, List.getElem?_cons_succ] at b0 b1 b2 b3 b4
         go_wp2_with fail
         go_meet
         case rel => exact ⟨by rw [HD.out, hz2]; rfl, HB2, HBK2⟩
        | false =>
         go_wp2_with fail
         refine (qb4.calls dk dnew true _ HSP.out).mono ?_
         rintro e w2 ⟨rfl, hb2⟩
         have HB2 := Aside0.mk (qag HB1.out hb2)
         have HBK2 := Aside0.mk (qao HBK.out hb2)
         clear hb2 b0 b1 b2 b3 b4
         have b0 := qad HBK2.out 0
         have b1 := qad HBK2.out 1
         have b2 := qad HBK2.out 2
         have b3 := qad HBK2.out 3
         have b4 := qad HBK2.out 4
         simp only [List.getElem?_toArray, List.getElem?_cons_zero, List.getElem?_cons_succ] at b0 b1 b2 b3 b4
         go_wp2_with fail
         go_meet
         case rel => exact ⟨by rw [HD.out, hz2]; cases hq : dnew.toList <;> simp [hq], HB2, HBK2⟩
       | false =>
        cases dis with
        | false =>
         go_wp2_with fail
         refine (qb4.calls dk dnew true _ HSP.out).mono ?_
         rintro e w2 ⟨rfl, hb2⟩
         have HB2 := Aside0.mk (qag HB1.out hb2)
         have HBK2 := Aside0.mk (qao HBK.out hb2)
         clear hb2 b0 b1 b2 b3 b4
         have b0 := qad HBK2.out 0
         have b1 := qad HBK2.out 1
         have b2 := qad HBK2.out 2
         have b3 := qad HBK2.out 3
         have b4 := qad HBK2.out 4
         simp only [List.getElem?_toArray, List.getElem?_cons_zero, List.getElem?_cons_succ] at b0 b1 b2 b3 b4
         go_wp2_with fail
         go_meet
         case rel => exact ⟨by rw [HD.out, hz2]; rfl, HB2, HBK2⟩
        | true =>
         by_cases he : dold.toList = ([] : List UInt8)
         ·have e1 : (dold.toList != ([] : List UInt8)) = false := by simp [he]
          have e2 : (dold.toList == ([] : List UInt8)) = true := by simp [he]
          go_wp2_with fail
          refine (qb4.calls dk dnew true _ HSP.out).mono ?_
          rintro e w2 ⟨rfl, hb2⟩
          have HB2 := Aside0.mk (qag HB1.out hb2)
          have HBK2 := Aside0.mk (qao HBK.out hb2)
          clear hb2 b0 b1 b2 b3 b4
          have b0 := qad HBK2.out 0
          have b1 := qad HBK2.out 1
          have b2 := qad HBK2.out 2
          have b3 := qad HBK2.out 3
          have b4 := qad HBK2.out 4
          simp only [List.getElem?_toArray, List.getElem?_cons_zero, List.getElem?_cons_succ] at b0 b1 b2 b3 b4
          go_wp2_with fail
          go_meet
          case rel => exact ⟨by rw [HD.out, hz2]; simp [he], HB2, HBK2⟩
         ·have e1 : (dold.toList != ([] : List UInt8)) = true := by simp [he]
          have e2 : (dold.toList == ([] : List UInt8)) = false := by simp [he]
          go_wp2_with fail
          refine (qb4.calls dk dnew true _ HSP.out).mono ?_
          rintro e w2 ⟨rfl, hb2⟩
          have HB2 := Aside0.mk (qag HB1.out hb2)
          have HBK2 := Aside0.mk (qao HBK.out hb2)
          clear hb2 b0 b1 b2 b3 b4
          have b0 := qad HBK2.out 0
          have b1 := qad HBK2.out 1
          have b2 := qad HBK2.out 2
          have b3 := qad HBK2.out 3
          have b4 := qad HBK2.out 4
          simp only [List.getElem?_toArray, List.getElem?_cons_zero, List.getElem?_cons_succ] at b0 b1 b2 b3 b4
          go_wp2_with fail
          go_meet
          case rel => exact ⟨by rw [HD.out, hz2]; simp [he], HB2, HBK2⟩
      ·have hz1 : decide (90 < (dold.size : Int)) = true := decide_eq_true (by omega)
       go_wp2_with fail
       refine (qb4.calls dk dnew true _ HSP.out).mono ?_
       rintro e w2 ⟨rfl, hb2⟩
       have HB2 := Aside0.mk (qag HB1.out hb2)
       have HBK2 := Aside0.mk (qao HBK.out hb2)
       clear hb2 b0 b1 b2 b3 b4
       have b1 := qad HBK2.out 1
       simp only [List.getElem?_toArray, List.getElem?_cons_zero, List.getElem?_cons_succ] at b1
       go_wp2_with fail
       go_meet
       case rel => exact ⟨by rw [HD.out, decide_eq_false hsz]; rfl, HB2, HBK2⟩
    case rest =>
     obtain ⟨rfl, HBc, HBKc⟩ := hcut
     have HBw := Aside0.mk (qag HB.out HBc.out)
     have b0 := qad HBKc.out 0
     have b1 := qad HBKc.out 1
     have b2 := qad HBKc.out 2
     have b3 := qad HBKc.out 3
     have b4 := qad HBKc.out 4
     simp only [List.getElem?_toArray, List.getElem?_cons_zero, List.getElem?_cons_succ] at b0 b1 b2 b3 b4
     clear HD HK HB1 HBK
     cases hone : qbW ⟨dk, dold, dnew, dwas, dis⟩ with
     | false =>
      go_wp2_with fail
      go_ret2
      have ha := HA.out
      unfold qbP at ha
      rw [if_neg (by rw [hone]; decide)] at ha
      simp only [Prod.mk.injEq] at ha
      obtain ⟨rfl, rfl⟩ := ha
      exact ⟨_, rfl, Kd.qdE HV0.out HBw.out, HBw.out⟩
     | true =>
      cases hh : hasAt out dk with
      | false =>
       cases dwas with
       | true =>
        go_wp2_with fail
        go_ret2
        have ha := HA.out
        unfold qbP at ha
        rw [if_pos hone, if_neg (by simp [fitsB, hh])] at ha
        simp only [Prod.mk.injEq] at ha
        obtain ⟨rfl, rfl⟩ := ha
        exact ⟨_, rfl, Kd.qdE HV0.out HBw.out, HBw.out⟩
       | false =>
        cases dis with
        | false => simp [qbW] at hone
        | true =>
         go_wp2_with fail
         have hvc := Kd.qdE HV.out HBc.out
         obtain ⟨_, hle, hC⟩ := Kd.qer hvc
         obtain ⟨K2, hK2⟩ := qht out dk dnew (by omega)
         refine (qc0.calls K2 _ _ out dk dnew _ _ hC hle (hK2 K2 (Nat.le_refl _))).mono ?_
         rintro e w3 ⟨v3, rfl, hr3, hb3⟩
         have hsw := HBw.out.size
         have HV3 := Aside0.mk (Kd.R_V (base' := w.heap.size) (Kd.qbr (Kd.qcE hr3) (fun k hk => (show P0_ k ∨ w.heap.size ≤ k from .inr (Nat.le_trans hsw hk.2.1)))))
         have HB3 := Aside0.mk (qag HBw.out hb3)
         have hsl : (stepD out ⟨dk, dold, dnew, false, true⟩) = putP out dk dnew := by simp [stepD]
         have hlen := qdv out ⟨dk, dold, dnew, false, true⟩
         have hfine := qdC HF.out hone
         have ha := HA.out
         unfold qbP at ha
         rw [if_pos hone, if_pos (show fitsB out ⟨dk, dold, dnew, false, true⟩ = true from by simp [fitsB, hh])] at ha
         rw [hsl] at hlen hfine ha
         have HF3 := Aside0.mk hfine
         have HA3 := Aside0.mk ha
         clear hr3 hb3 hvc hle hC hfine ha hsw b0 b1 b2 b3 b4
         go_wp2_with fail
         go_roundw
         case rel => exact ⟨i + 1, putP out dk dnew, by omega, by go_num, by omega, HF3, HA3, HV3, HB3⟩
         case measure => simp [intOf]; omega
      | true =>
       cases dwas with
       | false =>
        go_wp2_with fail
        go_ret2
        have ha := HA.out
        unfold qbP at ha
        rw [if_pos hone, if_neg (by simp [fitsB, hh])] at ha
        simp only [Prod.mk.injEq] at ha
        obtain ⟨rfl, rfl⟩ := ha
        exact ⟨_, rfl, Kd.qdE HV0.out HBw.out, HBw.out⟩
       | true =>
        by_cases hv : (getV out dk).toList = dold.toList
        ·have e1 : ((getV out dk).toList != dold.toList) = false := by simp [hv]
         cases dis with
         | true =>
          go_wp2_with fail
          have hvc := Kd.qdE HV.out HBc.out
          obtain ⟨_, hle, hC⟩ := Kd.qer hvc
          obtain ⟨K2, hK2⟩ := qht out dk dnew (by omega)
          refine (qc0.calls K2 _ _ out dk dnew _ _ hC hle (hK2 K2 (Nat.le_refl _))).mono ?_
          rintro e w3 ⟨v3, rfl, hr3, hb3⟩
          have hsw := HBw.out.size
          have HV3 := Aside0.mk (Kd.R_V (base' := w.heap.size) (Kd.qbr (Kd.qcE hr3) (fun k hk => (show P0_ k ∨ w.heap.size ≤ k from .inr (Nat.le_trans hsw hk.2.1)))))
          have HB3 := Aside0.mk (qag HBw.out hb3)
          have hsl : (stepD out ⟨dk, dold, dnew, true, true⟩) = putP out dk dnew := by simp [stepD]
          have hlen := qdv out ⟨dk, dold, dnew, true, true⟩
          have hfine := qdC HF.out hone
          have ha := HA.out
          unfold qbP at ha
          rw [if_pos hone, if_pos (show fitsB out ⟨dk, dold, dnew, true, true⟩ = true from by simp [fitsB, hh, hv])] at ha
          rw [hsl] at hlen hfine ha
          have HF3 := Aside0.mk hfine
          have HA3 := Aside0.mk ha
          clear hr3 hb3 hvc hle hC hfine ha hsw b0 b1 b2 b3 b4
          go_wp2_with fail
          go_roundw
          case rel => exact ⟨i + 1, putP out dk dnew, by omega, by go_num, by omega, HF3, HA3, HV3, HB3⟩
          case measure => simp [intOf]; omega
         | false =>
          go_wp2_with fail
          have hvc := Kd.qdE HV.out HBc.out
          obtain ⟨_, hle, hC⟩ := Kd.qer hvc
          obtain ⟨K2, hK2⟩ := qiS out dk (by omega)
          rw [show (out.filter fun p => !decide (p.f0.toList = dk.toList)) = dropP out dk from by unfold dropP; rw [if_pos hh]; exact qfi HF.out.2 hh] at hK2
          refine (qbj.calls K2 _ _ out dk _ _ hC hle (hK2 K2 (Nat.le_refl _))).mono ?_
          rintro e w3 ⟨v3, rfl, hr3, hb3⟩
          have hsw := HBw.out.size
          have HV3 := Aside0.mk (Kd.R_V (base' := w.heap.size) (Kd.qbr (Kd.qcE hr3) (fun k hk => (show P0_ k ∨ w.heap.size ≤ k from .inr (Nat.le_trans hsw hk.2.1)))))
          have HB3 := Aside0.mk (qag HBw.out hb3)
          have hsl : (stepD out ⟨dk, dold, dnew, true, false⟩) = dropP out dk := by simp [stepD]
          have hlen := qdv out ⟨dk, dold, dnew, true, false⟩
          have hfine := qdC HF.out hone
          have ha := HA.out
          unfold qbP at ha
          rw [if_pos hone, if_pos (show fitsB out ⟨dk, dold, dnew, true, false⟩ = true from by simp [fitsB, hh, hv])] at ha
          rw [hsl] at hlen hfine ha
          have HF3 := Aside0.mk hfine
          have HA3 := Aside0.mk ha
          clear hr3 hb3 hvc hle hC hfine ha hsw b0 b1 b2 b3 b4
          go_wp2_with fail
          go_roundw
          case rel => exact ⟨i + 1, dropP out dk, by omega, by go_num, by omega, HF3, HA3, HV3, HB3⟩
          case measure => simp [intOf]; omega
        ·have e1 : ((getV out dk).toList == dold.toList) = false := by simp [hv]
         go_wp2_with fail
         go_ret2
         have ha := HA.out
         unfold qbP at ha
         rw [if_pos hone, if_neg (by simp [fitsB, hh, hv])] at ha
         simp only [Prod.mk.injEq] at ha
         obtain ⟨rfl, rfl⟩ := ha
         exact ⟨_, rfl, Kd.qdE HV0.out HBw.out, HBw.out⟩
   ·have he : i = l1.length := by omega
    have c1 : decide ((i : Int) < (l1.length : Int)) = false := decide_eq_false (by omega)
    have ha := HA.out
    rw [he, List.drop_length] at ha
    unfold qbP at ha
    by_cases h60 : 60 < out.length
    ·have c2 : decide (60 < (out.length : Int)) = true := decide_eq_true (by omega)
     rw [if_pos h60] at ha
     simp only [Prod.mk.injEq] at ha
     obtain ⟨rfl, rfl⟩ := ha
     go_wp2_with fail
     go_ret2
     exact ⟨_, rfl, Kd.qdE HV0.out HB.out, HB.out⟩
    ·have c2 : decide (60 < (out.length : Int)) = false := decide_eq_false (by omega)
     rw [if_neg h60] at ha
     simp only [Prod.mk.injEq] at ha
     obtain ⟨rfl, rfl⟩ := ha
     go_wp2_with fail
     go_ret2
     exact ⟨_, rfl, HV.out, HB.out⟩
 ·rw [if_neg hs] at h
  cases h
end Go.Proofs.Ytlkdcicpaneakaa.X
