import Derived.Test.YtcdokcpiahbejaaGreatKFnExactTreeDrop5
set_option maxRecDepth 100000
set_option maxHeartbeats 16000000
set_option linter.unusedVariables false
set_option linter.unusedSimpArgs false
namespace Go.Proofs.YtcdokcpiahbejaaGreat.X
open Go.RowKit Go.Proofs.PW Go.Proofs.PL Go.Proofs.PM
attribute [local go_sem] qaj qak qal qaf qag qao qap qad qae qah qai
def qa2.l0 : Nat → List (S61) → Int → Option (Bool)
 | 0, _, _ => none
 | k + 1, x0, x3 => if x3 < (x0.length : Int) then (if 0 ≤ x3 then ((qbY.f ((qan x0 x3).f0) ((qan x0 x3).f1)).bind fun t117 => (if t117 = true then (if x3 > 0 then (if 0 ≤ (wrap64 (x3 - 1)) then (if (wrap64 (x3 - 1)) < (x0.length : Int) then (if ((Op.bytesLess (((qan x0 (wrap64 (x3 - 1))).f0).toList) (((qan x0 x3).f0).toList)) = true) then (qa2.l0 k x0 (wrap64 (x3 + 1))) else (some false)) else (none)) else (none)) else (qa2.l0 k x0 (wrap64 (x3 + 1)))) else (some false))) else (none)) else (some true)
def qa2.f (k : Nat) (l0 : List (S61)) : Option (Bool) := if (l0.length : Int) > 4096 then (some false) else (if (l0.length : Int) > 60 then (some false) else (qa2.l0 k l0 0))
theorem qa2.qbl : ∀ k, (∀ y0 y1, LeO (qa2.l0 k y0 y1) (qa2.l0 (k + 1) y0 y1))
 | 0 => fun _ _ r h => by simp [qa2.l0] at h
 | k + 1 => by
  have Q9 := qa2.qbl k
  ·intro y0 y1;unfold qa2.l0;exact zleo_
theorem qa2.calls (k : Nat) (A0 : Option Addr) (c0 : Nat) (l0 : List (S61)) (r : Bool) (w : World) (hr0 : Kd.C k61 w A0 l0.length l0) (hc0 : l0.length ≤ c0) (h : qa2.f k l0 = some r) :
  Calls Tryz.prog 98 #[.slice A0 l0.length c0] w fun e w' => e = .returned (.bool r) ∧ Below w.heap.size w w' := by
 have SK := Tryz.underlying61;have Z1 := z_ hr0;have kB := z_ hc0;clear hr0 hc0;have HB := z_ (Below.refl w.heap.size w);have H : (if (l0.length : Int) > 4096 then (some false) else (if (l0.length : Int) > 60 then (some false) else (qa2.l0 k l0 0))) = some r := h;clear h
 by_cases c2 : (l0.length : Int) > 4096
 ·rw [if_pos c2] at H;have RA : decide (4096 < (l0.length : Int)) = true := decide_eq_true c2;have VE : decide (4096 < l0.length) = true := decide_eq_true zdM;clear c2;obtain rfl := Option.some.inj H
  go_enter Tryz.func98, Tryz.ntmps98
  go_wp2
  go_ret
  exact ⟨zaM, zar⟩
 ·rw [if_neg c2] at H;have RA : decide (4096 < (l0.length : Int)) = false := decide_eq_false c2;have VE : decide (4096 < l0.length) = false := decide_eq_false zdM;clear c2
  by_cases c3 : (l0.length : Int) > 60
  ·rw [if_pos c3] at H;have Y1 : decide (60 < (l0.length : Int)) = true := decide_eq_true c3;have r6 : decide (60 < l0.length) = true := decide_eq_true zdM;clear c3;obtain rfl := Option.some.inj H
   go_enter Tryz.func98, Tryz.ntmps98
   go_wp2
   go_ret
   exact ⟨zaM, zar⟩
  ·rw [if_neg c3] at H;have Y1 : decide (60 < (l0.length : Int)) = false := decide_eq_false c3;have r6 : decide (60 < l0.length) = false := decide_eq_false zdM;clear c3;have H' := z_ H;clear H
   go_enter Tryz.func98, Tryz.ntmps98
   go_wp2
   go_loopg [3] k (fun kq v3 w' => ∃ (J0 : Int), v3 = .int .i64 J0 ∧ Aside0 (qa2.l0 kq l0 J0 = some r) ∧ Aside0 (kq ≤ k) ∧ Aside0 (Below w.heap.size w w'))
   case atStart => exact ⟨(0), zcc, H', ⟨Nat.le_refl _⟩, ⟨zar⟩⟩
   case round =>
    clear H';try clear c2
    try clear RA
    try clear VE
    try clear c3
    try clear Y1
    try clear r6
    obtain ⟨J0, rfl, HA, I5, HB⟩ := hrel
    cases gk with
    | zero => exact absurd HA.o (by simp [qa2.l0])
    | succ k1 =>
     have H := HA.o;clear HA;simp only [qa2.l0] at H
     by_cases c4 : J0 < (l0.length : Int)
     ·rw [if_pos c4] at H;have G4 : decide (J0 < (l0.length : Int)) = true := decide_eq_true c4;clear c4
      by_cases c5 : 0 ≤ J0
      ·rw [if_pos c5] at H;have O8 : decide (0 ≤ J0) = true := decide_eq_true c5;clear c5;replace H := Option.bind_eq_some_iff.mp H;obtain ⟨t117, AT, H⟩ := H;try dsimp only at H
       have A6 := z_ AT;clear AT
       by_cases c7 : t117 = true
       ·subst c7;rw [if_pos rfl] at H
        by_cases c8 : J0 > 0
        ·rw [if_pos c8] at H;have FD : decide (0 < J0) = true := decide_eq_true c8;clear c8;obtain ⟨xE, bT⟩ : ∃ j_ : Int, (wrap64 (J0 - 1)) = j_ := ⟨_, rfl⟩
         replace H : (if 0 ≤ (xE) then (if (xE) < (l0.length : Int) then (if ((Op.bytesLess (((qan l0 (xE)).f0).toList) (((qan l0 J0).f0).toList)) = true) then (qa2.l0 k1 l0 (wrap64 (J0 + 1))) else (some false)) else (none)) else (none)) = some r := by first | (rw [bT] at H; exact H) | (simp only [bT] at H ⊢; exact H)
         (try rw [bT] at A6)
         have hji9w : (IntKind.i64.wrap (J0 - 1)) = xE := (qef _).trans bT
         by_cases c10 : 0 ≤ (xE)
         ·rw [if_pos c10] at H;have kK : decide (0 ≤ (xE)) = true := decide_eq_true c10;clear c10
          by_cases c11 : (xE) < (l0.length : Int)
          ·rw [if_pos c11] at H;have qC : decide ((xE) < (l0.length : Int)) = true := decide_eq_true c11;clear c11
           by_cases c12 : ((Op.bytesLess (((qan l0 (xE)).f0).toList) (((qan l0 J0).f0).toList)) = true)
           ·rw [if_pos c12] at H;have fY : (Op.bytesLess (((qan l0 (xE)).f0).toList) (((qan l0 J0).f0).toList)) = true := c12;clear c12;have H' := z_ H;clear H;try go_wp2
            have O1 := z_ (qa1 HB.o);clear HB;have HB := O1;clear O1;have UB : 0 ≤ (J0 : Int) := zod_;have RB : J0 < (l0.length : Int) := zod_;obtain ⟨V3, e116, N2, J2⟩ := qb1 Z1.o J0 UB RB;have S9 := J2;have mA := N2
            cases e116
            replace N2 := zmove_ HB rfl N2;replace J2 := zmove_ HB rfl J2;replace UB := eq_true UB;replace RB := eq_true RB;have QM : 0 ≤ ((xE) : Int) := zod_;have bM : (xE) < (l0.length : Int) := zod_;obtain ⟨GT, e118, O6, L6⟩ := qb1 Z1.o (xE) QM bM;have nI := L6;have cI := O6;obtain rfl : V3 = GT := (by injection e118);replace O6 := zmove_ HB rfl O6;replace L6 := zmove_ HB rfl L6;replace QM := eq_true QM;replace bM := eq_true bM;have WM : 0 ≤ (J0 : Int) := zod_;have OM : J0 < (l0.length : Int) := zod_;obtain ⟨ZR, e119, F6, P6⟩ := qb1 Z1.o J0 WM OM;have ZI := P6;have QI := F6;obtain rfl : V3 = ZR := (by injection e119);replace F6 := zmove_ HB rfl F6;replace P6 := zmove_ HB rfl P6;replace WM := eq_true WM;replace OM := eq_true OM;refine qbc zdG zdG ?_;have U1 := z_ (show wr.drew.cell? (V3.add ((J0).toNat * 2)) = some (.string ((qan l0 J0).f0)) from (zcm_ HB.o mA));have M2 := z_ (show wr.drew.cell? ⟨(V3.add ((J0).toNat * 2)).block, (V3.add ((J0).toNat * 2)).off + 1, none⟩ = some (.string ((qan l0 J0).f1)) from (zcm_ HB.o S9));have P8 := z_ (show wr.drew.cell? (V3.add (((xE)).toNat * 2)) = some (.string ((qan l0 (xE)).f0)) from (zcm_ HB.o cI));have F8 := z_ (show wr.drew.cell? ⟨(V3.add (((xE)).toNat * 2)).block, (V3.add (((xE)).toNat * 2)).off + 1, none⟩ = some (.string ((qan l0 (xE)).f1)) from (zcm_ HB.o nI));have xL := z_ (show wr.drew.cell? (V3.add ((J0).toNat * 2)) = some (.string ((qan l0 J0).f0)) from (zcm_ HB.o QI));have LM := z_ (show wr.drew.cell? ⟨(V3.add ((J0).toNat * 2)).block, (V3.add ((J0).toNat * 2)).off + 1, none⟩ = some (.string ((qan l0 J0).f1)) from (zcm_ HB.o ZI));generalize wr.drew = NE at HB N2 J2 O6 L6 F6 P6 U1 M2 P8 F8 xL LM ⊢;clear N2 J2 O6 L6 F6 P6;have hL0 := fun (p_ : Later NE) => Later.cell p_ U1.o
            have hL1 := fun (p_ : Later NE) => Later.cell p_ M2.o
            have hL2 := fun (p_ : Later NE) => Later.cell p_ P8.o
            have hL3 := fun (p_ : Later NE) => Later.cell p_ F8.o
            have hL4 := fun (p_ : Later NE) => Later.cell p_ xL.o
            have hL5 := fun (p_ : Later NE) => Later.cell p_ LM.o
            clear U1 M2 P8 F8 xL LM
            repeat (first | go_big_quiet_step ((first | (go_at_call 112; exact Calls.qbv (qbY.calls ((qan l0 J0).f0) ((qan l0 J0).f1) true _ A6.o)))) | quiet_step ((first | (go_at_call 112; exact Calls.qbv (qbY.calls ((qan l0 J0).f0) ((qan l0 J0).f1) true _ A6.o)))))
            refine wpQuiet_nil ?_;rintro oH ⟨⟨r9, hbL⟩, C6⟩;have X5 : oH = r9 := C6;clear C6;subst X5;clear hL0 hL1 hL2 hL3 hL4 hL5;have Y2 := z_ (qaa HB.o hbL);clear HB;have HB := Y2;clear Y2 hbL;try go_wp2
            go_roundg k1
            case measure => have := I5.o; omega
            case rel => exact ⟨(wrap64 (J0 + 1)), zcc, H', ⟨zcY⟩, ⟨zar⟩⟩
           ·rw [if_neg c12] at H;have fY : (Op.bytesLess (((qan l0 (xE)).f0).toList) (((qan l0 J0).f0).toList)) = false := by simpa using c12
            clear c12;obtain rfl := Option.some.inj H;try go_wp2
            have O1 := z_ (qa1 HB.o);clear HB;have HB := O1;clear O1;have UB : 0 ≤ (J0 : Int) := zod_;have RB : J0 < (l0.length : Int) := zod_;obtain ⟨V3, e116, N2, J2⟩ := qb1 Z1.o J0 UB RB;have S9 := J2;have mA := N2
            cases e116
            replace N2 := zmove_ HB rfl N2;replace J2 := zmove_ HB rfl J2;replace UB := eq_true UB;replace RB := eq_true RB;have QM : 0 ≤ ((xE) : Int) := zod_;have bM : (xE) < (l0.length : Int) := zod_;obtain ⟨GT, e118, O6, L6⟩ := qb1 Z1.o (xE) QM bM;have nI := L6;have cI := O6;obtain rfl : V3 = GT := (by injection e118);replace O6 := zmove_ HB rfl O6;replace L6 := zmove_ HB rfl L6;replace QM := eq_true QM;replace bM := eq_true bM;have WM : 0 ≤ (J0 : Int) := zod_;have OM : J0 < (l0.length : Int) := zod_;obtain ⟨ZR, e119, F6, P6⟩ := qb1 Z1.o J0 WM OM;have ZI := P6;have QI := F6;obtain rfl : V3 = ZR := (by injection e119);replace F6 := zmove_ HB rfl F6;replace P6 := zmove_ HB rfl P6;replace WM := eq_true WM;replace OM := eq_true OM;refine qbc zdG zdG ?_;have U1 := z_ (show wr.drew.cell? (V3.add ((J0).toNat * 2)) = some (.string ((qan l0 J0).f0)) from (zcm_ HB.o mA));have M2 := z_ (show wr.drew.cell? ⟨(V3.add ((J0).toNat * 2)).block, (V3.add ((J0).toNat * 2)).off + 1, none⟩ = some (.string ((qan l0 J0).f1)) from (zcm_ HB.o S9));have P8 := z_ (show wr.drew.cell? (V3.add (((xE)).toNat * 2)) = some (.string ((qan l0 (xE)).f0)) from (zcm_ HB.o cI));have F8 := z_ (show wr.drew.cell? ⟨(V3.add (((xE)).toNat * 2)).block, (V3.add (((xE)).toNat * 2)).off + 1, none⟩ = some (.string ((qan l0 (xE)).f1)) from (zcm_ HB.o nI));have xL := z_ (show wr.drew.cell? (V3.add ((J0).toNat * 2)) = some (.string ((qan l0 J0).f0)) from (zcm_ HB.o QI));have LM := z_ (show wr.drew.cell? ⟨(V3.add ((J0).toNat * 2)).block, (V3.add ((J0).toNat * 2)).off + 1, none⟩ = some (.string ((qan l0 J0).f1)) from (zcm_ HB.o ZI));generalize wr.drew = bC at HB N2 J2 O6 L6 F6 P6 U1 M2 P8 F8 xL LM ⊢;clear N2 J2 O6 L6 F6 P6;have hL0 := fun (p_ : Later bC) => Later.cell p_ U1.o
            have hL1 := fun (p_ : Later bC) => Later.cell p_ M2.o
            have hL2 := fun (p_ : Later bC) => Later.cell p_ P8.o
            have hL3 := fun (p_ : Later bC) => Later.cell p_ F8.o
            have hL4 := fun (p_ : Later bC) => Later.cell p_ xL.o
            have hL5 := fun (p_ : Later bC) => Later.cell p_ LM.o
            clear U1 M2 P8 F8 xL LM
            repeat (first | go_big_quiet_step ((first | (go_at_call 112; exact Calls.qbv (qbY.calls ((qan l0 J0).f0) ((qan l0 J0).f1) true _ A6.o)))) | quiet_step ((first | (go_at_call 112; exact Calls.qbv (qbY.calls ((qan l0 J0).f0) ((qan l0 J0).f1) true _ A6.o)))))
            refine wpQuiet_nil ?_;rintro w16 ⟨⟨r9, hbL⟩, C6⟩;have X5 : w16 = r9 := C6;clear C6;subst X5;clear hL0 hL1 hL2 hL3 hL4 hL5;have Y2 := z_ (qaa HB.o hbL);clear HB;have HB := Y2;clear Y2 hbL;try go_wp2
            go_ret
            exact ⟨by first | rfl | (simp [qdc, qdd] <;> rfl) | (simp only [← bT]; first | rfl | (simp [qdc, qdd] <;> rfl)) | (simp [*, qdc, qdd] <;> rfl), zar⟩
          ·rw [if_neg c11] at H;exact absurd H zdN
         ·rw [if_neg c10] at H;exact absurd H zdN
        ·rw [if_neg c8] at H;have FD : decide (0 < J0) = false := decide_eq_false c8;clear c8;have H' := z_ H;clear H;try go_wp2
         have O1 := z_ (qa1 HB.o);clear HB;have HB := O1;clear O1;have UB : 0 ≤ (J0 : Int) := zod_;have RB : J0 < (l0.length : Int) := zod_;obtain ⟨V3, e116, N2, J2⟩ := qb1 Z1.o J0 UB RB;have S9 := J2;have mA := N2
         cases e116
         replace N2 := zmove_ HB rfl N2;replace J2 := zmove_ HB rfl J2;replace UB := eq_true UB;replace RB := eq_true RB;refine qbc zdG zdG ?_;have U1 := z_ (show wr.drew.cell? (V3.add ((J0).toNat * 2)) = some (.string ((qan l0 J0).f0)) from (zcm_ HB.o mA));have M2 := z_ (show wr.drew.cell? ⟨(V3.add ((J0).toNat * 2)).block, (V3.add ((J0).toNat * 2)).off + 1, none⟩ = some (.string ((qan l0 J0).f1)) from (zcm_ HB.o S9));generalize wr.drew = oJ at HB N2 J2 U1 M2 ⊢;clear N2 J2;have hL0 := fun (p_ : Later oJ) => Later.cell p_ U1.o
         have hL1 := fun (p_ : Later oJ) => Later.cell p_ M2.o
         clear U1 M2
         repeat (first | go_big_quiet_step ((first | (go_at_call 112; exact Calls.qbv (qbY.calls ((qan l0 J0).f0) ((qan l0 J0).f1) true _ A6.o)))) | quiet_step ((first | (go_at_call 112; exact Calls.qbv (qbY.calls ((qan l0 J0).f0) ((qan l0 J0).f1) true _ A6.o)))))
         refine wpQuiet_nil ?_;rintro ZU ⟨⟨r9, hbL⟩, C6⟩;have X5 : ZU = r9 := C6;clear C6;subst X5;clear hL0 hL1;have Y2 := z_ (qaa HB.o hbL);clear HB;have HB := Y2;clear Y2 hbL;try go_wp2
         go_roundg k1
         case measure => have := I5.o; omega
         case rel => exact ⟨(wrap64 (J0 + 1)), zcc, H', ⟨zcY⟩, ⟨zar⟩⟩
       ·replace c7 := Bool.eq_false_iff.mpr c7;subst c7;rw [if_neg zft_] at H;obtain rfl := Option.some.inj H;try go_wp2
        have O1 := z_ (qa1 HB.o);clear HB;have HB := O1;clear O1;have UB : 0 ≤ (J0 : Int) := zod_;have RB : J0 < (l0.length : Int) := zod_;obtain ⟨V3, e116, N2, J2⟩ := qb1 Z1.o J0 UB RB;have S9 := J2;have mA := N2
        cases e116
        replace N2 := zmove_ HB rfl N2;replace J2 := zmove_ HB rfl J2;replace UB := eq_true UB;replace RB := eq_true RB;refine qbc zdG zdG ?_;have U1 := z_ (show wr.drew.cell? (V3.add ((J0).toNat * 2)) = some (.string ((qan l0 J0).f0)) from (zcm_ HB.o mA));have M2 := z_ (show wr.drew.cell? ⟨(V3.add ((J0).toNat * 2)).block, (V3.add ((J0).toNat * 2)).off + 1, none⟩ = some (.string ((qan l0 J0).f1)) from (zcm_ HB.o S9));generalize wr.drew = WK at HB N2 J2 U1 M2 ⊢;clear N2 J2;have hL0 := fun (p_ : Later WK) => Later.cell p_ U1.o
        have hL1 := fun (p_ : Later WK) => Later.cell p_ M2.o
        clear U1 M2
        repeat (first | go_big_quiet_step ((first | (go_at_call 112; exact Calls.qbv (qbY.calls ((qan l0 J0).f0) ((qan l0 J0).f1) false _ A6.o)))) | quiet_step ((first | (go_at_call 112; exact Calls.qbv (qbY.calls ((qan l0 J0).f0) ((qan l0 J0).f1) false _ A6.o)))))
        refine wpQuiet_nil ?_;rintro tF ⟨⟨r9, hbL⟩, C6⟩;have X5 : tF = r9 := C6;clear C6;subst X5;clear hL0 hL1;have Y2 := z_ (qaa HB.o hbL);clear HB;have HB := Y2;clear Y2 hbL;try go_wp2
        go_ret
        exact ⟨zaM, zar⟩
      ·rw [if_neg c5] at H;exact absurd H zdN
     ·rw [if_neg c4] at H;have G4 : decide (J0 < (l0.length : Int)) = false := decide_eq_false c4;clear c4;obtain rfl := Option.some.inj H
      go_wp2
      go_ret
      exact ⟨zaM, zar⟩
def qay.l0 : Nat → List (S61) → List (S61) → Int → Int → Option (Bool)
 | 0, _, _, _, _ => none
 | k + 1, x0, x5, x6, x7 => if x7 < x6 then (if 0 ≤ x7 then (if x7 < (x5.length : Int) then ((qb7.f ((qan x5 x7).f0) ((qan x5 x7).f1)).bind fun Wc => (if Wc = true then (if x7 > 0 then (if 0 ≤ (wrap64 (x7 - 1)) then (if (wrap64 (x7 - 1)) < (x0.length : Int) then (if ((Op.bytesLess (((qan x0 (wrap64 (x7 - 1))).f0).toList) (((qan x5 x7).f0).toList)) = true) then (qay.l0 k x0 x5 x6 (wrap64 (x7 + 1))) else (some false)) else (none)) else (none)) else (qay.l0 k x0 x5 x6 (wrap64 (x7 + 1)))) else (some false))) else (none)) else (none)) else (some true)
def qay.f (k : Nat) (l0 : List (S61)) : Option (Bool) := qay.l0 k l0 l0 (l0.length : Int) 0
theorem qay.qbl : ∀ k, (∀ y0 y1 y2 y3, LeO (qay.l0 k y0 y1 y2 y3) (qay.l0 (k + 1) y0 y1 y2 y3))
 | 0 => fun _ _ _ _ r h => by simp [qay.l0] at h
 | k + 1 => by
  have Q9 := qay.qbl k
  ·intro y0 y1 y2 y3;unfold qay.l0;exact zleo_
def qay.T4 : Bool × List (List Nat × List Nat) := (true, [([], []), ([0], [0]), ([1], [1]), ([2, 1], [2]), ([3], [3]), ([4, 3], [3, 4]), ([5, 3, 3], [3, 5]), ([6], [6]), ([6], [6]), ([8, 6], [6, 8]), ([7, 9, 6], [6, 7, 9]), ([10, 6], [6, 10]), ([11, 6], [6, 11]), ([6], [6]), ([13, 6], [6, 13]), ([12, 14, 6], [6, 12, 14]), ([6, 15, 3], [3, 6, 15]), ([3, 16], [3, 16])])
def qay.B4 : List Nat := [0, 1, 3, 7, 15, 31, 63, 127, 127, 383, 1023, 2047, 4095, 127, 8319, 32767, 65535, 131071]
theorem qay.tab4 : rtab .any (opsOf Tryz.f111 4) = qay.T4 := zdG
theorem qay.bits4 : qbW qay.T4.2 qay.B4 = true := zdG
theorem qay.calls (k : Nat) (A0 : Option Addr) (c0 : Nat) (l0 : List (S61)) (r : Bool) (w : World) (hr0 : Kd.C k61 w A0 l0.length l0) (hc0 : l0.length ≤ c0) (h : qay.f k l0 = some r) :
  Calls Tryz.prog 111 #[.slice A0 l0.length c0] w fun e w' => e = .returned (.bool r) ∧ Below w.heap.size w w' := by
 have SK := Tryz.underlying61;have Z1 := z_ hr0;have kB := z_ hc0;clear hr0 hc0;have HB := z_ (Below.refl w.heap.size w);have H : (qay.l0 k l0 l0 (l0.length : Int) 0) = some r := h;clear h;have H' := z_ H;clear H
 go_enter Tryz.func111, Tryz.ntmps111
 go_wp2
 go_loopg [7] k (fun kq v7 w' => ∃ (V0 : Int), v7 = .int .i64 V0 ∧ Aside0 (qay.l0 kq l0 l0 (l0.length : Int) V0 = some r) ∧ Aside0 (kq ≤ k) ∧ Aside0 (Below w.heap.size w w'))
 case atStart => exact ⟨(0), zcc, H', ⟨Nat.le_refl _⟩, ⟨zar⟩⟩
 case round =>
  clear H';obtain ⟨V0, rfl, HA, I5, HB⟩ := hrel
  cases gk with
  | zero => exact absurd HA.o (by simp [qay.l0])
  | succ k1 =>
   have H := HA.o;clear HA;simp only [qay.l0] at H
   by_cases c2 : V0 < (l0.length : Int)
   ·rw [if_pos c2] at H;have RA : decide (V0 < (l0.length : Int)) = true := decide_eq_true c2;clear c2
    by_cases c3 : 0 ≤ V0
    ·rw [if_pos c3] at H;have Y1 : decide (0 ≤ V0) = true := decide_eq_true c3;clear c3
     by_cases c4 : V0 < (l0.length : Int)
     ·rw [if_pos c4] at H;have G4 : decide (V0 < (l0.length : Int)) = true := decide_eq_true c4;clear c4;replace H := Option.bind_eq_some_iff.mp H;obtain ⟨Wc, pS, H⟩ := H;try dsimp only at H
      have A5 := z_ pS;clear pS
      by_cases c6 : Wc = true
      ·subst c6;rw [if_pos rfl] at H
       by_cases c7 : V0 > 0
       ·rw [if_pos c7] at H;have QA : decide (0 < V0) = true := decide_eq_true c7;clear c7;obtain ⟨jE, ES⟩ : ∃ j_ : Int, (wrap64 (V0 - 1)) = j_ := ⟨_, rfl⟩
        replace H : (if 0 ≤ (jE) then (if (jE) < (l0.length : Int) then (if ((Op.bytesLess (((qan l0 (jE)).f0).toList) (((qan l0 V0).f0).toList)) = true) then (qay.l0 k1 l0 l0 (l0.length : Int) (wrap64 (V0 + 1))) else (some false)) else (none)) else (none)) = some r := by first | (rw [ES] at H; exact H) | (simp only [ES] at H ⊢; exact H)
        (try rw [ES] at A5)
        have hji8w : (IntKind.i64.wrap (V0 - 1)) = jE := (qef _).trans ES
        by_cases c9 : 0 ≤ (jE)
        ·rw [if_pos c9] at H;have OJ : decide (0 ≤ (jE)) = true := decide_eq_true c9;clear c9
         by_cases c10 : (jE) < (l0.length : Int)
         ·rw [if_pos c10] at H;have kK : decide ((jE) < (l0.length : Int)) = true := decide_eq_true c10;clear c10
          by_cases c11 : ((Op.bytesLess (((qan l0 (jE)).f0).toList) (((qan l0 V0).f0).toList)) = true)
          ·rw [if_pos c11] at H;have qC : (Op.bytesLess (((qan l0 (jE)).f0).toList) (((qan l0 V0).f0).toList)) = true := c11;clear c11;have H' := z_ H;clear H;have OB : 0 ≤ (V0 : Int) := zod_;have ZB : V0 < (l0.length : Int) := zod_;obtain ⟨KA, SM, J6, i7⟩ := qb1 Z1.o V0 OB ZB
           cases SM
           replace J6 := zmove_ HB rfl J6;replace i7 := zmove_ HB rfl i7;replace OB := eq_true OB;replace ZB := eq_true ZB;try go_wp2_with (first | ((with_reducible refine qaw (N := 4) rfl ?_); refine qaH zdO (N := 4) zdO (cs := #[.string (⟨#[]⟩ : ByteArray), .string (⟨#[]⟩ : ByteArray)]) (t := 61) zcm ?_; intro I1 hg JB hbox hb; have Y0 := z_ (hbox); have kS := z_ ((zao : w.heap.size ≤ I1)); have VA := z_ ((zao : w.heap.size ≤ I1)); replace HB := z_ (qaa zar hb); clear hb hbox hg; obtain ⟨rF, VH, gF, YI⟩ := zcells2 Y0.o))
           have O1 : Aside0 (((JB.setCell ⟨I1, 0, none⟩ (.string ((qan l0 V0).f0))).setCell ⟨I1, 1, none⟩ (.string ((qan l0 V0).f1))).heap[I1]? = some (.cells #[.string ((qan l0 V0).f0), .string ((qan l0 V0).f1)] 61 (0, 0))) := ⟨by (with_reducible repeat (first | apply qas | apply qaq | apply qam)); refine qaX (cs := #[.string ((qan l0 V0).f0), .string (⟨#[]⟩ : ByteArray)]) ?_ 1 _ rfl; (with_reducible repeat (first | apply qas | apply qaq | apply qam)); refine qaX (cs := #[.string (⟨#[]⟩ : ByteArray), .string (⟨#[]⟩ : ByteArray)]) ?_ 0 _ rfl; (with_reducible repeat (first | apply qas | apply qaq | apply qam)); exact Y0.o⟩;have C4 : Aside0 (Below w.heap.size w ((JB.setCell ⟨I1, 0, none⟩ (.string ((qan l0 V0).f0))).setCell ⟨I1, 1, none⟩ (.string ((qan l0 V0).f1)))) := ⟨zab VA.o⟩
           (try clear Y0)
           (try clear HB)
           generalize ((JB.setCell ⟨I1, 0, none⟩ (.string ((qan l0 V0).f0))).setCell ⟨I1, 1, none⟩ (.string ((qan l0 V0).f1))) = oH at O1 C4 ⊢;have Y0 := O1;have HB := C4;clear O1 C4;have O1 := z_ (qaq Y0.o);have C4 := z_ (qa1 HB.o);clear Y0 HB;have Y0 := O1;have HB := C4;clear O1 C4;have qN : 0 ≤ ((jE) : Int) := zod_;have RM : (jE) < (l0.length : Int) := zod_;obtain ⟨BS, RZ, D6, X6⟩ := qb1 Z1.o (jE) qN RM;have yI := X6;have UH := D6;obtain rfl : KA = BS := (by injection RZ);replace D6 := zmove_ HB rfl D6;replace X6 := zmove_ HB rfl X6;replace qN := eq_true qN;replace RM := eq_true RM;refine qbc zdG zdG ?_;have U1 := z_ (show oH.drew.cell? ⟨I1, 0, none⟩ = some (.string ((qan l0 V0).f0)) from (qac Y0.o 0).trans rfl);have M2 := z_ (show oH.drew.cell? ⟨I1, 1, none⟩ = some (.string ((qan l0 V0).f1)) from (qac Y0.o 1).trans rfl);have P8 := z_ (show oH.drew.cell? (KA.add (((jE)).toNat * 2)) = some (.string ((qan l0 (jE)).f0)) from (zcm_ HB.o UH));have F8 := z_ (show oH.drew.cell? ⟨(KA.add (((jE)).toNat * 2)).block, (KA.add (((jE)).toNat * 2)).off + 1, none⟩ = some (.string ((qan l0 (jE)).f1)) from (zcm_ HB.o yI));generalize oH.drew = bC at Y0 HB D6 X6 U1 M2 P8 F8 ⊢;clear D6 X6;have hL0 := fun (p_ : Later bC) => Later.cell p_ U1.o
           have hL1 := fun (p_ : Later bC) => Later.cell p_ M2.o
           have hL2 := fun (p_ : Later bC) => Later.cell p_ P8.o
           have hL3 := fun (p_ : Later bC) => Later.cell p_ F8.o
           clear U1 M2 P8 F8
           repeat (first | go_big_quiet_step ((first | (go_at_call 118; exact Calls.qbv (qb7.calls ((qan l0 V0).f0) ((qan l0 V0).f1) true _ A5.o)))) | quiet_step ((first | (go_at_call 118; exact Calls.qbv (qb7.calls ((qan l0 V0).f0) ((qan l0 V0).f1) true _ A5.o)))))
           refine wpQuiet_nil ?_;rintro w16 ⟨⟨r9, hbL⟩, C6⟩;have X5 : w16 = r9 := C6;clear C6;subst X5;clear hL0 hL1 hL2 hL3;have o7 := z_ ((hbL.block _ (qbo Y0.o)).trans Y0.o);have Y2 := z_ (qaa HB.o hbL);clear Y0 HB;have Y0 := o7;have HB := Y2;clear o7 Y2 hbL;try go_wp2
           go_roundg k1
           case measure => have := I5.o; omega
           case rel => exact ⟨(wrap64 (V0 + 1)), zcc, H', ⟨zcY⟩, ⟨zab VA.o⟩⟩
          ·rw [if_neg c11] at H;have qC : (Op.bytesLess (((qan l0 (jE)).f0).toList) (((qan l0 V0).f0).toList)) = false := by simpa using c11
           clear c11;obtain rfl := Option.some.inj H;have OB : 0 ≤ (V0 : Int) := zod_;have ZB : V0 < (l0.length : Int) := zod_;obtain ⟨KA, SM, J6, i7⟩ := qb1 Z1.o V0 OB ZB
           cases SM
           replace J6 := zmove_ HB rfl J6;replace i7 := zmove_ HB rfl i7;replace OB := eq_true OB;replace ZB := eq_true ZB;try go_wp2_with (first | ((with_reducible refine qaw (N := 4) rfl ?_); refine qaH zdO (N := 4) zdO (cs := #[.string (⟨#[]⟩ : ByteArray), .string (⟨#[]⟩ : ByteArray)]) (t := 61) zcm ?_; intro I1 hg oJ hbox hb; have Y0 := z_ (hbox); have kS := z_ ((zao : w.heap.size ≤ I1)); have VA := z_ ((zao : w.heap.size ≤ I1)); replace HB := z_ (qaa zar hb); clear hb hbox hg; obtain ⟨kI, bQ, TH, ZO⟩ := zcells2 Y0.o))
           have O1 : Aside0 (((oJ.setCell ⟨I1, 0, none⟩ (.string ((qan l0 V0).f0))).setCell ⟨I1, 1, none⟩ (.string ((qan l0 V0).f1))).heap[I1]? = some (.cells #[.string ((qan l0 V0).f0), .string ((qan l0 V0).f1)] 61 (0, 0))) := ⟨by (with_reducible repeat (first | apply qas | apply qaq | apply qam)); refine qaX (cs := #[.string ((qan l0 V0).f0), .string (⟨#[]⟩ : ByteArray)]) ?_ 1 _ rfl; (with_reducible repeat (first | apply qas | apply qaq | apply qam)); refine qaX (cs := #[.string (⟨#[]⟩ : ByteArray), .string (⟨#[]⟩ : ByteArray)]) ?_ 0 _ rfl; (with_reducible repeat (first | apply qas | apply qaq | apply qam)); exact Y0.o⟩;have C4 : Aside0 (Below w.heap.size w ((oJ.setCell ⟨I1, 0, none⟩ (.string ((qan l0 V0).f0))).setCell ⟨I1, 1, none⟩ (.string ((qan l0 V0).f1)))) := ⟨zab VA.o⟩
           (try clear Y0)
           (try clear HB)
           generalize ((oJ.setCell ⟨I1, 0, none⟩ (.string ((qan l0 V0).f0))).setCell ⟨I1, 1, none⟩ (.string ((qan l0 V0).f1))) = WK at O1 C4 ⊢;have Y0 := O1;have HB := C4;clear O1 C4;have O1 := z_ (qaq Y0.o);have C4 := z_ (qa1 HB.o);clear Y0 HB;have Y0 := O1;have HB := C4;clear O1 C4;have qN : 0 ≤ ((jE) : Int) := zod_;have RM : (jE) < (l0.length : Int) := zod_;obtain ⟨BS, RZ, D6, X6⟩ := qb1 Z1.o (jE) qN RM;have yI := X6;have UH := D6;obtain rfl : KA = BS := (by injection RZ);replace D6 := zmove_ HB rfl D6;replace X6 := zmove_ HB rfl X6;replace qN := eq_true qN;replace RM := eq_true RM;refine qbc zdG zdG ?_;have U1 := z_ (show WK.drew.cell? ⟨I1, 0, none⟩ = some (.string ((qan l0 V0).f0)) from (qac Y0.o 0).trans rfl);have M2 := z_ (show WK.drew.cell? ⟨I1, 1, none⟩ = some (.string ((qan l0 V0).f1)) from (qac Y0.o 1).trans rfl);have P8 := z_ (show WK.drew.cell? (KA.add (((jE)).toNat * 2)) = some (.string ((qan l0 (jE)).f0)) from (zcm_ HB.o UH));have F8 := z_ (show WK.drew.cell? ⟨(KA.add (((jE)).toNat * 2)).block, (KA.add (((jE)).toNat * 2)).off + 1, none⟩ = some (.string ((qan l0 (jE)).f1)) from (zcm_ HB.o yI));generalize WK.drew = tF at Y0 HB D6 X6 U1 M2 P8 F8 ⊢;clear D6 X6;have hL0 := fun (p_ : Later tF) => Later.cell p_ U1.o
           have hL1 := fun (p_ : Later tF) => Later.cell p_ M2.o
           have hL2 := fun (p_ : Later tF) => Later.cell p_ P8.o
           have hL3 := fun (p_ : Later tF) => Later.cell p_ F8.o
           clear U1 M2 P8 F8
           repeat (first | go_big_quiet_step ((first | (go_at_call 118; exact Calls.qbv (qb7.calls ((qan l0 V0).f0) ((qan l0 V0).f1) true _ A5.o)))) | quiet_step ((first | (go_at_call 118; exact Calls.qbv (qb7.calls ((qan l0 V0).f0) ((qan l0 V0).f1) true _ A5.o)))))
           refine wpQuiet_nil ?_;rintro pY ⟨⟨r9, hbL⟩, C6⟩;have X5 : pY = r9 := C6;clear C6;subst X5;clear hL0 hL1 hL2 hL3;have o7 := z_ ((hbL.block _ (qbo Y0.o)).trans Y0.o);have Y2 := z_ (qaa HB.o hbL);clear Y0 HB;have Y0 := o7;have HB := Y2;clear o7 Y2 hbL;try go_wp2
           go_ret
           exact ⟨by first | rfl | (simp [qdc, qdd] <;> rfl) | (simp only [← ES]; first | rfl | (simp [qdc, qdd] <;> rfl)) | (simp [*, qdc, qdd] <;> rfl), zab VA.o⟩
         ·rw [if_neg c10] at H;exact absurd H zdN
        ·rw [if_neg c9] at H;exact absurd H zdN
       ·rw [if_neg c7] at H;have QA : decide (0 < V0) = false := decide_eq_false c7;clear c7;have H' := z_ H;clear H;have OB : 0 ≤ (V0 : Int) := zod_;have ZB : V0 < (l0.length : Int) := zod_;obtain ⟨KA, SM, J6, i7⟩ := qb1 Z1.o V0 OB ZB
        cases SM
        replace J6 := zmove_ HB rfl J6;replace i7 := zmove_ HB rfl i7;replace OB := eq_true OB;replace ZB := eq_true ZB;try go_wp2_with (first | ((with_reducible refine qaw (N := 4) rfl ?_); refine qaH zdO (N := 4) zdO (cs := #[.string (⟨#[]⟩ : ByteArray), .string (⟨#[]⟩ : ByteArray)]) (t := 61) zcm ?_; intro I1 hg UR hbox hb; have Y0 := z_ (hbox); have kS := z_ ((zao : w.heap.size ≤ I1)); have VA := z_ ((zao : w.heap.size ≤ I1)); replace HB := z_ (qaa zar hb); clear hb hbox hg; obtain ⟨IP, JP, qP, GP⟩ := zcells2 Y0.o))
        have O1 : Aside0 (((UR.setCell ⟨I1, 0, none⟩ (.string ((qan l0 V0).f0))).setCell ⟨I1, 1, none⟩ (.string ((qan l0 V0).f1))).heap[I1]? = some (.cells #[.string ((qan l0 V0).f0), .string ((qan l0 V0).f1)] 61 (0, 0))) := ⟨by (with_reducible repeat (first | apply qas | apply qaq | apply qam)); refine qaX (cs := #[.string ((qan l0 V0).f0), .string (⟨#[]⟩ : ByteArray)]) ?_ 1 _ rfl; (with_reducible repeat (first | apply qas | apply qaq | apply qam)); refine qaX (cs := #[.string (⟨#[]⟩ : ByteArray), .string (⟨#[]⟩ : ByteArray)]) ?_ 0 _ rfl; (with_reducible repeat (first | apply qas | apply qaq | apply qam)); exact Y0.o⟩;have C4 : Aside0 (Below w.heap.size w ((UR.setCell ⟨I1, 0, none⟩ (.string ((qan l0 V0).f0))).setCell ⟨I1, 1, none⟩ (.string ((qan l0 V0).f1)))) := ⟨zab VA.o⟩
        (try clear Y0)
        (try clear HB)
        generalize ((UR.setCell ⟨I1, 0, none⟩ (.string ((qan l0 V0).f0))).setCell ⟨I1, 1, none⟩ (.string ((qan l0 V0).f1))) = dR at O1 C4 ⊢;have Y0 := O1;have HB := C4;clear O1 C4;have O1 := z_ (qaq Y0.o);have C4 := z_ (qa1 HB.o);clear Y0 HB;have Y0 := O1;have HB := C4;clear O1 C4;refine qbc zdG zdG ?_;have U1 := z_ (show dR.drew.cell? ⟨I1, 0, none⟩ = some (.string ((qan l0 V0).f0)) from (qac Y0.o 0).trans rfl);have M2 := z_ (show dR.drew.cell? ⟨I1, 1, none⟩ = some (.string ((qan l0 V0).f1)) from (qac Y0.o 1).trans rfl);generalize dR.drew = wM at Y0 HB U1 M2 ⊢;have hL0 := fun (p_ : Later wM) => Later.cell p_ U1.o
        have hL1 := fun (p_ : Later wM) => Later.cell p_ M2.o
        clear U1 M2
        repeat (first | go_big_quiet_step ((first | (go_at_call 118; exact Calls.qbv (qb7.calls ((qan l0 V0).f0) ((qan l0 V0).f1) true _ A5.o)))) | quiet_step ((first | (go_at_call 118; exact Calls.qbv (qb7.calls ((qan l0 V0).f0) ((qan l0 V0).f1) true _ A5.o)))))
        refine wpQuiet_nil ?_;rintro w26 ⟨⟨r9, hbL⟩, C6⟩;have X5 : w26 = r9 := C6;clear C6;subst X5;clear hL0 hL1;have o7 := z_ ((hbL.block _ (qbo Y0.o)).trans Y0.o);have Y2 := z_ (qaa HB.o hbL);clear Y0 HB;have Y0 := o7;have HB := Y2;clear o7 Y2 hbL;try go_wp2
        go_roundg k1
        case measure => have := I5.o; omega
        case rel => exact ⟨(wrap64 (V0 + 1)), zcc, H', ⟨zcY⟩, ⟨zab VA.o⟩⟩
      ·replace c6 := Bool.eq_false_iff.mpr c6;subst c6;rw [if_neg zft_] at H;obtain rfl := Option.some.inj H;have OB : 0 ≤ (V0 : Int) := zod_;have ZB : V0 < (l0.length : Int) := zod_;obtain ⟨KA, SM, J6, i7⟩ := qb1 Z1.o V0 OB ZB
       cases SM
       replace J6 := zmove_ HB rfl J6;replace i7 := zmove_ HB rfl i7;replace OB := eq_true OB;replace ZB := eq_true ZB;try go_wp2_with (first | ((with_reducible refine qaw (N := 4) rfl ?_); refine qaH zdO (N := 4) zdO (cs := #[.string (⟨#[]⟩ : ByteArray), .string (⟨#[]⟩ : ByteArray)]) (t := 61) zcm ?_; intro I1 hg fX hbox hb; have Y0 := z_ (hbox); have kS := z_ ((zao : w.heap.size ≤ I1)); have VA := z_ ((zao : w.heap.size ≤ I1)); replace HB := z_ (qaa zar hb); clear hb hbox hg; obtain ⟨HV, ql, eV, Cl⟩ := zcells2 Y0.o))
       have O1 : Aside0 (((fX.setCell ⟨I1, 0, none⟩ (.string ((qan l0 V0).f0))).setCell ⟨I1, 1, none⟩ (.string ((qan l0 V0).f1))).heap[I1]? = some (.cells #[.string ((qan l0 V0).f0), .string ((qan l0 V0).f1)] 61 (0, 0))) := ⟨by (with_reducible repeat (first | apply qas | apply qaq | apply qam)); refine qaX (cs := #[.string ((qan l0 V0).f0), .string (⟨#[]⟩ : ByteArray)]) ?_ 1 _ rfl; (with_reducible repeat (first | apply qas | apply qaq | apply qam)); refine qaX (cs := #[.string (⟨#[]⟩ : ByteArray), .string (⟨#[]⟩ : ByteArray)]) ?_ 0 _ rfl; (with_reducible repeat (first | apply qas | apply qaq | apply qam)); exact Y0.o⟩;have C4 : Aside0 (Below w.heap.size w ((fX.setCell ⟨I1, 0, none⟩ (.string ((qan l0 V0).f0))).setCell ⟨I1, 1, none⟩ (.string ((qan l0 V0).f1)))) := ⟨zab VA.o⟩
       (try clear Y0)
       (try clear HB)
       generalize ((fX.setCell ⟨I1, 0, none⟩ (.string ((qan l0 V0).f0))).setCell ⟨I1, 1, none⟩ (.string ((qan l0 V0).f1))) = Ro at O1 C4 ⊢;have Y0 := O1;have HB := C4;clear O1 C4;have O1 := z_ (qaq Y0.o);have C4 := z_ (qa1 HB.o);clear Y0 HB;have Y0 := O1;have HB := C4;clear O1 C4;refine qbc zdG zdG ?_;have U1 := z_ (show Ro.drew.cell? ⟨I1, 0, none⟩ = some (.string ((qan l0 V0).f0)) from (qac Y0.o 0).trans rfl);have M2 := z_ (show Ro.drew.cell? ⟨I1, 1, none⟩ = some (.string ((qan l0 V0).f1)) from (qac Y0.o 1).trans rfl);generalize Ro.drew = w30 at Y0 HB U1 M2 ⊢;have hL0 := fun (p_ : Later w30) => Later.cell p_ U1.o
       have hL1 := fun (p_ : Later w30) => Later.cell p_ M2.o
       clear U1 M2
       repeat (first | go_big_quiet_step ((first | (go_at_call 118; exact Calls.qbv (qb7.calls ((qan l0 V0).f0) ((qan l0 V0).f1) false _ A5.o)))) | quiet_step ((first | (go_at_call 118; exact Calls.qbv (qb7.calls ((qan l0 V0).f0) ((qan l0 V0).f1) false _ A5.o)))))
       refine wpQuiet_nil ?_;rintro w31 ⟨⟨r9, hbL⟩, C6⟩;have X5 : w31 = r9 := C6;clear C6;subst X5;clear hL0 hL1;have o7 := z_ ((hbL.block _ (qbo Y0.o)).trans Y0.o);have Y2 := z_ (qaa HB.o hbL);clear Y0 HB;have Y0 := o7;have HB := Y2;clear o7 Y2 hbL;try go_wp2
       go_ret
       exact ⟨zaM, zab VA.o⟩
     ·rw [if_neg c4] at H;exact absurd H zdN
    ·rw [if_neg c3] at H;exact absurd H zdN
   ·rw [if_neg c2] at H;have RA : decide (V0 < (l0.length : Int)) = false := decide_eq_false c2;clear c2;obtain rfl := Option.some.inj H
    go_wp2
    go_ret
    exact ⟨zaM, zar⟩
theorem qhE (l : List S61) (hl : l.length ≤ 60) (rest : List S61) : ∀ (pre : List S61) (q : S61), l = (pre ++ [q]) ++ rest →
  Ev (fun k => qa2.l0 k l (((pre ++ [q]).length : Nat) : Int)) (chainB (some q) rest) := by
 induction rest with
 | nil =>
  intro pre q h;refine Ev.succ ?_;simp only [qa2.l0];exact Ev.neg zdC (Ev.is rfl)
 | cons p r ih =>
  intro pre q h;have hx := qi8 l (pre ++ [q]) r p h;have hq := qi8 l pre (p :: r) q zdC;have hlen : (pre ++ [q]).length < l.length := zdC;have hw := qft (n := (pre ++ [q]).length) zdM;have hp : wrap64 ((((pre ++ [q]).length : Nat) : Int) - 1) = ((pre.length : Nat) : Int) := zbb;have hi := ih (pre ++ [q]) p zdC;rw [← qek] at hi;refine Ev.succ ?_;simp only [qa2.l0, hx, hp, hq, hw];refine Ev.pos zdM (Ev.pos zdM (Ev.bindk (qjh p) ?_))
  cases ho : okP p with
  | false => exact Ev.neg zdN (Ev.is zds)
  | true =>
   refine Ev.pos rfl (Ev.pos zdA (Ev.pos zdM (Ev.pos zdc ?_)))
   cases hb : Op.bytesLess q.f0.toList p.f0.toList with
   | false => exact Ev.neg zdN (Ev.is zdk)
   | true => exact Ev.pos rfl (Ev.same hi zdk)
theorem qlL (l : List S61) (hl : l.length ≤ 60) : Ev (fun k => qa2.l0 k l 0) (chainB none l) := by
 cases l with
 | nil =>
  refine Ev.succ ?_;simp only [qa2.l0];exact Ev.neg zdN (Ev.is rfl)
 | cons p r =>
  have hx := qi8 (p :: r) [] r p rfl;simp only [List.length_nil, Int.natCast_zero] at hx;have hi := qhE (p :: r) hl r [] p rfl;refine Ev.succ ?_;simp only [qa2.l0, hx];refine Ev.pos zdA (Ev.pos zdM (Ev.bindk (qjh p) ?_))
  cases ho : okP p with
  | false => exact Ev.neg zdN (Ev.is zds)
  | true =>
   have e0 : ((([] ++ [p] : List S61).length : Nat) : Int) = wrap64 (0 + 1) := by unfold wrap64; simp
   rw [e0] at hi;exact Ev.pos rfl (Ev.neg zdM (Ev.same hi zds))
theorem qji (l : List S61) : Ev (fun k => qa2.f k l) (qdY l) := by
 unfold qa2.f qdY
 by_cases h1 : (l.length : Int) > 4096
 ·exact Ev.pos h1 (Ev.is zcv)
 ·by_cases h2 : (l.length : Int) > 60
  ·exact Ev.neg h1 (Ev.pos h2 (Ev.is zcv))
  ·exact Ev.neg h1 (Ev.neg h2 (Ev.same (qlL l zdM) (by simp [show l.length ≤ 60 from zdM])))
theorem qhF (l : List S61) (hl : l.length < 9223372036854775807) (rest : List S61) : ∀ (pre : List S61) (q : S61), l = (pre ++ [q]) ++ rest →
  Ev (fun k => qay.l0 k l l (l.length : Int) (((pre ++ [q]).length : Nat) : Int)) (chainB (some q) rest) := by
 induction rest with
 | nil =>
  intro pre q h;refine Ev.succ ?_;simp only [qay.l0];exact Ev.neg zdC (Ev.is rfl)
 | cons p r ih =>
  intro pre q h;have hx := qi8 l (pre ++ [q]) r p h;have hq := qi8 l pre (p :: r) q zdC;have hlen : (pre ++ [q]).length < l.length := zdC;have hw := qft (n := (pre ++ [q]).length) zdM;have hp : wrap64 ((((pre ++ [q]).length : Nat) : Int) - 1) = ((pre.length : Nat) : Int) := zbb;have hi := ih (pre ++ [q]) p zdC;rw [← qek] at hi;refine Ev.succ ?_;simp only [qay.l0, hx, hp, hq, hw];refine Ev.pos zdM (Ev.pos zdM (Ev.pos zdM (Ev.bindk (qjg p) ?_)))
  cases ho : okP p with
  | false => exact Ev.neg zdN (Ev.is zds)
  | true =>
   refine Ev.pos rfl (Ev.pos zdA (Ev.pos zdM (Ev.pos zdc ?_)))
   cases hb : Op.bytesLess q.f0.toList p.f0.toList with
   | false => exact Ev.neg zdN (Ev.is zdk)
   | true => exact Ev.pos rfl (Ev.same hi zdk)
theorem qg8 (l : List S61) (hl : l.length < 9223372036854775807) : Ev (fun k => qay.f k l) (chainB none l) := by
 unfold qay.f
 cases l with
 | nil =>
  refine Ev.succ ?_;simp only [qay.l0];exact Ev.neg zdN (Ev.is rfl)
 | cons p r =>
  have hx := qi8 (p :: r) [] r p rfl;simp only [List.length_nil, Int.natCast_zero] at hx;have hi := qhF (p :: r) hl r [] p rfl;refine Ev.succ ?_;simp only [qay.l0, hx];refine Ev.pos zdA (Ev.pos zdM (Ev.pos zdA (Ev.bindk (qjg p) ?_)))
  cases ho : okP p with
  | false => exact Ev.neg zdN (Ev.is zds)
  | true =>
   have e0 : ((([] ++ [p] : List S61).length : Nat) : Int) = wrap64 (0 + 1) := by unfold wrap64; simp
   rw [e0] at hi;exact Ev.pos rfl (Ev.neg zdM (Ev.same hi zds))
def qec.f (_ : Nat) (B0 : Bool) (D0 : List S61) (C0 : List ByteArray) (E0 : List Int) : Option Bool := some (nodeB B0 D0 C0 E0)
theorem qec.calls (k : Nat) (B0 : Bool) (P0 : Option Addr) (O0 : Nat) (D0 : List S61) (R0 : Option Addr) (T0 : Nat) (C0 : List ByteArray) (U0 : Option Addr) (Q0 : Nat) (E0 : List Int) (r : Bool) (w : World) (J3 : Kd.C k61 w P0 D0.length D0) (I3 : D0.length ≤ O0) (V2 : Kd.C Kd.string w R0 C0.length C0) (F3 : C0.length ≤ T0) (u3 : Kd.C (Kd.int .i64) w U0 E0.length E0) (D3 : E0.length ≤ Q0) (h : qec.f k B0 D0 C0 E0 = some r) :
  Calls Tryz.prog 109 #[.agg #[.bool B0, .slice P0 D0.length O0, .slice R0 C0.length T0, .slice U0 E0.length Q0]] w fun e w' => e = .returned (.bool r) ∧ Below w.heap.size w w' := by
 have hu := Tryz.underlying80;have HR := z_ (Option.some.inj h).symm;unfold nodeB at HR;have H1 := z_ (And.intro J3 I3);have H2 := z_ (And.intro V2 F3);have H3 := z_ (And.intro u3 D3);have jf : C0.length ≤ 9223372036854775807 := V2.2.1;have HM := z_ jf;obtain ⟨gb, hgb⟩ : ∃ gb, gb = w.heap.size := ⟨_, rfl⟩
 obtain ⟨W1, hW1⟩ : ∃ W1, W1 = w.alloc (Obj.cells #[.bool B0, .slice P0 D0.length O0, .slice R0 C0.length T0, .slice U0 E0.length Q0] 80 (0, 0)) := ⟨_, rfl⟩
 have HB := z_ (show Below w.heap.size w W1 from zbU);have HX := z_ (show W1.heap[gb]? = some (.cells #[.bool B0, .slice P0 D0.length O0, .slice R0 C0.length T0, .slice U0 E0.length Q0] 80 (0, 0)) from zcD);clear h J3 I3 V2 F3 u3 D3 jf
 go_enter Tryz.func109, Tryz.ntmps109
 go_upto_region 1 with fail
 rw [← hW1, ← hgb];clear hW1 hgb;obtain ⟨d0, d1, d2, d3⟩ := qbB HX.o
 go_wp2_with fail
 refine (qct.calls B0 P0 O0 D0 R0 T0 C0 U0 Q0 E0 _ W1 (Kd.qar H1.o.1 HB.o) H1.o.2 (Kd.qar H2.o.1 HB.o) H2.o.2 (Kd.qar H3.o.1 HB.o) H3.o.2 (qja B0 D0 C0 E0)).mono ?_;rintro e w2 ⟨rfl, hb2⟩;replace HX := z_ (qab HX.o hb2);replace HB := z_ (qaa HB.o hb2);clear hb2 d0 d1 d2 d3;obtain ⟨d0, d1, d2, d3⟩ := qbB HX.o
 cases hf : freeB B0 D0 C0 E0 with
 | true =>
  rw [hf, Bool.true_or] at HR
  go_wp2_with fail
  go_ret
  exact ⟨zcP, HB.o⟩
 | false =>
  rw [hf, Bool.false_or] at HR;clear hf
  cases B0 with
  | true =>
   simp only [if_true] at HR
   go_wp2_with fail
   refine (qb2.calls (D0.length : Int) 1 3 _ w2 (qgT _ _ _)).mono ?_;rintro e w3 ⟨rfl, hd3⟩;have hb3 := hd3.below;replace HX := z_ (qab HX.o hb3);replace HB := z_ (qaa HB.o hb3);clear hb3 hd3 d0 d1 d2 d3;obtain ⟨d0, d1, d2, d3⟩ := qbB HX.o
   cases h1 : inB (D0.length : Int) 1 3 with
   | false =>
    rw [h1, Bool.false_and] at HR
    go_wp2_with fail
    go_ret
    exact ⟨zcP, HB.o⟩
   | true =>
    have hl : D0.length ≤ 3 := by simp only [inB, Bool.and_eq_true, decide_eq_true_eq] at h1; omega
    rw [h1, Bool.true_and, show qdY D0 = chainB none D0 from by unfold qdY; rw [decide_eq_true zdM, Bool.true_and]] at HR;obtain ⟨kr, hkr⟩ := qg8 D0 zdM;have HK := z_ (hkr kr (Nat.le_refl _));clear hkr hl h1
    go_wp2_with fail
    refine (qay.calls kr P0 O0 D0 _ w3 (Kd.qar H1.o.1 HB.o) H1.o.2 HK.o).mono ?_;rintro e w4 ⟨rfl, hb4⟩;replace HX := z_ (qab HX.o hb4);replace HB := z_ (qaa HB.o hb4);clear hb4 d0 d1 d2 d3;obtain ⟨d0, d1, d2, d3⟩ := qbB HX.o
    cases h2 : chainB none D0 with
    | false =>
     rw [h2, Bool.false_and] at HR
     go_wp2_with fail
     go_ret
     exact ⟨zcP, HB.o⟩
    | true =>
     rw [h2, Bool.true_and] at HR;clear h2
     by_cases h4 : C0.length = 0
     ·have c4 : ((C0.length : Int) == 0) = true := by rw [h4]; rfl
      have z4 : (C0 = []) = True := eq_true (List.eq_nil_of_length_eq_zero h4);rw [decide_eq_true h4, Bool.true_and] at HR;clear h4
      go_wp2_with fail
      go_ret
      exact ⟨zbv, HB.o⟩
     ·have c4 : ((C0.length : Int) == 0) = false := beq_eq_false_iff_ne.mpr zdM;have z4 : (C0 = []) = False := zaS;rw [decide_eq_false h4, Bool.false_and] at HR;clear h4
      go_wp2_with fail
      go_ret
      exact ⟨zcP, HB.o⟩
  | false =>
   simp only [Bool.false_eq_true, if_false] at HR
   by_cases h1 : D0.length = 0
   case neg =>
    rw [decide_eq_false h1, Bool.false_and] at HR;have c1 : decide (0 < (D0.length : Int)) = true := decide_eq_true zdM;have z1 : (0 < D0.length) = True := eq_true zdM;clear h1
    go_wp2_with fail
    go_ret
    exact ⟨zcP, HB.o⟩
   rw [decide_eq_true h1, Bool.true_and] at HR;have c1 : decide (0 < (D0.length : Int)) = false := decide_eq_false zdM;have z1 : (0 < D0.length) = False := eq_false zdM;clear h1
   go_wp2_with fail
   refine (qb2.calls (E0.length : Int) 1 4 _ w2 (qgT _ _ _)).mono ?_;rintro e w3 ⟨rfl, hd3⟩;have hb3 := hd3.below;replace HX := z_ (qab HX.o hb3);replace HB := z_ (qaa HB.o hb3);clear hb3 hd3 d0 d1 d2 d3;obtain ⟨d0, d1, d2, d3⟩ := qbB HX.o
   cases h2 : inB (E0.length : Int) 1 4 with
   | false =>
    rw [h2, Bool.false_and] at HR
    go_wp2_with fail
    go_ret
    exact ⟨zcP, HB.o⟩
   | true =>
    rw [h2, Bool.true_and] at HR;clear h2
    by_cases h3 : C0.length = E0.length
    case neg =>
     rw [decide_eq_false h3, Bool.false_and] at HR;have c3 : ((C0.length : Int) != (E0.length : Int)) = true := bne_iff_ne.mpr zdM;clear h3
     go_wp2_with fail
     go_ret
     exact ⟨zcP, HB.o⟩
    rw [decide_eq_true h3, Bool.true_and] at HR;have c3 : ((C0.length : Int) != (E0.length : Int)) = false := by rw [h3]; exact bne_self_eq_false _
    have HE := z_ h3;clear h3
    go_wp2_with fail
    clear c1 z1 c3 d0 d1 d2 d3
    go_loopw [53] (fun v53 wr => ∃ i : Nat, i ≤ C0.length ∧ v53 = .int .i64 (i : Int) ∧ Aside0 (∀ j, j < i → kidAt C0 E0 j = true) ∧ Aside0 (Below w3.heap.size w3 wr)) (fun v53 _ => C0.length - (intOf v53).toNat)
    case atStart => exact ⟨0, Nat.zero_le _, rfl, ⟨fun j hj => absurd hj (Nat.not_lt_zero _)⟩, ⟨Below.refl _ _⟩⟩
    case round =>
     obtain ⟨i, hi, rfl, HN, HO⟩ := hrel;have HX := z_ (qab HX.o HO.o);have HB := z_ (qaa HB.o HO.o);obtain ⟨d0, d1, d2, d3⟩ := qbB HX.o
     by_cases hlt : i < C0.length
     case neg =>
      have c1 : decide ((i : Int) < (C0.length : Int)) = false := decide_eq_false zdM;have z1 : (i < C0.length) = False := eq_false hlt;have HA := z_ (qjb HN.o (show E0.length ≤ i from zdl));clear hlt hi
      go_wp2_with fail
      go_ret
      exact ⟨zcp, HB.o⟩
     have c1 : decide ((i : Int) < (C0.length : Int)) = true := decide_eq_true zdM;have z1 : (i < C0.length) = True := eq_true hlt;have p1 : (0 : Int) ≤ (i : Int) := zdM;have q1 : (i : Int) < (C0.length : Int) := zdM;have q3 : (i : Int) < (E0.length : Int) := zdl;have hi3 : i < E0.length := zdM;have HI3 := z_ hi3;obtain ⟨kM, e2, hx2⟩ := Kd.qbX (Kd.qar H2.o.1 HB.o) (i : Int) p1 q1;obtain ⟨gH, e3, hx3⟩ := Kd.qdu (Kd.qar H3.o.1 HB.o) (i : Int) p1 q3;subst e2 e3;rw [Int.toNat_natCast] at hx2 hx3;have w2_ : IntKind.i64.wrap ((i : Int) + 1) = (i : Int) + 1 := by rw [IntKind.wrap_i64]; have := HM.o; omega
     obtain ⟨t2, ht2⟩ : ∃ t2, t2 = rdOf ByteArray.empty C0 (i : Int) := ⟨_, rfl⟩
     obtain ⟨n3, vW⟩ : ∃ n3, n3 = rd E0 (i : Int) := ⟨_, rfl⟩
     rw [← ht2] at hx2;rw [← vW] at hx3;have HK := z_ (show kidAt C0 E0 i = (inB n3 0 49 && (keyB t2 && (decide (i = 0) || Op.bytesLess (rdOf ByteArray.empty C0 ((i - 1 : Nat) : Int)).toList t2.toList))) from by rw [vW, ht2]; rfl);clear ht2 vW hlt hi hi3
     go_wp2_with fail
     refine (qch.calls t2 _ _ (qio t2)).mono ?_;rintro e w4 ⟨rfl, hd4⟩;have hb4 := hd4.below;replace HO := z_ (qaa HO.o hb4);replace HX := z_ (qab HX.o hb4);replace HB := z_ (qaa HB.o hb4);replace hx2 := (hb4.cell (World.block_lt_of_cell? _ _ hx2)).trans hx2;replace hx3 := (hb4.cell (World.block_lt_of_cell? _ _ hx3)).trans hx3;clear hb4 hd4 d0 d1 d2 d3;obtain ⟨d0, d1, d2, d3⟩ := qbB HX.o
     cases hk : keyB t2 with
     | false =>
      have HA := z_ (qe5 (HK.o.trans (by rw [hk]; simp)) HI3.o)
      go_wp2_with fail
      go_ret
      exact ⟨zcp, HB.o⟩
     | true =>
      rw [hk, Bool.true_and] at HK;clear hk
      go_wp2_with fail
      refine (qb2.calls n3 0 49 _ _ (qgT _ _ _)).mono ?_;rintro e w5 ⟨rfl, hd5⟩;have hb5 := hd5.below;replace HO := z_ (qaa HO.o hb5);replace HX := z_ (qab HX.o hb5);replace HB := z_ (qaa HB.o hb5);clear hb5 hd5 d0 d1 d2 d3 hx2 hx3;obtain ⟨d0, d1, d2, d3⟩ := qbB HX.o
      cases hn : inB n3 0 49 with
      | false =>
       have HA := z_ (qe5 (HK.o.trans (by rw [hn]; rfl)) HI3.o)
       go_wp2_with fail
       go_ret
       exact ⟨zcp, HB.o⟩
      | true =>
       rw [hn, Bool.true_and] at HK;clear hn
       by_cases h0 : i = 0
       ·subst h0;have HA := z_ (qe6 HN.o (HK.o.trans rfl));have yn : decide ((0 : Int) < ((0 : Nat) : Int)) = false := rfl
        go_wp2_with fail
        go_roundw
        case rel => exact ⟨1, zcs, zdL, HA, HO⟩
        case measure => have := HE.o; have := HI3.o; simp [intOf]; omega
       ·have yn : decide (0 < (i : Int)) = true := decide_eq_true zdM;have w4_ : (0 < i) = True := eq_true zdM;have w5_ : IntKind.i64.wrap ((i : Int) - 1) = ((i - 1 : Nat) : Int) := by rw [IntKind.wrap_i64]; have := HM.o; have := HE.o; have := HI3.o; omega
        have p4 : (0 : Int) ≤ ((i - 1 : Nat) : Int) := zdM;have q4 : ((i - 1 : Nat) : Int) < (C0.length : Int) := zcs;obtain ⟨ad4, e4, hx4⟩ := Kd.qbX (Kd.qar H2.o.1 HB.o) ((i - 1 : Nat) : Int) p4 q4
        cases e4
        rw [Int.toNat_natCast] at hx4;obtain ⟨m, hm⟩ : ∃ m, m = i - 1 := ⟨_, rfl⟩
        rw [← hm] at w5_ p4 q4 hx4 HK;obtain ⟨t4, JV⟩ : ∃ t4, t4 = rdOf ByteArray.empty C0 (m : Int) := ⟨_, rfl⟩
        rw [← JV] at hx4 HK;rw [decide_eq_false h0, Bool.false_or] at HK;clear hm JV h0
        cases hbl : Op.bytesLess t4.toList t2.toList with
        | true =>
         have HA := z_ (qe6 HN.o (HK.o.trans hbl))
         go_wp2_with fail
         go_roundw
         case rel => exact ⟨i + 1, zcs, zdL, HA, HO⟩
         case measure => have := HE.o; have := HI3.o; simp [intOf]; omega
        | false =>
         have HA := z_ (qe5 (HK.o.trans hbl) HI3.o)
         go_wp2_with fail
         go_ret
         exact ⟨zcp, HB.o⟩
def qed.f (_ : Nat) (B0 : Bool) (D0 : List S61) (C0 : List ByteArray) (E0 : List Int) : Option Bool := some (nodeB B0 D0 C0 E0)
theorem qed.calls (k : Nat) (B0 : Bool) (P0 : Option Addr) (O0 : Nat) (D0 : List S61) (R0 : Option Addr) (T0 : Nat) (C0 : List ByteArray) (U0 : Option Addr) (Q0 : Nat) (E0 : List Int) (r : Bool) (w : World) (J3 : Kd.C k61 w P0 D0.length D0) (I3 : D0.length ≤ O0) (V2 : Kd.C Kd.string w R0 C0.length C0) (F3 : C0.length ≤ T0) (u3 : Kd.C (Kd.int .i64) w U0 E0.length E0) (D3 : E0.length ≤ Q0) (h : qed.f k B0 D0 C0 E0 = some r) :
  Calls Tryz.prog 69 #[.agg #[.bool B0, .slice P0 D0.length O0, .slice R0 C0.length T0, .slice U0 E0.length Q0]] w fun e w' => e = .returned (.bool r) ∧ Below w.heap.size w w' := by
 have hu := Tryz.underlying80;have HR := z_ (Option.some.inj h).symm;unfold nodeB at HR;have H1 := z_ (And.intro J3 I3);have H2 := z_ (And.intro V2 F3);have H3 := z_ (And.intro u3 D3);have jf : C0.length ≤ 9223372036854775807 := V2.2.1;have HM := z_ jf;obtain ⟨gb, hgb⟩ : ∃ gb, gb = w.heap.size := ⟨_, rfl⟩
 obtain ⟨W1, hW1⟩ : ∃ W1, W1 = w.alloc (Obj.cells #[.bool B0, .slice P0 D0.length O0, .slice R0 C0.length T0, .slice U0 E0.length Q0] 80 (0, 0)) := ⟨_, rfl⟩
 have HB := z_ (show Below w.heap.size w W1 from zbU);have HX := z_ (show W1.heap[gb]? = some (.cells #[.bool B0, .slice P0 D0.length O0, .slice R0 C0.length T0, .slice U0 E0.length Q0] 80 (0, 0)) from zcD);clear h J3 I3 V2 F3 u3 D3 jf
 go_enter Tryz.func69, Tryz.ntmps69
 go_upto_region 1 with fail
 rw [← hW1, ← hgb];clear hW1 hgb;obtain ⟨d0, d1, d2, d3⟩ := qbB HX.o
 go_wp2_with fail
 refine (qdh.calls B0 P0 O0 D0 R0 T0 C0 U0 Q0 E0 _ W1 (Kd.qar H1.o.1 HB.o) H1.o.2 (Kd.qar H2.o.1 HB.o) H2.o.2 (Kd.qar H3.o.1 HB.o) H3.o.2 (qi9 B0 D0 C0 E0)).mono ?_;rintro e w2 ⟨rfl, hb2⟩;replace HX := z_ (qab HX.o hb2);replace HB := z_ (qaa HB.o hb2);clear hb2 d0 d1 d2 d3;obtain ⟨d0, d1, d2, d3⟩ := qbB HX.o
 cases hf : freeB B0 D0 C0 E0 with
 | true =>
  rw [hf, Bool.true_or] at HR
  go_wp2_with fail
  go_ret
  exact ⟨zcP, HB.o⟩
 | false =>
  rw [hf, Bool.false_or] at HR;clear hf
  cases B0 with
  | true =>
   simp only [if_true] at HR
   go_wp2_with fail
   refine (qaY.calls (D0.length : Int) 1 3 _ w2 (qfu _ _ _)).mono ?_;rintro e w3 ⟨rfl, hd3⟩;have hb3 := hd3.below;replace HX := z_ (qab HX.o hb3);replace HB := z_ (qaa HB.o hb3);clear hb3 hd3 d0 d1 d2 d3;obtain ⟨d0, d1, d2, d3⟩ := qbB HX.o
   cases h1 : inB (D0.length : Int) 1 3 with
   | false =>
    rw [h1, Bool.false_and] at HR
    go_wp2_with fail
    go_ret
    exact ⟨zcP, HB.o⟩
   | true =>
    rw [h1, Bool.true_and] at HR;obtain ⟨kr, hkr⟩ := qji D0;have HK := z_ (hkr kr (Nat.le_refl _));clear hkr h1
    go_wp2_with fail
    refine (qa2.calls kr P0 O0 D0 _ w3 (Kd.qar H1.o.1 HB.o) H1.o.2 HK.o).mono ?_;rintro e w4 ⟨rfl, hb4⟩;replace HX := z_ (qab HX.o hb4);replace HB := z_ (qaa HB.o hb4);clear hb4 d0 d1 d2 d3;obtain ⟨d0, d1, d2, d3⟩ := qbB HX.o
    cases h2 : qdY D0 with
    | false =>
     rw [h2, Bool.false_and] at HR
     go_wp2_with fail
     go_ret
     exact ⟨zcP, HB.o⟩
    | true =>
     rw [h2, Bool.true_and] at HR;clear h2
     by_cases h4 : C0.length = 0
     ·have c4 : ((C0.length : Int) == 0) = true := by rw [h4]; rfl
      have z4 : (C0 = []) = True := eq_true (List.eq_nil_of_length_eq_zero h4);rw [decide_eq_true h4, Bool.true_and] at HR;clear h4
      go_wp2_with fail
      go_ret
      exact ⟨zbv, HB.o⟩
     ·have c4 : ((C0.length : Int) == 0) = false := beq_eq_false_iff_ne.mpr zdM;have z4 : (C0 = []) = False := zaS;rw [decide_eq_false h4, Bool.false_and] at HR;clear h4
      go_wp2_with fail
      go_ret
      exact ⟨zcP, HB.o⟩
  | false =>
   simp only [Bool.false_eq_true, if_false] at HR
   by_cases h1 : D0.length = 0
   case neg =>
    rw [decide_eq_false h1, Bool.false_and] at HR;have c1 : ((D0.length : Int) != 0) = true := bne_iff_ne.mpr zdM;have z1 : (D0 = []) = False := by simp only [eq_iff_iff, iff_false]; intro e_; rw [e_] at h1; exact h1 rfl
    clear h1
    go_wp2_with fail
    go_ret
    exact ⟨zcP, HB.o⟩
   rw [decide_eq_true h1, Bool.true_and] at HR;have c1 : ((D0.length : Int) != 0) = false := by rw [h1]; rfl
   have z1 : (D0 = []) = True := eq_true (List.eq_nil_of_length_eq_zero h1);clear h1
   go_wp2_with fail
   refine (qaY.calls (E0.length : Int) 1 4 _ w2 (qfu _ _ _)).mono ?_;rintro e w3 ⟨rfl, hd3⟩;have hb3 := hd3.below;replace HX := z_ (qab HX.o hb3);replace HB := z_ (qaa HB.o hb3);clear hb3 hd3 d0 d1 d2 d3;obtain ⟨d0, d1, d2, d3⟩ := qbB HX.o
   cases h2 : inB (E0.length : Int) 1 4 with
   | false =>
    rw [h2, Bool.false_and] at HR
    go_wp2_with fail
    go_ret
    exact ⟨zcP, HB.o⟩
   | true =>
    rw [h2, Bool.true_and] at HR;clear h2
    by_cases h3 : C0.length = E0.length
    case neg =>
     rw [decide_eq_false h3, Bool.false_and] at HR;have c3 : ((C0.length : Int) != (E0.length : Int)) = true := bne_iff_ne.mpr zdM;clear h3
     go_wp2_with fail
     go_ret
     exact ⟨zcP, HB.o⟩
    rw [decide_eq_true h3, Bool.true_and] at HR;have c3 : ((C0.length : Int) != (E0.length : Int)) = false := by rw [h3]; exact bne_self_eq_false _
    have HE := z_ h3;clear h3
    go_wp2_with fail
    clear c1 z1 c3 d0 d1 d2 d3
    go_loopw [3] (fun v3 wr => ∃ i : Nat, i ≤ E0.length ∧ v3 = .int .i64 (i : Int) ∧ Aside0 (∀ j, j < i → kidAt C0 E0 j = true) ∧ Aside0 (Below w3.heap.size w3 wr)) (fun v3 _ => E0.length - (intOf v3).toNat)
    case atStart => exact ⟨0, Nat.zero_le _, rfl, ⟨fun j hj => absurd hj (Nat.not_lt_zero _)⟩, ⟨Below.refl _ _⟩⟩
    case round =>
     obtain ⟨i, hi, rfl, HN, HO⟩ := hrel;have HX := z_ (qab HX.o HO.o);have HB := z_ (qaa HB.o HO.o);obtain ⟨d0, d1, d2, d3⟩ := qbB HX.o
     by_cases hlt : i < E0.length
     case neg =>
      have c1 : decide ((i : Int) < (E0.length : Int)) = false := decide_eq_false zdM;have z1 : (i < E0.length) = False := eq_false hlt;have HA := z_ (qjb HN.o (show E0.length ≤ i from zdM));clear hlt hi
      go_wp2_with fail
      go_ret
      exact ⟨zcp, HB.o⟩
     have c1 : decide ((i : Int) < (E0.length : Int)) = true := decide_eq_true zdM;have z1 : (i < E0.length) = True := eq_true hlt;have p1 : (0 : Int) ≤ (i : Int) := zdM;have q1 : (i : Int) < (C0.length : Int) := zdl;have q3 : (i : Int) < (E0.length : Int) := zdM;have z2 : (i < C0.length) = True := eq_true zdl;have HI3 := z_ hlt;obtain ⟨kM, e2, hx2⟩ := Kd.qbX (Kd.qar H2.o.1 HB.o) (i : Int) p1 q1;obtain ⟨gH, e3, hx3⟩ := Kd.qdu (Kd.qar H3.o.1 HB.o) (i : Int) p1 q3;subst e2 e3;rw [Int.toNat_natCast] at hx2 hx3;have w2_ : IntKind.i64.wrap ((i : Int) + 1) = (i : Int) + 1 := by rw [IntKind.wrap_i64]; have := HM.o; have := HE.o; omega
     obtain ⟨t2, ht2⟩ : ∃ t2, t2 = rdOf ByteArray.empty C0 (i : Int) := ⟨_, rfl⟩
     obtain ⟨n3, vW⟩ : ∃ n3, n3 = rd E0 (i : Int) := ⟨_, rfl⟩
     rw [← ht2] at hx2;rw [← vW] at hx3;have HK := z_ (show kidAt C0 E0 i = (inB n3 0 49 && (keyB t2 && (decide (i = 0) || Op.bytesLess (rdOf ByteArray.empty C0 ((i - 1 : Nat) : Int)).toList t2.toList))) from by rw [vW, ht2]; rfl);obtain ⟨t4, JV⟩ : ∃ t4, t4 = rdOf ByteArray.empty C0 ((i - 1 : Nat) : Int) := ⟨_, rfl⟩
     rw [← JV] at HK;obtain ⟨m, hm⟩ : ∃ m, m = i - 1 := ⟨_, rfl⟩
     have JZ := z_ (show i ≠ 0 → wr.drew.cell? (kM.add m) = some (.string t4) ∧ IntKind.i64.wrap ((i : Int) - 1) = (m : Int) ∧ (m : Int) < (C0.length : Int) from fun h0 => by
      have q4 : ((i - 1 : Nat) : Int) < (C0.length : Int) := zdM;obtain ⟨ad4, e4, hx4⟩ := Kd.qbX (Kd.qar H2.o.1 HB.o) ((i - 1 : Nat) : Int) zdM q4
      cases e4
      rw [Int.toNat_natCast, ← JV, ← hm] at hx4;exact ⟨hx4, by rw [IntKind.wrap_i64, hm]; have := HM.o; omega, by rw [hm]; exact q4⟩)
     clear ht2 vW JV hm hlt hi
     go_upto_region 10 with fail
     refine qbc zdG zdG ?_;replace HX := z_ (qaq HX.o);replace HB := z_ (qa1 HB.o);replace HO := z_ (qa1 HO.o);have AE := z_ (show wr.drew.cell? (kM.add i) = some (.string t2) from hx2);have cC := z_ (show wr.drew.cell? (gH.add i) = some (.int .i64 n3) from hx3);clear hx2 hx3 d0 d1 d2 d3;generalize wr.drew = wd at HX HB HO AE cC JZ ⊢;obtain ⟨_, _, d2, d3⟩ := qbB HX.o;have l2 := fun (p_ : Later wd) => Later.cell p_ d2
     have l3 := fun (p_ : Later wd) => Later.cell p_ d3
     clear d2 d3;have l5 := fun (p_ : Later wd) => Later.cell p_ AE.o
     have l6 := fun (p_ : Later wd) => Later.cell p_ cC.o
     have HEX := z_ (show ∀ w', Below wd.heap.size wd w' → Below w.heap.size w w' ∧ Below w3.heap.size w3 w' from fun w' h => ⟨qaa HB.o h, qaa HO.o h⟩)
     cases hn : inB n3 0 49 with
     | false =>
      have HA := z_ (qe5 (HK.o.trans (by rw [hn]; rfl)) HI3.o);have HC := z_ (show qaY.f n3 0 49 = some false from by rw [qfu, hn]);clear hn
      repeat (first | go_big_quiet_step ((go_at_call 38; exact Calls.qbL (qaY.calls n3 0 49 false _ HC.o))) | quiet_step ((go_at_call 38; exact Calls.qbL (qaY.calls n3 0 49 false _ HC.o))))
      refine wpQuiet_nil ?_;rintro w6 ⟨⟨r9, hbL⟩, C6⟩;obtain rfl : w6 = r9 := C6;clear l2 l3 l5 l6
      go_wp2_with fail
      go_ret
      exact ⟨zcp, (HEX.o _ hbL).1⟩
     | true =>
      rw [hn, Bool.true_and] at HK;have HC := z_ (show qaY.f n3 0 49 = some true from by rw [qfu, hn]);clear hn
      cases hk : keyB t2 with
      | false =>
       have HA := z_ (qe5 (HK.o.trans (by rw [hk]; rfl)) HI3.o);have UF := z_ (show qaY.f (t2.size : Int) 1 30 = some false from by rw [qfu, key_in, hk]);clear hk
       repeat (first | go_big_quiet_step ((first | (go_at_call 38; with_reducible exact Calls.qbL (qaY.calls n3 0 49 true _ HC.o)) | (go_at_call 38; with_reducible exact Calls.qbL (qaY.calls (t2.size : Int) 1 30 false _ UF.o)))) | quiet_step ((first | (go_at_call 38; with_reducible exact Calls.qbL (qaY.calls n3 0 49 true _ HC.o)) | (go_at_call 38; with_reducible exact Calls.qbL (qaY.calls (t2.size : Int) 1 30 false _ UF.o)))))
       refine wpQuiet_nil ?_;rintro w6 ⟨⟨r9, hbL⟩, C6⟩;obtain rfl : w6 = r9 := C6;clear l2 l3 l5 l6
       go_wp2_with fail
       go_ret
       exact ⟨zcp, (HEX.o _ hbL).1⟩
      | true =>
       rw [hk, Bool.true_and] at HK;have UF := z_ (show qaY.f (t2.size : Int) 1 30 = some true from by rw [qfu, key_in, hk]);clear hk
       by_cases h0 : i = 0
       ·have HA := z_ (qe6 HN.o (HK.o.trans (by rw [decide_eq_true h0]; rfl)));have yn : decide (0 < (i : Int)) = false := decide_eq_false zdM;have w4_ : (0 < i) = False := eq_false zdM;clear h0
        repeat (first | go_big_quiet_step ((first | (go_at_call 38; with_reducible exact Calls.qbL (qaY.calls n3 0 49 true _ HC.o)) | (go_at_call 38; with_reducible exact Calls.qbL (qaY.calls (t2.size : Int) 1 30 true _ UF.o)))) | quiet_step ((first | (go_at_call 38; with_reducible exact Calls.qbL (qaY.calls n3 0 49 true _ HC.o)) | (go_at_call 38; with_reducible exact Calls.qbL (qaY.calls (t2.size : Int) 1 30 true _ UF.o)))))
        refine wpQuiet_nil ?_;rintro w6 ⟨⟨r9, hbL⟩, C6⟩;obtain rfl : w6 = r9 := C6;clear l2 l3 l5 l6;have k6 := z_ (HEX.o _ hbL).2;clear hbL
        go_wp2_with fail
        go_roundw
        case rel => exact ⟨i + 1, by have := HI3.o; omega, zdL, HA, k6⟩
        case measure => have := HI3.o; simp [intOf]; omega
       ·have yn : decide (0 < (i : Int)) = true := decide_eq_true zdM;have w4_ : (0 < i) = True := eq_true zdM;rw [decide_eq_false h0, Bool.false_or] at HK;obtain ⟨hx4, w5_, q4⟩ := JZ.o h0;have l7 := fun (p_ : Later wd) => Later.cell p_ hx4
        have p4 : (0 : Int) ≤ (m : Int) := zdM;clear h0 hx4
        cases hbl : Op.bytesLess t4.toList t2.toList with
        | true =>
         have HA := z_ (qe6 HN.o (HK.o.trans hbl))
         repeat (first | go_big_quiet_step ((first | (go_at_call 38; with_reducible exact Calls.qbL (qaY.calls n3 0 49 true _ HC.o)) | (go_at_call 38; with_reducible exact Calls.qbL (qaY.calls (t2.size : Int) 1 30 true _ UF.o)))) | quiet_step ((first | (go_at_call 38; with_reducible exact Calls.qbL (qaY.calls n3 0 49 true _ HC.o)) | (go_at_call 38; with_reducible exact Calls.qbL (qaY.calls (t2.size : Int) 1 30 true _ UF.o)))))
         refine wpQuiet_nil ?_;rintro w6 ⟨⟨r9, hbL⟩, C6⟩;obtain rfl : w6 = r9 := C6;clear l2 l3 l5 l6 l7;have k6 := z_ (HEX.o _ hbL).2;clear hbL
         go_wp2_with fail
         go_roundw
         case rel => exact ⟨i + 1, by have := HI3.o; omega, zdL, HA, k6⟩
         case measure => have := HI3.o; simp [intOf]; omega
        | false =>
         have HA := z_ (qe5 (HK.o.trans hbl) HI3.o)
         repeat (first | go_big_quiet_step ((first | (go_at_call 38; with_reducible exact Calls.qbL (qaY.calls n3 0 49 true _ HC.o)) | (go_at_call 38; with_reducible exact Calls.qbL (qaY.calls (t2.size : Int) 1 30 true _ UF.o)))) | quiet_step ((first | (go_at_call 38; with_reducible exact Calls.qbL (qaY.calls n3 0 49 true _ HC.o)) | (go_at_call 38; with_reducible exact Calls.qbL (qaY.calls (t2.size : Int) 1 30 true _ UF.o)))))
         refine wpQuiet_nil ?_;rintro w6 ⟨⟨r9, hbL⟩, C6⟩;obtain rfl : w6 = r9 := C6;clear l2 l3 l5 l6 l7
         go_wp2_with fail
         go_ret
         exact ⟨zcp, (HEX.o _ hbL).1⟩
theorem qjW (leaf : Bool) (ps : List S61) (ks : List ByteArray) (cs : List Int) (hl : cs.length < 9223372036854775807) : Ev (fun k => qed.f k leaf ps ks cs) (nodeB leaf ps ks cs) := ⟨0, fun _ _ => rfl⟩
theorem qjX (leaf : Bool) (ps : List S61) (ks : List ByteArray) (cs : List Int) (hl : cs.length < 9223372036854775807) : Ev (fun k => qec.f k leaf ps ks cs) (nodeB leaf ps ks cs) := ⟨0, fun _ _ => rfl⟩
def WkAt (w0 w : World) (g : Nat) (vh vs vp : Value) (s : List Bool) (p : List S61) : Prop :=
 w0.heap.size ≤ g ∧ w.heap[g]? = some (.cells #[vh, vs, vp] 105 (0, 0)) ∧ Kd.R Kd.bool 4 w w0.heap.size (fun _ => True) vs s ∧ Kd.R k61 61 w w0.heap.size (fun _ => True) vp p
theorem WkAt.below {w0 w w1 : World} {g : Nat} {vh vs vp : Value} {s : List Bool} {p : List S61} (h : WkAt w0 w g vh vs vp s p) (hb : Below w.heap.size w w1) : WkAt w0 w1 g vh vs vp s p :=
 ⟨h.1, qab h.2.1 hb, Kd.qa7 h.2.2.1 hb, Kd.qa7 h.2.2.2 hb⟩
theorem qg9 {t : Nat} (h : 4 ≠ t) : ∀ q, q ∈ 4 :: Kd.bool.E → q ≠ t := fun q hq => by
 have : q = 4 := zcw;rw [this]; exact h
theorem qha {t : Nat} (h : 61 ≠ t) : ∀ q, q ∈ 61 :: k61.E → q ≠ t := fun q hq => by
 have : q = 61 := by simpa [k61, Kd.iso, Kd.pair, Kd.string, Kd.scalar] using hq
 rw [this]; exact h
def KeptT (w w' : World) (g : Nat) : Prop := ∀ (k : Nat) (cells : Array Value) (t : TypeId), w.heap[k]? = some (.cells cells t (0, 0)) → k ≠ g → 4 ≠ t → 61 ≠ t → w'.heap[k]? = some (.cells cells t (0, 0))
theorem KeptT.refl (w : World) (g : Nat) : KeptT w w g := fun _ _ _ h _ _ _ => h
theorem KeptT.trans {w w1 w2 : World} {g : Nat} (h : KeptT w w1 g) (h' : KeptT w1 w2 g) : KeptT w w2 g := fun k c t a b d e => h' k c t (h k c t a b d e) b d e
theorem KeptT.below {w w1 w2 : World} {g : Nat} (h : KeptT w w1 g) (hb : Below w1.heap.size w1 w2) : KeptT w w2 g := fun k c t a b d e => qab (h k c t a b d e) hb
theorem qgB {w : World} {base : Nat} {ok : Nat → Prop} {gp n c : Nat} {p : List S61} (h : Kd.R k61 61 w base ok (.slice (some ⟨gp, 0, none⟩) n c) p) {j : Nat} (hj : j < p.length) : w.cell? ⟨gp, j * 2, none⟩ = some (.string (qdJ p j)) := by
 obtain ⟨ad, e1, hx0, _⟩ := qb1 (Kd.qbb h).2.2 (j : Int) zdM zdM
 cases e1
 rw [Int.toNat_natCast, add_plain] at hx0;exact hx0
theorem cells3 {W : World} {g : Nat} {t : TypeId} {x0 x1 x2 : Value} (h : W.heap[g]? = some (.cells #[x0, x1, x2] t (0, 0))) : W.cell? ⟨g, 0, none⟩ = some x0 ∧ W.cell? ⟨g, 1, none⟩ = some x1 ∧ W.cell? ⟨g, 2, none⟩ = some x2 ∧ W.frozen? ⟨g, 2, none⟩ = false :=
 ⟨qac h 0, qac h 1, qac h 2, qau h 2⟩
theorem qjj (ns : List S80) (w0 : World) (Ah : Option Addr) (ch : Nat) (hh : Kd.C k80 w0 Ah ns.length ns) (hl : ns.length = 50) (hbd : qfe ns) : ∀ (n k : Nat) (d : Int) (s : List Bool) (p : List S61) (w : World) (g : Nat) (vs vp : Value), k < 50 → 0 ≤ d → d + (n : Int) = 21 → WI 50 150 s p → Below w0.heap.size w0 w → WkAt w0 w g (.slice Ah ns.length ch) vs vp s p →
  Calls Tryz.prog 93 #[.pointer (some ⟨g, 0, none⟩), .int .i64 (k : Int), .int .i64 d] w fun e w' => e = .returned (.bool (walkW ns n k s p).1) ∧ Below w0.heap.size w0 w' ∧ KeptT w w' g ∧ ((walkW ns n k s p).1 = true → ∃ vs' vp' : Value, WkAt w0 w' g (.slice Ah ns.length ch) vs' vp' (walkW ns n k s p).2.1 (walkW ns n k s p).2.2) := by
 have hu := Tryz.underlying80;have hu2 := Tryz.underlying105;have hu3 := Tryz.underlying29;intro n
 induction n with
 | zero =>
  intro k d s p w g vs vp hk hd0 hd hI hB hW;have HB := z_ hB;have c1 : decide (20 < d) = true := decide_eq_true zdM;clear hI hB hW hd hd0 hh hbd
  go_enter Tryz.func93, Tryz.ntmps93
  go_wp2_with fail
  go_ret
  exact ⟨rfl, HB.o, KeptT.refl _ _, fun h => zdJ⟩
 | succ n ih =>
  intro k d s p w g vs vp hk hd0 hd hI hB hW;obtain ⟨hg, hb, hs, hp⟩ := hW;have c1 : decide (20 < d) = false := decide_eq_false zdM;have hlen := hI.len;obtain ⟨gs, cs, rfl, hgs, _, scells, hsc⟩ := Kd.qcS hs zdM;obtain ⟨hx0, hx1⟩ := Kd.qc9 false hs (k : Int) zdM zdM;rw [Int.toNat_natCast] at hx0 hx1;obtain ⟨d0, d1, d2, _⟩ := cells3 hb;have p1 : 0 ≤ (k : Int) := zdM;have q1 : (k : Int) < (s.length : Int) := zdM;have q2 : (k : Int) < (ns.length : Int) := zdM
  cases hsk : rdOf false s (k : Int) with
  | true =>
   rw [hsk] at hx0;have hgd : walkW ns (n + 1) (k : Int) s p = (false, s, p) := by
    unfold walkW;rw [if_neg (fun h => by have := h.2.2.1; rw [hsk] at this; cases this)]
   rw [hgd];have HB := z_ hB;clear hI hB hs hp hb hsc hgs hh ih hd hd0 hgd hsk hlen d0 d2 hl
   go_enter Tryz.func93, Tryz.ntmps93
   go_wp2_with fail
   go_ret
   exact ⟨rfl, HB.o, KeptT.refl _ _, fun h => zdJ⟩
  | false =>
   rw [hsk] at hx0;obtain ⟨W1, hW1⟩ : ∃ W1, W1 = w.setCell ⟨gs, k, none⟩ (.bool true) := ⟨_, rfl⟩
   have hB1 : Below w0.heap.size w0 W1 := hW1 ▸ hB.setCell (p := ⟨gs, k, none⟩) hgs _;have hb1 : W1.heap[g]? = some (.cells #[.slice Ah ns.length ch, .slice (some ⟨gs, 0, none⟩) s.length cs, vp] 105 (0, 0)) := hW1 ▸ qbD hb (qhO hb hsc zdK) _;have hs1 : Kd.R Kd.bool 4 W1 w0.heap.size (fun _ => True) (.slice (some ⟨gs, 0, none⟩) s.length cs) (s.set k true) := hW1 ▸ Kd.qgJ hs (k : Int) true;have hp1 : Kd.R k61 61 W1 w0.heap.size (fun _ => True) vp p := hW1 ▸ Kd.qgF hp hsc (qha zdK) _ _;have hK1 : KeptT w W1 g := fun kk cells t h1 _ h2 _ => hW1 ▸ qbD h1 (qhO h1 hsc (Ne.symm h2)) _
   obtain ⟨adh, B1, b1, B2, b2, B3, b3, e1, n0, n1, n2, n3, l1, C1, l2, C2, l3, C3⟩ := qdq hh (k : Int) p1 q2
   cases e1
   obtain ⟨x, hx⟩ : ∃ x, x = qaC ns (k : Int) := ⟨_, rfl⟩
   rw [← hx] at n0 n1 n2 n3 l1 C1 l2 C2 l3 C3;rw [Int.toNat_natCast] at n0 n1 n2 n3;replace n0 := (hB1.cell (World.block_lt_of_cell? w0 _ n0)).trans n0;replace n1 := (hB1.cell (World.block_lt_of_cell? w0 _ n1)).trans n1;replace n2 := (hB1.cell (World.block_lt_of_cell? w0 _ n2)).trans n2;replace n3 := (hB1.cell (World.block_lt_of_cell? w0 _ n3)).trans n3;obtain ⟨jS, dd1, bS, _⟩ := cells3 hb1;have hmax : x.f3.length < 9223372036854775807 := zbq;obtain ⟨ko, hko⟩ := Ev.rounds (qjX x.f0 x.f1 x.f2 x.f3 hmax);have hfo := qja x.f0 x.f1 x.f2 x.f3;have HKO := z_ (show qec.f ko x.f0 x.f1 x.f2 x.f3 = some (nbN x) from hko);have HFO := z_ (show qct.f x.f0 x.f1 x.f2 x.f3 = some (fbN x) from hfo);obtain ⟨W2, hW2⟩ : ∃ W2, W2 = W1.alloc (.cells #[.bool x.f0, .slice B1 x.f1.length b1, .slice B2 x.f2.length b2, .slice B3 x.f3.length b3] 80 (0, 0)) := ⟨_, rfl⟩
   have hsz : g < W1.heap.size := qbo hb1;have hB2 : Below w0.heap.size w0 W2 := hW2 ▸ qaA hB1 _;have hWK : WkAt w0 W2 g (.slice (some adh) ns.length ch) (.slice (some ⟨gs, 0, none⟩) s.length cs) vp (s.set k true) p := hW2 ▸ ⟨hg, qam hb1 _, Kd.qbm hs1 _, Kd.qbm hp1 _⟩;have hK2 : KeptT w W2 g := fun kk cells t h1 h2 h3 h4 => hW2 ▸ qam (hK1 kk cells t h1 h2 h3 h4) _
   have hN2 : W2.heap[W1.heap.size]? = some (.cells #[.bool x.f0, .slice B1 x.f1.length b1, .slice B2 x.f2.length b2, .slice B3 x.f3.length b3] 80 (0, 0)) := hW2 ▸ qbz W1 _;have HI := z_ hI;have HB := z_ hB2;have HW := z_ hWK;have HK := z_ hK2;have HN := z_ hN2;have HX := z_ hx;have HLL := z_ hlen;have cG := z_ (And.intro l1 C1);have UF := z_ (And.intro l2 C2);have sJ := z_ (And.intro l3 C3);have HH := z_ hh;have HIH := z_ ih;have HD := z_ (And.intro hd hd0);have HG := z_ hsz;have HSK := z_ hsk;have HL := z_ hl;have HBD := z_ hbd;clear hI hB hs hp hb hsc hgs hh ih hd hd0 hsk hlen hl hbd hB1 hb1 hs1 hp1 hK1 hx C1 C2 C3 l1 l2 l3 hg hko hfo hB2 hWK hK2 hN2 hsz hmax
   go_enter Tryz.func93, Tryz.ntmps93
   go_upto_region 4 with fail
   rw [← hW1];clear hW1 d0 d1 d2 hx0 hx1
   go_upto_region 5 with fail
   rw [← hW2];clear hW2 n0 n1 n2 n3 jS dd1 bS;obtain ⟨m0, m1, m2, m3⟩ := qbB HN.o
   go_wp2_with fail
   refine (qec.calls (J3 := Kd.qar cG.o.2 HB.o) (I3 := cG.o.1) (V2 := Kd.qar UF.o.2 HB.o) (F3 := UF.o.1) (u3 := Kd.qar sJ.o.2 HB.o) (D3 := sJ.o.1) (h := HKO.o)).mono ?_;rintro e W3 ⟨rfl, hb3⟩;have HB3 := z_ (qaa HB.o hb3);have HW3 := z_ (HW.o.below hb3);have EB := z_ (HK.o.below hb3);have OG := z_ (qab HN.o hb3);clear hb3 m0 m1 m2 m3 HB HW HK HN;obtain ⟨m0, m1, m2, m3⟩ := qbB OG.o
   cases hnb : nbN x with
   | false =>
    have hgd : walkW ns (n + 1) (k : Int) s p = (false, s, p) := by
     unfold walkW;rw [if_neg (fun h => zbf)]
    have HGD := z_ hgd;clear hnb hgd
    go_wp2_with fail
    go_ret
    rw [HGD.o];exact ⟨rfl, HB3.o, EB.o, fun h => zdJ⟩
   | true =>
   go_wp2_with fail
   refine (qct.calls (J3 := Kd.qar cG.o.2 HB3.o) (I3 := cG.o.1) (V2 := Kd.qar UF.o.2 HB3.o) (F3 := UF.o.1) (u3 := Kd.qar sJ.o.2 HB3.o) (D3 := sJ.o.1) (h := HFO.o)).mono ?_;rintro e W4 ⟨rfl, hb4⟩;have cB := z_ (qaa HB3.o hb4);have lG := z_ (HW3.o.below hb4);have iO := z_ (EB.o.below hb4);have xk := z_ (qab OG.o hb4);clear hb4 m0 m1 m2 m3 HB3 HW3 EB OG;obtain ⟨m0, m1, m2, m3⟩ := qbB xk.o;obtain ⟨jS, dd1, bS, QV⟩ := cells3 lG.o.2.1
   cases hfb : fbN x with
   | true =>
    have hgd : walkW ns (n + 1) (k : Int) s p = (false, s, p) := by
     unfold walkW;rw [if_neg (fun h => zbg)]
    have HGD := z_ hgd;clear hfb hgd
    go_wp2_with fail
    go_ret
    rw [HGD.o];exact ⟨rfl, cB.o, iO.o, fun h => zdJ⟩
   | false =>
   have hgd : walkW ns (n + 1) (k : Int) s p = kidsW (walkW ns n) x.f3 x.f2 (s.set k true) (p ++ x.f1) := by
    unfold walkW;rw [if_pos (show goodW ns (k : Int) s from ⟨p1, q2, HSK.o, by rw [← HX.o]; exact hnb, by rw [← HX.o]; exact hfb⟩), ← HX.o, Int.toNat_natCast]
   cases hlf : x.f0 with
   | true =>
    obtain ⟨z3, z2, z1, z4, _⟩ := qdK hnb hfb hlf;rw [z3, z2, show ∀ f s p, kidsW f [] [] s p = (true, s, p) from fun _ _ _ => rfl] at hgd;have HGD := z_ hgd;have HZ := z_ (And.intro z1 z4);have hroom := HI.o.room;have HRM := z_ (show p.length ≤ 150 from zdM);rw [hlf] at m0;obtain ⟨vpA, vpc, ev, _, _⟩ := Kd.qa4 lG.o.2.2.2;subst ev;clear hnb hfb hgd z1 z2 z3 z4 hroom hlf;have hdr := qaq lG.o.2.1;have hnr := qaq xk.o;have r2 : W4.drew.cell? ⟨g, 2, none⟩ = some (.slice vpA p.length vpc) := qac hdr 2;have k1 : W4.drew.cell? ⟨W1.heap.size, 1, none⟩ = some (.slice B1 x.f1.length b1) := qac hnr 1;have HDR := z_ hdr;have HNR := z_ hnr;clear hdr hnr jS dd1 bS QV m1 m2 m3
    go_upto_region 8 with fail
    clear m0
    go_region_law (refine Kd.qdG k61 (w0 := w0) w0.heap.size zdO (.tmp 49) (.tmp 51) 45 61 (.agg #[.string ⟨#[]⟩, .string ⟨#[]⟩]) 32 rfl Tryz.underlying45 qgh rfl zdK zdM (.slice vpA p.length vpc) p x.f1 _ _ _ (fun _ => True) (fun _ => False) rfl rfl ?aO ?aC (fun _ _ h => h) (fun _ h => h.elim) (fun _ _ => trivial) ?aB ?aS ?aL ?_; (case aO => exact Kd.qbu lG.o.2.2.2); (case aC => exact Kd.qar cG.o.2 (qba cB.o)); (case aB => exact qba cB.o); (case aS => exact cB.o.size); (case aL => have := HZ.o; have := HRM.o; omega); intro v1 w1 ho1 hb1 hg1 ZG; obtain ⟨gc, cc, rfl, _⟩ := Kd.qcS ho1 (by rw [List.length_append]; have := HZ.o; omega); have hbk := qbe HDR.o hg1 (Kd.R_ne (Kd.qbu lG.o.2.2.2) HDR.o zdK); have y2 : w1.cell? ⟨g, 2, none⟩ = some (.slice vpA p.length vpc) := qac hbk 2; have y3 := qau hbk 2; have L3 := z_ hb1; have GX := z_ ho1; have KQ := z_ hbk; have SG := z_ (Kd.R_over (Kd.qbu lG.o.2.2.1) (Kd.qbu lG.o.2.2.2) (qg9 zdK) hg1); have bE := z_ (show KeptT w w1 g from fun kk cells t h1 h2 h3 h4 => qbe (qaq (iO.o kk cells t h1 h2 h3 h4)) hg1 (Kd.R_ne (Kd.qbu lG.o.2.2.2) (qaq (iO.o kk cells t h1 h2 h3 h4)) h4)); clear ho1 hb1 hg1 ZG hbk)
    all_goals
     go_wp2_with fail
     go_ret
     rw [HGD.o];refine ⟨rfl, L3.o.setCell (p := ⟨g, 2, none⟩) lG.o.1 _, fun kk cells t h1 h2 h3 h4 => qbD (bE.o kk cells t h1 h2 h3 h4) h2 _, fun _ => ⟨_, _, lG.o.1, qfk KQ.o 2 _, Kd.qgF SG.o KQ.o (qg9 zdK) _ _, ?_⟩⟩;have hfin := Kd.qgF GX.o KQ.o (qha zdK) 2 (Value.slice (some ⟨gc, 0, none⟩) (p.length + x.f1.length) cc);rw [List.length_append] at hfin;exact hfin
   | false =>
    obtain ⟨z1, z2, z3, z4, z5⟩ := qdi hnb hfb hlf;rw [z1, List.append_nil] at hgd;rw [hlf] at m0;have HGD := z_ hgd;have HZ := z_ (And.intro z2 (And.intro z3 (And.intro z4 z5)));have HI4 := z_ (show WI 50 150 (s.set k true) p from by
     have hc := qg0 (s := s) (i := k) (by have := HLL.o; omega) zaP;exact ⟨by rw [List.length_set]; exact HLL.o, by have := HI.o.room; omega, HI.o.good⟩)
    have hz3 : x.f3.length ≤ 4 := z3;clear hnb hfb hgd z1 z2 z3 z4 z5 hlf jS dd1 bS QV
    go_upto_region 11 with fail
    go_loopw [58] (fun v58 wr => ∃ (i : Nat) (S : List Bool) (P : List S61) (vs vp : Value), i ≤ x.f3.length ∧ v58 = .int .i64 (i : Int) ∧ Aside0 (WI 50 150 S P) ∧ Aside0 (WkAt w0 wr g (.slice (some adh) ns.length ch) vs vp S P) ∧ Aside0 (Below w0.heap.size w0 wr) ∧ Aside0 (KeptT w wr g) ∧ Aside0 (wr.heap[W1.heap.size]? = some (.cells #[.bool x.f0, .slice B1 x.f1.length b1, .slice B2 x.f2.length b2, .slice B3 x.f3.length b3] 80 (0, 0))) ∧ Aside0 (kidsW (walkW ns n) (x.f3.drop i) (x.f2.drop i) S P = kidsW (walkW ns n) x.f3 x.f2 (s.set k true) p)) (fun v58 _ => x.f3.length - (intOf v58).toNat)
    case atStart => exact ⟨0, s.set k true, p, _, _, zdM, rfl, HI4, lG, cB, iO, xk, ⟨rfl⟩⟩
    case round =>
     clear HI4 lG cB iO xk m0 m1 m2 m3 HI HSK HFO HKO c1 hk;obtain ⟨i, S, P, vs, vp', hi, rfl, HIr, HWr, HBr, HKr, HNr, HEr⟩ := hrel
     by_cases hlt : i < x.f3.length
     ·have c5 : decide ((i : Int) < (x.f3.length : Int)) = true := decide_eq_true zdM;have i0 : 0 ≤ (i : Int) := zdM;have i1 : (i : Int) < (x.f3.length : Int) := zdM;have i2 : (i : Int) < (x.f2.length : Int) := by have := HZ.o.2.2.1; omega
      have hkid := HZ.o.2.2.2 i hlt;obtain ⟨kn, hkn⟩ : ∃ kn : Nat, rd x.f3 (i : Int) = (kn : Int) := ⟨(rd x.f3 (i : Int)).toNat, zdM⟩
      rw [hkn] at hkid;obtain ⟨gH, e3, k3⟩ := Kd.qdu sJ.o.2 (i : Int) i0 i1
      cases e3
      rw [Int.toNat_natCast, hkn] at k3;obtain ⟨kM, e2, k2⟩ := Kd.qbX UF.o.2 (i : Int) i0 i2
      cases e2
      obtain ⟨m, hm⟩ : ∃ m, m = rdOf ByteArray.empty x.f2 (i : Int) := ⟨_, rfl⟩
      rw [Int.toNat_natCast, ← hm] at k2;have hd3 : x.f3.drop i = (kn : Int) :: x.f3.drop (i + 1) := by
       rw [List.drop_eq_getElem_cons hlt, ← hkn];unfold rd;simp [List.getD_eq_getElem?_getD, hlt]
      have hlt2 : i < x.f2.length := zdM;have hd2 : x.f2.drop i = m :: x.f2.drop (i + 1) := by
       rw [List.drop_eq_getElem_cons hlt2, hm];unfold rdOf;simp [List.getD_eq_getElem?_getD, hlt2]
      have K3 := z_ k3;have K2 := z_ k2;replace k3 := zcm_ HBr.o k3;obtain ⟨vA, vc, ev, _, _⟩ := Kd.qa4 HWr.o.2.2.2;subst ev;obtain ⟨jS, dd1, bS, QV⟩ := cells3 HWr.o.2.1;have hroom := HIr.o.room;have hpl : P.length ≤ 150 := zdM;have hw1 : IntKind.i64.wrap (d + 1) = d + 1 := by have := HD.o; rw [IntKind.wrap_i64]; omega
      have HWR := z_ hw1;obtain ⟨rb, S2, P2, hres⟩ : ∃ rb S2 P2, walkW ns n (kn : Int) S P = (rb, S2, P2) := ⟨_, _, _, rfl⟩
      have hE := HEr.o;rw [hd3, hd2, qe8, hres] at hE;have hinv := (qg1 (M := 150) ns HL.o n (kn : Int) S P HIr.o).1;rw [hres] at hinv;have HI2 := z_ hinv;have HIC := z_ (fun n0 : Nat => HIH.o kn (d + 1) S P (wr.drewN n0) g vs _ zdM zdm zdm HIr.o (qaG HBr.o n0) (HWr.o.below (qaG (Below.refl _ _) n0)));have HRS := z_ hres;have hgn : W1.heap.size ≠ g := zdj;have HGN := z_ hgn
      cases rb with
      | false =>
       rw [if_neg (fun h => by cases h.1)] at hE;have HF := z_ (show (walkW ns (n + 1) (k : Int) s p).1 = false from by rw [HGD.o, ← hE]);clear hE hinv hres hd3 hd2 hkn hm hroom hgn hlt2 hkid k2 HI2
       go_upto_region 14 with fail
       refine qcE 4 18 zdG rfl zdG ?_;dsimp only [List.take]
       repeat (first | go_big_quiet_step (fail) | quiet_step (fail))
       refine wpQuiet_nil ?_;rintro _ ⟨n0, rfl⟩;have cc := HIC.o n0;rw [HRS.o] at cc;have CC := z_ cc;have HKD := z_ (KeptT.below HKr.o (qaG (Below.refl _ wr) n0));have HND := z_ (qas HNr.o n0);clear k3 jS dd1 bS QV cc;refine qlK (i := 4) rfl zdG (fun K hK => ?_);go_simp
       go_at_call 93
       refine CC.o.mono ?_;rintro e w1 ⟨rfl, hb1, hk1, hst⟩;have L3 := z_ hb1;have bE := z_ hk1;clear hb1 hk1 hst;dsimp only;refine hK.o _ _ ?_;clear hK
       (try simp only [Act.put, List.setIfInBounds_toArray, List.set_cons_zero, List.set_cons_succ])
       refine wp_block (k := 5) (m := 17) (r := 0) zdG ⟨0, rfl⟩ ?_;dsimp only [List.drop, List.take]
       repeat (first | go_big_quiet_step (fail) | quiet_step (fail))
       refine wpQuiet_nil ?_;rintro _ ⟨n1, rfl⟩;refine wpAny_done zdG ?_ _
       go_wp2_with fail
       go_ret
       rw [HF.o];exact ⟨rfl, qaG L3.o n1, (HKD.o.trans bE.o).below (qaG (Below.refl _ _) n1), fun h => zdJ⟩
      | true =>
       have hmore := qhW ns n (kn : Int) S P (by rw [hres]);rw [hres] at hmore;have HMO := z_ (show P.length < P2.length from hmore);obtain ⟨ky, hky⟩ : ∃ ky, ky = qdJ P2 P.length := ⟨_, rfl⟩
       have HKY := z_ hky.symm;have Ec := z_ (And.intro i0 i2);obtain ⟨be, hbe⟩ : ∃ be, (ky.toList == m.toList) = be := ⟨_, rfl⟩
       have HEQ := z_ hbe;have HE := z_ hE;clear hE hinv hres hd3 hd2 hkn hm hroom hgn hlt2 hkid k2 hmore hky hbe
       go_upto_region 14 with fail
       refine qcE 4 18 zdG rfl zdG ?_;dsimp only [List.take]
       repeat (first | go_big_quiet_step (fail) | quiet_step (fail))
       refine wpQuiet_nil ?_;rintro _ ⟨n0, rfl⟩;have cc := HIC.o n0;rw [HRS.o] at cc;have CC := z_ cc;have HKD := z_ (KeptT.below HKr.o (qaG (Below.refl _ wr) n0));have HND := z_ (qas HNr.o n0);clear k3 jS dd1 bS QV cc;refine qlK (i := 4) rfl zdG (fun K hK => ?_);go_simp
       go_at_call 93
       refine CC.o.mono ?_;rintro e w1 ⟨rfl, hb1, hk1, hst⟩;have L3 := z_ hb1;have bE := z_ hk1;obtain ⟨vs2, am, hw2⟩ := hst rfl;obtain ⟨gp, cp, bH, _⟩ := Kd.qcS hw2.2.2.2 (by have := HMO.o; show 0 < P2.length; omega);subst bH;have yR := z_ hw2;obtain ⟨_, _, e2⟩ := cells3 hw2.2.1;have y1 : (P.length : Int) < (P2.length : Int) := by have := HMO.o; omega
       have y0 : 0 ≤ (P.length : Int) := zdM;have q1 := qgB hw2.2.2.2 (j := P.length) HMO.o;rw [HKY.o] at q1;have q2 := qac (hk1 _ _ _ HND.o HGN.o zdK zdK) 2;simp only [List.getElem?_toArray, List.getElem?_cons_zero, List.getElem?_cons_succ] at q2;obtain ⟨i0, i2⟩ := Ec.o;have q3 := (hb1.cell (World.block_lt_of_cell? w0 _ K2.o)).trans K2.o;have hbe := HEQ.o;clear hb1 hk1 hst hw2;dsimp only;refine hK.o _ _ ?_;clear hK
       (try simp only [Act.put, List.setIfInBounds_toArray, List.set_cons_zero, List.set_cons_succ])
       refine wp_block (k := 5) (m := 17) (r := 0) zdG ⟨0, rfl⟩ ?_;dsimp only [List.drop, List.take]
       repeat (first | go_big_quiet_step (fail) | quiet_step (fail))
       refine wpQuiet_nil ?_;rintro _ ⟨n1, rfl⟩;refine wpAny_done zdG ?_ _
       cases be with
       | true =>
        have HE2 := z_ (show kidsW (walkW ns n) (x.f3.drop (i + 1)) (x.f2.drop (i + 1)) S2 P2 = kidsW (walkW ns n) x.f3 x.f2 (s.set k true) p from by
         have h := HE.o;rw [if_pos ⟨rfl, HMO.o, by show (qdJ P2 P.length).toList = _; rw [HKY.o]; exact beq_iff_eq.1 HEQ.o⟩] at h;exact h)
        go_wp2_with fail
        go_roundw
        case rel => exact ⟨i + 1, S2, P2, _, _, zdM, zdL, HI2, ⟨yR.o.below (qaG (Below.refl _ _) n1)⟩, ⟨qaG L3.o n1⟩, ⟨(HKD.o.trans bE.o).below (qaG (Below.refl _ _) n1)⟩, ⟨qas (bE.o _ _ _ HND.o HGN.o zdK zdK) n1⟩, HE2⟩
        case measure => simp [intOf]; omega
       | false =>
        have HF := z_ (show (walkW ns (n + 1) (k : Int) s p).1 = false from by
         have h := HE.o;rw [if_neg (fun h => by have h2 : (qdJ P2 P.length).toList = m.toList := h.2.2; rw [HKY.o] at h2; have h3 := HEQ.o; rw [h2, beq_self_eq_true] at h3; cases h3)] at h;rw [HGD.o, ← h])
        go_wp2_with fail
        go_ret
        rw [HF.o];exact ⟨rfl, qaG L3.o n1, (HKD.o.trans bE.o).below (qaG (Below.refl _ _) n1), fun h => zdJ⟩
     ·have he : i = x.f3.length := zdM;have c5 : decide ((i : Int) < (x.f3.length : Int)) = false := decide_eq_false zdM;have hE := HEr.o;rw [he, List.drop_length, qet] at hE;have HF := z_ (show walkW ns (n + 1) (k : Int) s p = (true, S, P) from by rw [HGD.o, ← hE]);clear hE he
      go_wp2_with fail
      go_ret
      rw [HF.o];exact ⟨rfl, HBr.o, HKr.o, fun _ => ⟨_, _, HWr.o⟩⟩
end Go.Proofs.YtcdokcpiahbejaaGreat.X
