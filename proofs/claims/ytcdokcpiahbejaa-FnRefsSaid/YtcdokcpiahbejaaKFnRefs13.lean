import Derived.Test.YtcdokcpiahbejaaKFnRefs12
import Derived.Outline
namespace Go.Proofs.Ytcdokcpiahbejaa.X
open Go.RowKit Go.Proofs.YtcdokcpiahbejaaW.PrintWords Go.Proofs.YtcdokcpiahbejaaW.PrintLast Go.Proofs.YtcdokcpiahbejaaW.PrintMore
attribute [local go_sem] qax qay qaz qat qau qaJ qaK qam qan qav qaw
set_option linter.unusedVariables false
set_option linter.unusedSimpArgs false
def sChg.T6 : Bool × List (List Nat × List Nat) := (true, [([], []), ([0], [0]), ([1], [1]), ([2], [2]), ([3], [3]), ([], []), ([], []), ([6], [6]), ([4, 5, 0, 1, 2, 3, 4, 5, 6, 7], [4, 5]), ([8, 7, 7, 0, 1, 2, 3, 4, 5, 6, 7], [7, 8])])
def sChg.B6 : List Nat := [0, 1, 3, 7, 15, 0, 0, 64, 255, 511]
theorem sChg.tab6 : rtab .any (opsOf Try.f39 6) = sChg.T6 := zbS
theorem sChg.bits6 : qbv sChg.T6.2 sChg.B6 = true := zbS
theorem qiY {ns ms : List S75} {keep : List Bool} (hl : ns.length = 50) (h : qcE ns noneW keep 50 ms) : ms = onlyN ns keep := by
 refine List.ext_getElem? fun j => ?_
 unfold onlyN;rw [List.getElem?_map]
 by_cases hj : j < 50
 ·have h1 := h.2 j hj;rw [List.getElem?_range hj, Option.map_some];have e1 : ms[j]? = some (ms.getD j z75) := by rw [List.getD_eq_getElem?_getD, List.getElem?_eq_getElem (by rw [h.1]; exact hj)]; rfl
  rw [e1, h1]
  congr 1
  by_cases hu : keep.getD j false = true
  ·rw [if_pos hu, if_neg];rintro ⟨_, _, h4⟩;rw [hu] at h4
   cases h4
  ·rw [if_neg hu, if_pos];exact ⟨hj, qd6 j, by simpa using hu⟩
 ·rw [List.getElem?_eq_none (by rw [h.1]; omega), List.getElem?_eq_none (by rw [List.length_range]; omega)];rfl
set_option linter.unusedVariables false
set_option maxHeartbeats 16000000 in
set_option maxRecDepth 100000 in
theorem schg (key value : ByteArray) (drop : Bool) (w : World) (Ah : Option Addr) (ch : Nat) (hs : List S75) (root : Int) (Ak : Option Addr) (ck : Nat) (keep : List Bool) (hh : Kd.C k75 w Ah hs.length hs) (hhc : hs.length ≤ ch) (hk : Kd.C Kd.bool w Ak keep.length keep) (hkc : keep.length ≤ ck) (hl : hs.length = 50) (hkl : keep.length = 50) (ht : TinyN hs) (d : Nat) (ps : List S77) (pg : List Nat) (hT : qcW hs d root ps pg) (hu : ∀ i, i ∈ pg → qbj keep i) (hd : d ≤ 20) (hbt : (qbX hs root keep (dopB drop key value) key [⟨key, value⟩]).2.2.2 = false → ∃ e ps' pg', e ≤ 22 ∧ PD (TrD (qbX hs root keep (dopB drop key value) key [⟨key, value⟩]).2.1 e) (qbX hs root keep (dopB drop key value) key [⟨key, value⟩]).1 ps' pg') :
  Calls Try.prog 39 #[.agg #[.slice Ah hs.length ch], .int .i64 root, .slice Ak keep.length ck, .string key, .string value, .bool drop] w fun e w' => ∃ v, e = .returned (.tuple #[.agg #[v], .int .i64 (qbC hs root keep (dopB drop key value) key [⟨key, value⟩]).2.1, .bool (qbC hs root keep (dopB drop key value) key [⟨key, value⟩]).2.2]) ∧ ((qbC hs root keep (dopB drop key value) key [⟨key, value⟩]).2.2 = false → v = .slice Ah hs.length ch) ∧ ((qbC hs root keep (dopB drop key value) key [⟨key, value⟩]).2.2 = true → Kd.S k75 75 w' w.heap.size (fun _ => True) v (qbC hs root keep (dopB drop key value) key [⟨key, value⟩]).1) ∧ Below w.heap.size w w' := by
 have hun := Try.underlying75;have hub := Try.underlying111;have huh := Try.underlying25;have hup := Try.underlying118;have huq := Try.underlying77;obtain ⟨gh, hgh⟩ : ∃ gh, gh = w.heap.size := ⟨_, rfl⟩
 obtain ⟨W1, hW1⟩ : ∃ W1, W1 = w.alloc (Obj.cells #[.slice Ah hs.length ch] 25 (0, 0)) := ⟨_, rfl⟩
 obtain ⟨gr, hgr⟩ : ∃ gr, gr = W1.heap.size := ⟨_, rfl⟩
 have rP : gr = w.heap.size + 1 := by rw [hgr, hW1]; exact Array.size_push _
 obtain ⟨W2, hW2⟩ : ∃ W2, W2 = W1.alloc (Obj.cells #[.slice none 0 0] 25 (0, 0)) := ⟨_, rfl⟩
 have qO : Below w.heap.size w W1 := by rw [hW1]; exact qas (Below.refl _ _) _
 have hY2 : Below W1.heap.size W1 W2 := zbr;have hX1 : W1.heap[gh]? = some (.cells #[.slice Ah hs.length ch] 25 (0, 0)) := by rw [hW1, hgh]; exact qcb w _
 have HXH := z_ (qap hX1 hY2);have HXR := z_ (show W2.heap[gr]? = some (.cells #[.slice none 0 0] 25 (0, 0)) from by rw [hW2, hgr]; exact qcb W1 _);have HYW := z_ (qad qO hY2);have HH2 := z_ (Kd.qaO hh HYW.o);have HK := z_ hk;have HKC := z_ hkc;have HHC := z_ hhc;have HL := z_ hl;have HKL := z_ hkl;have HTN := z_ ht;have HTR := z_ (And.intro hT (And.intro hu hd));have HGR := z_ (show w.heap.size ≤ gr from zbV);have HON := z_ (qeh z75 zbT);have HBT := z_ hbt;clear hbt;have HOWN := z_ (own_is hs zbV ht);clear hh hhc hk hkc hl hkl ht hT hu hd qO hY2 hX1
 go_enter Try.func39, Try.ntmps39
 go_upto_region 1 with fail
 rw [← hW1, ← hW2, ← rP, ← hgh];clear hW1 hW2 rP hgr hgh;have hc0 := qac HXH.o 0;simp only [List.getElem?_toArray, List.getElem?_cons_zero] at hc0
 go_wp2_with fail
 refine (qa1.calls _ Ah ch hs hs W2 HH2.o HHC.o HOWN.o).mono ?_;rintro e w1 ⟨v0, rfl, hS, hb1⟩;obtain ⟨gn, cn, rfl, hgn, _⟩ := Kd.qii hS (by have := HL.o; omega);have kM := z_ hS;have kH := z_ (qad HYW.o hb1);have cO := z_ (qap HXH.o hb1);have PN := z_ (qap HXR.o hb1);have q7 := z_ (Kd.qaO HK.o kH.o);have HW2 := z_ HYW.o.size;clear hS hb1 hc0 HXH HXR HH2
 go_wp2_with (first | ((with_reducible refine qaG (N := 21) rfl ?_); refine Kd.qcD Kd.bool w.heap.size 4 zbX (N := 21) zbX (xs := ([] : List Bool)) (inner := []) (ok := fun _ => True) (okp := fun _ => True) zbv ?hp (fun _ hk => hk) trivial kH.o kH.o.size zbW ?_; (case hp => exact (Reps.none _ _)); intro v2 w2 ho2 hb2 F5 Z1; have hU := z_ (Below.grown (Below.refl _ _) F5 (Nat.le_refl _) (fun k hk => by cases hk)); clear F5 Z1; have PT := z_ ho2; have HB2 := z_ hb2; clear ho2 hb2) | ((with_reducible refine qbs (b := .append) (xs := #[.tmp 21, .tmp 22]) rfl ?_); at_builtin; go_must (refine Kd.qbJ Kd.bool (w0 := w) w.heap.size rfl (.tmp 21) (.tmp 22) 55 4 (.bool false) 1 rfl Try.underlying55 info4 rfl zbT zbV v2 [] keep _ _ _ (fun _ => True) (fun _ => False) rfl rfl ?aO ?aR (fun _ _ h => h) (fun _ h => h.elim) (fun _ _ => trivial) ?aB ?aS ?aL ?_; (case aR => exact Kd.qaO q7.o hU.o); (case aB => exact HB2.o); (case aO => exact PT.o); (case aS => exact HB2.o.size); (case aL => have := HKL.o; (try simp only [List.length_nil]); omega); intro v3 w3 ho3 hb3 hg3 Kg; have FF : Kd.R Kd.bool 4 w3 w.heap.size (fun _ => True) v3 keep := ho3; obtain ⟨gu, cu, rfl, hgu, _⟩ := Kd.qcJ FF (by have := HKL.o; omega); have iU := z_ FF; have HB3 := z_ hb3; have Vc := z_ hg3; clear ho3 FF hb3 Kg hg3 hgu)))
 obtain ⟨g, hg⟩ : ∃ g, g = w3.heap.size := ⟨_, rfl⟩
 obtain ⟨W4, Gb⟩ : ∃ W4, W4 = w3.alloc (Obj.cells #[.slice (some ⟨gn, 0, none⟩) hs.length cn, .slice (some ⟨gu, 0, none⟩) keep.length cu, .bool false] 111 (0, 0)) := ⟨_, rfl⟩
 rw [← Gb, ← hg];have pX : Below w3.heap.size w3 W4 := by rw [Gb]; exact qas (Below.refl _ _) _
 have hX4 : W4.heap[g]? = some (.cells #[.slice (some ⟨gn, 0, none⟩) hs.length cn, .slice (some ⟨gu, 0, none⟩) keep.length cu, .bool false] 111 (0, 0)) := by rw [Gb, hg]; exact qcb w3 _
 have bxh := qap cO.o hU.o;have bxr := qap PN.o hU.o;have HCG := z_ (show CgAt w W4 g gn cn gu cu gh gr (.slice Ah hs.length ch) (hs, keep, false) from
  ⟨qad HB3.o pX, ⟨by rw [hg]; exact HB3.o.size, hX4, Kd.qck (Kd.qjj (Kd.qck (Kd.qdZ kM.o HW2.o) hU.o) (Kd.qcL PT.o) (fun q hq => by rcases eN q hq with rfl | rfl | rfl | rfl <;> decide) Vc.o) pX, Kd.qbO iU.o pX⟩, qap (qbd bxh Vc.o (Kd.R_ne PT.o bxh zbT)) pX, qap (qbd bxr Vc.o (Kd.R_ne PT.o bxr zbT)) pX, HGR.o⟩)
 have HKF := z_ (Kd.C_F Kd.qjm HK.o);clear Gb hg pX hX4 bxh bxr kM kH cO PN q7 HW2 PT HB2 hU iU HB3 Vc HYW
 go_loopw [16] (fun v16 wr => ∃ (i : Nat) (ms : List S75), i ≤ 50 ∧ v16 = .int .i64 (i : Int) ∧ Aside0 (qcE hs noneW keep i ms) ∧ Aside0 (CgAt w wr g gn cn gu cu gh gr (.slice Ah hs.length ch) (ms, keep, false))) (fun v16 _ => 50 - (intOf v16).toNat)
 case atStart => exact ⟨0, hs, Nat.zero_le _, rfl, ⟨qcE.zero HL.o⟩, HCG⟩
 case round =>
  clear HCG;obtain ⟨i, ms, hi, rfl, HSW, HCG⟩ := hrel;have HKr := z_ (Kd.qaO HK.o HCG.o.below);have hc0 := qac HCG.o.bs.blk 0;simp only [List.getElem?_toArray, List.getElem?_cons_zero] at hc0
  by_cases hlt : i < 50
  ·have c1 : decide ((i : Int) < 50) = true := decide_eq_true zbV;have w2 : IntKind.i64.wrap ((i : Int) + 1) = (i : Int) + 1 := zbF;have p1 : (0 : Int) ≤ (i : Int) := zbV;have q1 : (i : Int) < (keep.length : Int) := by have := HKL.o; omega
   obtain ⟨adk, rfl, hxk⟩ := Kd.qcX HKr.o (i : Int) p1 q1;rw [Int.toNat_natCast, qc8] at hxk
   cases hki : keep.getD i false with
   | true =>
    rw [hki] at hxk;have HN := z_ (HSW.o.keep (.inr hki));clear hki
    go_wp2_with fail
    go_roundw
    case rel => exact ⟨i + 1, ms, zbV, zbU, HN, HCG⟩
    case measure => simp [intOf]; omega
   | false =>
    rw [hki] at hxk;have HN := z_ (HSW.o.free hlt (qd6 i) hki);have HLM := z_ HSW.o.1;clear hki;have HQ := z_ (show (i < ms.length) = True from eq_true (by rw [HSW.o.1]; exact hlt))
    go_upto_region 6 with fail
    have zK := z_ (HCG.o.qbE (qaW (Below.refl wr.heap.size wr)));have i9 := z_ (Below.refl wr.drew.heap.size wr.drew);clear HCG HKr hc0;refine qbY (n := 10) (S := fun w' => True) (ds := []) #[false, false, false, false, false, false, false, false, false, false] zbS rfl rfl trivial (fun hHeld => ?_);refine qbg sChg.tab6 sChg.bits6 (fun l4 R6 => ?_);generalize wr.drew = wd at zK i9 ⊢;refine qcd [0, 1, 2, 3, 4, 5, 6, 7, 8, 9] (fun E8 b a w' => ∃ (v1 : Value) (v2 : Value) (v3 : Value) (i4 : Value), a = qa7 E8 b [(0, 35, .pointer (some ⟨g, 0, none⟩)), (1, 36, .pointer (some ⟨g, 0, none⟩)), (2, 37, .pointer (some ⟨g, 0, none⟩)), (3, 38, .pointer (some ⟨g, 0, none⟩)), (4, 39, .slice (some ⟨gn, 0, none⟩) ms.length cn), (5, 40, .int .i64 (i : Int)), (6, 41, .agg #[.bool false, .slice none 0 0, .slice none 0 0, .slice none 0 0]), (7, 42, i4), (8, 43, .pointer (some ⟨gn, i * 4, none⟩))] ∧ (b 9 = false → Below wd.heap.size wd w') ∧ (b 7 = true → b 9 = false → Kd.R k77 77 w' wd.heap.size (fun _ => True) v1 z75.f1) ∧ (b 7 = true → b 9 = false → Kd.R Kd.string 9 w' wd.heap.size (fun _ => True) v2 z75.f2) ∧ (b 7 = true → b 9 = false → Kd.R (Kd.int .i64) 3 w' wd.heap.size (fun _ => True) v3 z75.f3) ∧ (b 9 = true → CgAt w w' g gn cn gu cu gh gr (.slice Ah hs.length ch) (ms.set i z75, keep, false)) ∧ (b 7 = true → (i4 : Value) = .agg #[.bool z75.f0, v1, v2, v3])) l4.o R6.o zbS zbS ?_ ?_ ?_
    ·exact ⟨.bool false, .bool false, .bool false, .bool false, zaO, fun _ => i9.o, fun h_ => absurd h_ zbT, fun h_ => absurd h_ zbT, fun h_ => absurd h_ zbT, fun h_ => absurd h_ zbT, fun h_ => absurd h_ zbT⟩
    ·skip;clear i9;refine qaa ?_ ?_
     ·rintro b a w' ⟨v1, v2, v3, i4, ha, QT⟩ hb_ hon hoff;refine ⟨_, rfl, fun K hK => ?_⟩;have e15 : a.tmps[15]? = some (.pointer (some ⟨g, 0, none⟩)) := zbu;replace ha := z_ ha;refine qae (w1 := w') (v := .pointer (some ⟨g, 0, none⟩)) zbX rfl zbt ?_;refine hK.o _ _ ⟨v1, v2, v3, i4, zbg, QT⟩
     refine qaa ?_ ?_
     ·rintro b a w' ⟨v1, v2, v3, i4, ha, QT⟩ hb_ hon hoff;refine ⟨_, rfl, fun K hK => ?_⟩;have e35 : a.tmps[35]? = some (.pointer (some ⟨g, 0, none⟩)) := zon_ ha 0 rfl rfl hon;replace ha := z_ ha;refine qae (w1 := w') (v := .pointer (some ⟨g, 0, none⟩)) zbX rfl zbt ?_;refine hK.o _ _ ⟨v1, v2, v3, i4, zbh, QT⟩
     refine qaa ?_ ?_
     ·rintro b a w' ⟨v1, v2, v3, i4, ha, QT⟩ hb_ hon hoff;refine ⟨_, rfl, fun K hK => ?_⟩;have e36 : a.tmps[36]? = some (.pointer (some ⟨g, 0, none⟩)) := zon_ ha 1 rfl rfl hon;replace ha := z_ ha;refine qae (w1 := w') (v := .pointer (some ⟨g, 0, none⟩)) zbX rfl zbt ?_;refine hK.o _ _ ⟨v1, v2, v3, i4, zbi, QT⟩
     refine qaa ?_ ?_
     ·rintro b a w' ⟨v1, v2, v3, i4, ha, QT⟩ hb_ hon hoff;refine ⟨_, rfl, fun K hK => ?_⟩;have e37 : a.tmps[37]? = some (.pointer (some ⟨g, 0, none⟩)) := zon_ ha 2 rfl rfl hon;replace ha := z_ ha;refine qae (w1 := w') (v := .pointer (some ⟨g, 0, none⟩)) zbX rfl zbt ?_;refine hK.o _ _ ⟨v1, v2, v3, i4, zbj, QT⟩
     refine qaa ?_ ?_
     ·rintro b a w' ⟨v1, v2, v3, i4, ha, QT⟩ hb_ hon hoff;refine ⟨_, rfl, fun K hK => ?_⟩;have e38 : a.tmps[38]? = some (.pointer (some ⟨g, 0, none⟩)) := zon_ ha 3 rfl rfl hon;replace ha := z_ ha;have i9 := z_ (QT.1 (hoff 9 zbS));have L7 := qac (zK.o.qbE i9.o).bs.blk 0;simp only [List.getElem?_toArray, List.getElem?_cons_zero] at L7;refine qae (w1 := w') (v := .slice (some ⟨gn, 0, none⟩) ms.length cn) zbX rfl zbt ?_;refine hK.o _ _ ⟨v1, v2, v3, i4, zbk, QT⟩
     refine qaa ?_ ?_
     ·rintro b a w' ⟨v1, v2, v3, i4, ha, QT⟩ hb_ hon hoff;refine ⟨_, rfl, fun K hK => ?_⟩;have e16 : a.tmps[16]? = some (.int .i64 (i : Int)) := zbu;replace ha := z_ ha;refine qae (w1 := w') (v := .int .i64 (i : Int)) zbX rfl zbt ?_;refine hK.o _ _ ⟨v1, v2, v3, i4, zbl, QT⟩
     refine qaa ?_ ?_
     ·rintro b a w' ⟨v1, v2, v3, i4, ha, QT⟩ hb_ hon hoff;refine ⟨_, rfl, fun K hK => ?_⟩;replace ha := z_ ha;refine qae (w1 := w') (v := .agg #[.bool false, .slice none 0 0, .slice none 0 0, .slice none 0 0]) zbX rfl zbt ?_;refine hK.o _ _ ⟨v1, v2, v3, i4, zbm, QT⟩
     refine qaa ?_ ?_
     ·rintro b a w' ⟨v1, v2, v3, i4, ha, R8, UD, sE, kE, VM, Q3⟩ hb_ hon hoff;refine ⟨_, rfl, fun K hK => ?_⟩;have e41 : a.tmps[41]? = some (.agg #[.bool false, .slice none 0 0, .slice none 0 0, .slice none 0 0]) := zon_ ha 6 rfl rfl hon;replace ha := z_ ha;have i9 := z_ (R8 (hoff 9 zbS));have hs_ := i9.o.size;refine qdr Try.func66 zbS rfl #[.agg #[.bool false, .slice none 0 0, .slice none 0 0, .slice none 0 0]] zbX rfl rfl (by first | (simp only [List.map_toArray, List.map_cons, List.map_nil, Act.eval, Array.getD_eq_getD_getElem?, Option.getD_some, e41]; done) | (simp only [List.map_toArray, List.map_cons, List.map_nil, Act.eval, Array.getD_eq_getD_getElem?, Option.getD_some, e41]; rfl)) ?_;refine (qbK.calls false none 0 [] none 0 [] none 0 [] _ _ _ _ w' (Kd.qhL _ _) (Nat.le_refl _) (Kd.qhL _ _) (Nat.le_refl _) (Kd.qhL _ _) (Nat.le_refl _) (h := HON.o)).mono ?_;rintro e_ lO ⟨OJ, ZL, zN, rfl, u3, oX, la, hb1⟩;refine ⟨_, rfl, ?_⟩;refine hK.o _ _ ⟨OJ, ZL, zN, (.agg #[.bool z75.f0, OJ, ZL, zN]), zbn, fun _ => qad i9.o hb1, fun _ _ => Kd.qa9 u3 hs_, fun _ _ => Kd.qa9 oX hs_, fun _ _ => Kd.qa9 la hs_, nf_ (hoff 9 zbS), fun _ => rfl⟩
     refine qaa ?_ ?_
     ·rintro b a w' ⟨v1, v2, v3, i4, ha, QT⟩ hb_ hon hoff;refine ⟨_, rfl, fun K hK => ?_⟩;have e39 : a.tmps[39]? = some (.slice (some ⟨gn, 0, none⟩) ms.length cn) := zon_ ha 4 rfl rfl hon;have e40 : a.tmps[40]? = some (.int .i64 (i : Int)) := zon_ ha 5 rfl rfl hon;replace ha := z_ ha;have yd := HQ.o;have Sa : (i : Int) < (ms.length : Int) := by have := HLM.o; omega
      refine qae (w1 := w') (v := .pointer (some ⟨gn, i * 4, none⟩)) zbX rfl zbt ?_;refine hK.o _ _ ⟨v1, v2, v3, i4, zbo, QT⟩
     refine qaa ?_ ?_
     ·rintro b a w' ⟨v1, v2, v3, i4, ha, R8, UD, sE, kE, VM, Q3⟩ hb_ hon hoff;refine ⟨_, rfl, fun K hK => ?_⟩;have e43 : a.tmps[43]? = some (.pointer (some ⟨gn, i * 4, none⟩)) := zon_ ha 8 rfl rfl hon;have e42 : a.tmps[42]? = some (i4) := zon_ ha 7 rfl rfl hon;rw [Q3 (hon 7 zbS)] at e42;replace ha := z_ ha;have i9 := z_ (R8 hb_);have R1 := z_ (UD (hon 7 zbS) hb_);have R2 := z_ (sE (hon 7 zbS) hb_);have R3 := z_ (kE (hon 7 zbS) hb_);obtain ⟨_, oH, bL, _, MC, lE, _, _⟩ := Kd.qij (zK.o.qbE i9.o).bs.nodes z75 (i : Int) zbV (by have h_ := HLM.o; show (i : Int) < (ms.length : Int); omega);obtain ⟨rX, lW, xY, xf, OH⟩ : ∃ y0 y1 y2 y3, oH = [y0, y1, y2, y3] := by have jY : oH.length = 4 := bL; match oH, jY with | [a0, a1, a2, a3], _ => exact ⟨a0, a1, a2, a3, rfl⟩
      subst OH;have IS := MC 0 _ rfl;have m8 := MC 1 _ rfl;have l8 := MC 2 _ rfl;have nC := MC 3 _ rfl;have H0 := lE 0;have I0 := lE 1;have K0 := lE 2;have U0 := lE 3;simp only [Int.toNat_natCast, show k75.sz = 4 from rfl, Nat.add_zero] at IS m8 l8 nC H0 I0 K0 U0;have nU := (Kd.qgv R1.o).2;have MS := (Kd.qgv R2.o).2;have VS := (Kd.qgv R3.o).2;have bZ : ∀ (a_ : Addr) (m_ : Mode) (W_ : World), (store a_ v1 m_).run Try.prog W_ = stored Try.prog W_ a_ v1 m_ := fun a_ m_ W_ => run_store _ W_ a_ v1 m_ nU
      have JZ : ∀ (a_ : Addr) (m_ : Mode) (W_ : World), (store a_ v2 m_).run Try.prog W_ = stored Try.prog W_ a_ v2 m_ := fun a_ m_ W_ => run_store _ W_ a_ v2 m_ MS
      have LZ : ∀ (a_ : Addr) (m_ : Mode) (W_ : World), (store a_ v3 m_).run Try.prog W_ = stored Try.prog W_ a_ v3 m_ := fun a_ m_ W_ => run_store _ W_ a_ v3 m_ VS
      refine qeR (w1 := (set4 w' gn (i * 4) (.bool z75.f0) v1 v2 v3)) zbX rfl zbP ?_;refine hK.o _ _ ⟨v1, v2, v3, i4, zbq, fun N7 => absurd ((qa5 b 9).symm.trans N7) zbT, fun _ u3 => absurd ((qa5 b 9).symm.trans u3) zbT, fun _ u3 => absurd ((qa5 b 9).symm.trans u3) zbT, fun _ u3 => absurd ((qa5 b 9).symm.trans u3) zbT, fun _ => CgAt.store zK.o i9.o (by have := HLM.o; omega) z75 R1.o R2.o R3.o ⟨nU, MS, VS⟩, Q3⟩
     exact qbo
    rintro b a wE hall ⟨v1, v2, v3, i4, ha, R8, UD, sE, kE, VM, Q3⟩;clear i9;have X2 := hall 0 zbS;have X1 := hall 1 zbS;have N2 := hall 2 zbS;have M2 := hall 3 zbS;have I2 := hall 4 zbS;have D3 := hall 5 zbS;have j3 := hall 6 zbS;have i3 := hall 7 zbS;have U2 := hall 8 zbS;have Y2 := hall 9 zbS;subst ha;obtain rfl := Q3 i3;simp only [qa7, X2, X1, N2, M2, I2, D3, j3, i3, U2, Y2, if_true, Act.put, List.setIfInBounds_toArray, List.set_cons_zero, List.set_cons_succ];clear R8 UD sE kE;have CGF := z_ (VM Y2);clear VM hall X2 X1 N2 M2 I2 D3 j3 i3 U2 Y2
    go_wp2_with fail
    go_roundw
    case rel => exact ⟨i + 1, ms.set i z75, zbV, zbU, HN, CGF⟩
    case measure => simp [intOf]; omega
  ·have c1 : decide ((i : Int) < 50) = false := decide_eq_false zbV;have hie : i = 50 := zbV;have HE := z_ (show ms = onlyN hs keep from qiY HL.o (hie ▸ HSW.o));clear hie hc0 HKr;have he := HE.o;subst he;obtain ⟨b5, hb5⟩ : ∃ b5 : List S75 × List Bool × Bool, b5 = (onlyN hs keep, keep, false) := ⟨_, rfl⟩
   obtain ⟨p0, hp0⟩ : ∃ p0, p0 = if root = -1 then qb6 [⟨key, value⟩] b5 else qbx (dopB drop key value) key 21 root.toNat b5 := ⟨_, rfl⟩
   have HSB := z_ (show qbX hs root keep (dopB drop key value) key [⟨key, value⟩] = topsB p0 from by unfold qbX; rw [hp0, hb5]);have Rd := z_ (show b5.1.length = 50 ∧ b5.2.1.length = 50 from by rw [hb5]; exact ⟨qcT _ _, HKL.o⟩);have o4 := z_ hb5;have eZ := z_ hp0;have jX := z_ (show CgAt w wr g gn cn gu cu gh gr (.slice Ah hs.length ch) b5 from hb5 ▸ HCG.o);have HBw := z_ jX.o.below;clear HCG hb5 hp0 HSW HE hlt
   go_upto_if 46 with ((with_reducible refine qaG (N := 44) rfl ?_); refine Kd.qcD k118 w.heap.size 118 zbX (N := 44) zbX (xs := ([] : List S118)) (inner := []) (ok := fun _ => True) (okp := fun _ => True) zbv ?hp (fun _ hk => hk) trivial HBw.o HBw.o.size zbW ?_; (case hp => exact (Reps.none _ _)); intro v7 w7 SS hb7 F5 Z1; have HY7 := z_ (Below.grown (Below.refl _ _) F5 (Nat.le_refl _) (fun k hk => by cases hk)); clear F5 Z1; have HO7 := z_ SS; have HB7 := z_ hb7; clear SS hb7)
   have aW := z_ (jX.o.qbE HY7.o);clear jX HO7 HY7 HBw HB7
   go_cut [17] (fun v17 wc => ∃ vl : Value, vl = v17 ∧ Aside0 (Kd.R k118 118 wc w.heap.size (fun _ => True) vl (partL p0.1)) ∧ Aside0 (CgAt w wc g gn cn gu cu gh gr (.slice Ah hs.length ch) p0.2))
   case first =>
    by_cases hr : root = -1
    ·have HPE := z_ (show p0 = qb6 [⟨key, value⟩] b5 from by rw [eZ.o, if_pos hr]);have hrb : (root == -1) = true := by rw [hr]; rfl
     have HBw := z_ aW.o.below;clear hr
     go_wp2_with ((with_reducible refine qaG (N := 51) rfl ?_); refine Kd.qcD k77 w.heap.size 77 zbX (N := 51) zbX (xs := [(⟨key, value⟩ : S77)]) (inner := [.string key, .string value]) (ok := fun _ => True) (okp := fun _ => True) zbv ?hp (fun _ hk => hk) trivial HBw.o HBw.o.size zbW ?_; (case hp => exact Reps.c2 (qfy _ _ _ _) (Reps.none _ _)); intro vl wl hol hbl hgl hnl; have HYl := z_ (Below.grown (Below.refl _ _) hgl (Nat.le_refl _) (fun k hk => by cases hk)); obtain ⟨A8, c8, rfl, wY, _⟩ := Kd.qbI hol; have xa := z_ hol; have HZ8 := z_ wY; clear hol hbl hgl hnl wY)
     have JX := z_ (aW.o.qbE HYl.o);obtain ⟨A9, c9, e9, l9, f9⟩ := qei JX.o.bs xa.o (fun q hq => (neP q hq).1) (fun q hq => (neP q hq).2.1) (fun q hq => (neP q hq).2.2);injection e9 with e9a e9b e9c
     subst e9a;subst e9c;refine (qb3 w wl g gn cn gu cu b5 JX.o.below JX.o.bs Rd.o _ (fun k hk => hk.1) A8 c8 _ f9 l9 zbW).mono ?_;rintro e w1 ⟨v, rfl, hv, hb1, hw1, hk1⟩;have QR := z_ (Kd.qa9 hv JX.o.below.size);have nO := z_ (JX.o.call hb1 hw1 hk1);rw [← HPE.o] at QR nO;clear hv hb1 hw1 hk1 f9 l9 e9b
     go_wp2_with fail
     go_meet
     case rel => exact ⟨_, rfl, QR, nO⟩
    ·have hrb : (root == -1) = false := beq_eq_false_iff_ne.mpr hr;have hTR := HTR.o.1;obtain ⟨k, hk, hkt, hkn⟩ : ∃ k : Nat, root = (k : Int) ∧ TrD hs d k ps pg ∧ pg.Nodup := by
      rcases hTR with h | h
      ·exact absurd h.1 hr
      ·exact h
     have ht' : TrD b5.1 d k ps pg := by rw [o4.o]; exact qdD _ _ _ _ (fun i hi => qdG HL.o (HTR.o.2.1 i hi) HKL.o) hkt
     have HPE := z_ (show p0 = qbx (dopB drop key value) key d k b5 from by rw [eZ.o, if_neg hr, hk, Int.toNat_natCast]; exact qd8 d k ps pg ht' 21 (by have := HTR.o.2.2; omega));have HT' := z_ ht';subst hk;clear hr hTR hkt hkn ht'
     go_wp2_with fail
     refine (schange key value drop d w _ g gn cn gu cu b5 k ps pg aW.o.below aW.o.bs Rd.o HT'.o).mono ?_;rintro e w1 ⟨v, rfl, hv, hb1, hw1, hk1⟩;have QR := z_ (Kd.qa9 hv aW.o.below.size);have nO := z_ (aW.o.call hb1 hw1 hk1);rw [← HPE.o] at QR nO;clear hv hb1 hw1 hk1
     go_wp2_with fail
     go_meet
     case rel => exact ⟨_, rfl, QR, nO⟩
   case rest =>
    obtain ⟨vl, rfl, HR, HC⟩ := hcut;clear aW;have yc := z_ (show p0.1.length ≤ 2 from by
     rw [eZ.o]
     split
     ·exact qex _ _
     ·exact qdo _ _ _ _ _)
    have bh := z_ (show p0.2.1.length = 50 ∧ p0.2.2.1.length = 50 from by
     have hbg : BG b5 p0.2 := by
      rw [eZ.o]
      split
      ·exact qdb _ _ _
      ·exact qdF _ _ _ _ _
     exact ⟨hbg.len.trans Rd.o.1, hbg.lenu.trans Rd.o.2⟩)
    have Fe := z_ (show TinyN p0.2.1 from by
     have h5 : TinyN b5.1 := by rw [o4.o]; exact qfL HTN.o
     rw [eZ.o]
     split
     ·exact qey zbW h5
     ·exact qfO (fun l => by
       unfold dopB
       split
       ·have := List.length_filter_le (fun p : S77 => !decide (p.f0.toList = key.toList)) l;unfold dropF;omega
       ·have h_ := qdP l key value
        split at h_ <;> omega) _ _ _ h5)
    go_wp2_with fail
    go_loopw [17] (fun v17 wr => ∃ (vl : Value) (t : Bool), vl = v17 ∧ Aside0 (Kd.R k118 118 wr w.heap.size (fun _ => True) vl (partL (if t = true then topsB p0 else p0).1)) ∧ Aside0 (CgAt w wr g gn cn gu cu gh gr (.slice Ah hs.length ch) (if t = true then topsB p0 else p0).2)) (fun v17 _ => slLen v17)
    case atStart => exact ⟨_, false, rfl, HR, HC⟩
    case round =>
     clear HR HC;obtain ⟨vl, t, rfl, HR, HC⟩ := hrel;obtain ⟨A9, c9, rfl, l9, f9⟩ := qei HC.o.bs HR.o nePt.1 nePt.2.1 nePt.2.2;have aT := z_ f9;have FY := z_ l9;clear l9 f9;have hpl : (partL (if t = true then topsB p0 else p0).1).length = (if t = true then topsB p0 else p0).1.length := List.length_map _
     by_cases hlt : 1 < (if t = true then topsB p0 else p0).1.length
     ·have c1 : decide (1 < ((partL (if t = true then topsB p0 else p0).1).length : Int)) = true := decide_eq_true zbV;have htf : t = false := by
       cases t with
       | false => rfl
       | true => have := qiz yc.o; simp only [if_true] at hlt; omega
      subst htf;simp only [Bool.false_eq_true, if_false] at hlt hpl c1 aT FY HR HC ⊢;have HTP := z_ (show topsB p0 = qcp p0.1 p0.2 from by unfold topsB; rw [if_pos hlt]);have HHL := z_ hlt;have HHP := z_ hpl;clear hlt hpl
      go_wp2_with fail
      refine (qb7 w _ g gn cn gu cu p0.2 HC.o.below HC.o.bs bh.o _ (fun k hk => hk.1) A9 c9 p0.1 aT.o FY.o (by have := yc.o; omega)).mono ?_;rintro e w1 ⟨v, rfl, hv, hb1, hw1, hk1⟩;have QR := z_ (Kd.qa9 hv HC.o.below.size);have nO := z_ (HC.o.call hb1 hw1 hk1);rw [← HTP.o] at QR nO;clear hv hb1 hw1 hk1
      go_wp2_with fail
      go_roundw
      case rel => exact ⟨_, true, rfl, QR, nO⟩
      case measure =>
       obtain ⟨A8, c8, rfl⟩ := Kd.qbi QR.o;have h1 := qiz yc.o;have h2 := HHL.o;have h3 := HHP.o;have h4 : (partL (topsB p0).1).length = (topsB p0).1.length := List.length_map _
       show (partL (topsB p0).1).length < (partL p0.1).length
       omega
     ·have c1 : decide (1 < ((partL (if t = true then topsB p0 else p0).1).length : Int)) = false := decide_eq_false zbV;have hq : (if t = true then topsB p0 else p0) = topsB p0 := by
       cases t with
       | true => rfl
       | false =>
        simp only [Bool.false_eq_true, if_false] at hlt ⊢;unfold topsB;rw [if_neg hlt]
      rw [hq] at HR HC aT FY c1 hpl hlt ⊢;rw [← HSB.o] at HR HC aT FY c1 hpl hlt ⊢;obtain ⟨q, hqq⟩ : ∃ q, q = qbX hs root keep (dopB drop key value) key [⟨key, value⟩] := ⟨_, rfl⟩
      rw [← hqq] at HR HC aT FY c1 hpl hlt ⊢;have HQQ := z_ hqq;have hqt : q = topsB p0 := hqq.trans HSB.o;have HLQ := z_ (show q.2.1.length = 50 ∧ q.2.2.1.length = 50 from by
       have hbg := qeK p0;rw [hqt];exact ⟨hbg.len.trans bh.o.1, hbg.lenu.trans bh.o.2⟩)
      have HTQ := z_ (show TinyN q.2.1 from by rw [hqt]; exact qhy yc.o Fe.o);have HPG := z_ (show ∀ k, k < w.heap.size → k ≠ gn from fun k hk e => by
       have := Kd.qih HC.o.bs.nodes gn (qcS _ _ _);omega)
      clear hqt;have HQ1 := z_ hlt;have HPL := z_ hpl;clear hqq hq hlt hpl;have d0 := qac HC.o.bs.blk 0;have d2 := qac HC.o.bs.blk 2;have dh := qac HC.o.boxh 0;have dr := qac HC.o.boxr 0;have fr := qab HC.o.boxr 0;simp only [List.getElem?_toArray, List.getElem?_cons_zero, List.getElem?_cons_succ] at d0 d2 dh dr
      cases hful : q.2.2.2 with
      | true =>
       rw [hful] at d2;have HE := z_ (show qbC hs root keep (dopB drop key value) key [⟨key, value⟩] = (hs, root, false) from by unfold qbC; rw [← HQQ.o, if_pos hful]);clear hful
       go_wp2_with fail
       refine bodyPost_ret (qdL rfl _ _ gr 25 #[.slice Ah hs.length ch] (0, 0) _ rfl (qbm (cs := #[.slice none 0 0]) HC.o.boxr 0 _ rfl) Try.underlying25 rfl zbS) rfl ?_;rw [HE.o];exact ⟨_, rfl, fun _ => rfl, (fun h => by cases h), HC.o.below.setCell (p := ⟨gr, 0, none⟩) HC.o.ge _⟩
      | false =>
       rw [hful] at d2;have hch : qbC hs root keep (dopB drop key value) key [⟨key, value⟩] = (onlyN q.2.1 (orW keep (walkR q.2.1 (rootOf q)).2.1), rootOf q, true) := by unfold qbC; rw [← HQQ.o, if_neg (by rw [hful]; decide)]
       have HE := z_ hch;have HB2 := z_ (HBT.o (by rw [← HQQ.o]; exact hful));rw [← HQQ.o] at HB2;clear hful hch;have hqd : q.1 = [] ∨ ∃ m0 mr, q.1 = m0 :: mr := by
        cases q.1 with
        | nil => exact .inl rfl
        | cons m0 mr => exact .inr ⟨m0, mr, rfl⟩
       rcases hqd with hq1 | ⟨m0, mr, hq1⟩
       ·skip;have hz : (partL q.1).length = 0 := by rw [hq1]; rfl
        have HRT := z_ (show rootOf q = -1 from by unfold rootOf; rw [hq1]);have c3 : (((partL q.1).length : Int) == 0) = true := by rw [hz]; rfl
        have HCx := HC;clear hz hq1 dh dr fr
        go_wp2_with fail
        refine (sswept w _ gn cn q.2.1 keep (-1) HCx.o.below HCx.o.bs.nodes HLQ.o.1 (qdH HTQ.o) Ak ck (fun k => k < w.heap.size) HPG.o (Kd.qbT HKF.o HCx.o.below) HKL.o HKC.o).mono ?_;rintro e w1 ⟨rfl, hS, hw1, hk1⟩;have Pf := z_ hS;have Dh := z_ hw1;have jR := z_ ((hk1.2 gr (qbH HCx.o.boxr) (qgJ HCx.o.bs.nodes HCx.o.boxr zbT)).trans HCx.o.boxr);have ef := qac jR.o 0;have fr9 := qab jR.o 0;simp only [List.getElem?_toArray, List.getElem?_cons_zero] at ef;clear hS hw1 hk1
        go_wp2_with fail
        refine bodyPost_ret (qdL rfl _ _ gr 25 #[.slice (some ⟨gn, 0, none⟩) q.2.1.length cn] (0, 0) _ rfl (qbm (cs := #[.slice none 0 0]) jR.o 0 _ rfl) Try.underlying25 rfl zbS) rfl ?_;rw [HE.o, HRT.o];exact ⟨_, rfl, (fun h => by cases h), (fun _ => Kd.qji Pf.o jR.o qjP 0 _), Dh.o.setCell (p := ⟨gr, 0, none⟩) HCx.o.ge _⟩
       ·skip;have hz : 0 < (partL q.1).length := by rw [hq1]; simp [partL]
        have HRT := z_ (show rootOf q = (qcF q.2.1 22 m0.2 : Int) from by unfold rootOf; rw [hq1]);have c3 : (((partL q.1).length : Int) == 0) = false := beq_eq_false_iff_ne.mpr zbV;obtain ⟨e1, ps1, Fb, he1, hpd⟩ := HB2.o;rw [hq1] at hpd;obtain ⟨p1, p2, g1, g2, _, _, ht1, _, _⟩ := hpd;have HT1 := z_ ht1;have HE1 := z_ he1;obtain ⟨ad9, rfl, _, KX⟩ := qeW (Kd.qdc aT.o) 0 zbT zbV;have e9 : (qb2 (partL q.1) 0).f1 = (m0.2 : Int) := by rw [hq1]; rfl
        rw [e9] at KX;replace KX : wr.cell? ⟨ad9.block, ad9.off + 1, none⟩ = some (.int .i64 (m0.2 : Int)) := by simpa [Addr.add] using KX
        have z9 : (0 < (partL q.1).length) = True := eq_true hz;have z8 : ((partL q.1) = []) = False := by
         simp only [eq_iff_iff, iff_false];intro e_;rw [e_] at hz;exact absurd hz zbT
        clear hz hq1 ht1 he1 e9
        go_upto_block 4 with fail
        go_cut [18] (fun v18 wc => v18 = .int .i64 (rootOf q) ∧ Aside0 (Below wr.heap.size wr wc))
        case first =>
         go_wp2_with fail
         go_loopg [18] 22 (fun kq v18 wx => ∃ (kc d' : Nat) (p' : List S77) (g' : List Nat), v18 = .int .i64 (kc : Int) ∧ Aside0 (TrD q.2.1 d' kc p' g' ∧ d' ≤ kq ∧ kq ≤ 22 ∧ rootOf q = (qcF q.2.1 kq kc : Int)) ∧ Aside0 (Below wr.heap.size wr wx))
         case atStart => exact ⟨m0.2, e1, p1, g1, rfl, ⟨HT1.o, HE1.o, Nat.le_refl _, HRT.o⟩, ⟨Below.refl _ _⟩⟩
         case round =>
          obtain ⟨kc, d', p', g', rfl, VH, HO⟩ := hrel;have HCr := z_ (HC.o.qbE HO.o);clear d0 d2 dh dr fr KX aT
          cases gk with
          | zero =>
           exfalso
           have h1 := VH.o.1;have h2 := VH.o.2.1;obtain rfl : d' = 0 := zbV;exact h1
          | succ k1 =>
           obtain ⟨d1, rfl⟩ : ∃ d1, d' = d1 + 1 := by
            cases d' with
            | zero => exact absurd VH.o.1 id
            | succ d1 => exact ⟨d1, rfl⟩
           obtain ⟨x, hx, hnb, hfb, hcase⟩ := VH.o.1;have hgd : q.2.1.getD kc z75 = x := by rw [List.getD_eq_getElem?_getD, hx]; rfl
           have hkl : kc < q.2.1.length := by
            rcases Nat.lt_or_ge kc q.2.1.length with h2 | h2
            ·exact h2
            ·rw [List.getElem?_eq_none h2] at hx; cases hx
           obtain ⟨B1, b1, B2, b2, B3, b3, hcl, _, _, hr3⟩ := HCr.o.bs.node hx;obtain ⟨IS, _, _, nC⟩ := hcl;have d0 := qac HCr.o.bs.blk 0;simp only [List.getElem?_toArray, List.getElem?_cons_zero] at d0;have p1 : (0 : Int) ≤ (kc : Int) := zbV;have q1 : (kc : Int) < (q.2.1.length : Int) := zbV;have HGD := z_ hgd;have HNB := z_ (And.intro hnb hfb);have HCS := z_ hcase;have HR3 := z_ hr3.2;clear hx hgd hkl hnb hfb hcase hr3
           cases hx0 : x.f0 with
           | true =>
            rw [hx0] at IS;have HRQ := z_ (show rootOf q = (kc : Int) from by
             rw [VH.o.2.2.2];unfold qcF;rw [HGD.o, hx0, if_neg (fun h => by cases h.1)])
            clear hx0
            go_wp2_with fail
            go_meet
            case rel => exact ⟨by rw [HRQ.o], HO⟩
           | false =>
            rw [hx0] at IS
            by_cases h1 : x.f3.length = 1
            ·have c4 : ((x.f3.length : Int) == 1) = true := by rw [h1]; rfl
             have hPN := qcB HNB.o.1 HNB.o.2 hx0;have hpd : ∃ pg', PD (TrD q.2.1 d1) (partsOf x) p' pg' := by
              rcases HCS.o with h | h
              ·rw [hx0] at h; cases h.1
              ·exact ⟨_, h.2.choose_spec.2⟩
             have hp0 : 0 < (partsOf x).length := zbV;obtain ⟨p3, g3, hT3⟩ := PD_nth _ _ _ 0 hp0 hpd.choose_spec;have hrk : rd x.f3 0 = (((partsOf x)[0]'hp0).2 : Int) := by
              have e := hPN.1;unfold rd;rw [Int.toNat_zero, e, List.getD_eq_getElem?_getD, List.getElem?_map, List.getElem?_eq_getElem hp0];rfl
             obtain ⟨IN, rfl, hk3⟩ := Kd.qbN (Kd.qdc HR3.o) 0 zbT zbV;rw [hrk] at hk3;replace hk3 : wr.cell? IN = some (.int .i64 (((partsOf x)[0]'hp0).2 : Int)) := by simpa [Addr.add] using hk3
             have HT4 := z_ (show TrD q.2.1 d1 ((partsOf x)[0]'hp0).2 p3 g3 ∧ d1 ≤ k1 ∧ k1 ≤ 22 ∧ rootOf q = (qcF q.2.1 k1 ((partsOf x)[0]'hp0).2 : Int) from by
              have h2 := VH.o.2.1;have h3 := VH.o.2.2.1;refine ⟨hT3, zbV, zbV, ?_⟩;rw [VH.o.2.2.2]
              conv => lhs; unfold qcF
              rw [HGD.o, if_pos ⟨hx0, h1⟩, hrk, Int.toNat_natCast])
             have z6 : (0 < x.f3.length) = True := eq_true zbV;have z7 : (x.f3 = []) = False := by
              simp only [eq_iff_iff, iff_false];intro e_;rw [e_] at h1
              cases h1
             clear hPN hpd hT3 hrk h1 hx0
             go_wp2_with fail
             go_roundg k1
             case measure => omega
             case rel => exact ⟨_, d1, p3, g3, rfl, HT4, HO⟩
            ·have c4 : ((x.f3.length : Int) == 1) = false := beq_eq_false_iff_ne.mpr zbV;have HRQ := z_ (show rootOf q = (kc : Int) from by
              rw [VH.o.2.2.2];unfold qcF;rw [HGD.o, if_neg (fun h => h1 h.2)])
             clear hx0 h1
             go_wp2_with fail
             go_meet
             case rel => exact ⟨by rw [HRQ.o], HO⟩
        case rest =>
         obtain ⟨rfl, HY⟩ := hcut;have HCx := z_ (HC.o.qbE HY.o);have d09 := qac HCx.o.bs.blk 0;simp only [List.getElem?_toArray, List.getElem?_cons_zero] at d09;clear HRT d0 d2 dh dr fr KX aT
         go_wp2_with fail
         refine (sswept w _ gn cn q.2.1 keep (rootOf q) HCx.o.below HCx.o.bs.nodes HLQ.o.1 (qdH HTQ.o) Ak ck (fun k => k < w.heap.size) HPG.o (Kd.qbT HKF.o HCx.o.below) HKL.o HKC.o).mono ?_;rintro e w1 ⟨rfl, hS, hw1, hk1⟩;have Pf := z_ hS;have Dh := z_ hw1;have jR := z_ ((hk1.2 gr (qbH HCx.o.boxr) (qgJ HCx.o.bs.nodes HCx.o.boxr zbT)).trans HCx.o.boxr);have ef := qac jR.o 0;have fr9 := qab jR.o 0;simp only [List.getElem?_toArray, List.getElem?_cons_zero] at ef;clear hS hw1 hk1
         go_wp2_with fail
         refine bodyPost_ret (qdL rfl _ _ gr 25 #[.slice (some ⟨gn, 0, none⟩) q.2.1.length cn] (0, 0) _ rfl (qbm (cs := #[.slice none 0 0]) jR.o 0 _ rfl) Try.underlying25 rfl zbS) rfl ?_;rw [HE.o];exact ⟨_, rfl, (fun h => by cases h), (fun _ => Kd.qji Pf.o jR.o qjP 0 _), Dh.o.setCell (p := ⟨gr, 0, none⟩) HCx.o.ge _⟩
end Go.Proofs.Ytcdokcpiahbejaa.X
namespace Go.Proofs.Ytcdokcpiahbejaa.X
open Go.RowKit Go.Proofs.YtcdokcpiahbejaaW.PrintWords Go.Proofs.YtcdokcpiahbejaaW.PrintLast Go.Proofs.YtcdokcpiahbejaaW.PrintMore
attribute [local go_sem] qax qay qaz qat qau qaJ qaK qam qan qav qaw
set_option linter.unusedVariables false
set_option linter.unusedSimpArgs false
def qea.f  : Option ((List (S75))) := if 50 ≤ 3518437208883 then (some (List.replicate 50 z75)) else (none)
set_option maxHeartbeats 8000000 in
set_option maxRecDepth 100000 in
theorem qea.calls  (r : List (S75)) (w : World) (h : qea.f  = some r) :
  Calls Try.prog 54 #[] w fun e w' => ∃ mA : Value, e = .returned (.agg #[mA]) ∧ Kd.S k75 75 w' w.heap.size (fun _ => True) mA r ∧ Below w.heap.size w w' := by
 have bI := Try.underlying25;have HB := z_ (Below.refl w.heap.size w);have H : (if 50 ≤ 3518437208883 then (some (List.replicate 50 z75)) else (none)) = some r := h;clear h
 by_cases c1 : 50 ≤ 3518437208883
 ·rw [if_pos c1] at H;have c1b0 := eq_true c1;have c1b1 : decide (50 ≤ 3518437208883) = true := decide_eq_true c1;clear c1;obtain ⟨cX, DJ⟩ : ∃ y_ : List (S75), y_ = (List.replicate 50 z75) := ⟨_, rfl⟩
  replace H : (some cX) = some r := by first | (rw [DJ]; with_reducible exact H) | (have Y1 := (Option.bind_some _ _).symm.trans H; rw [DJ]; with_reducible exact Y1) | (have Y1 := (Option.bind_some _ _).symm.trans H; with_reducible exact Y1) | with_reducible exact H | (rw [DJ]; exact H) | exact H
  have OT := z_ DJ;clear DJ;obtain rfl := Option.some.inj H
  go_enter Try.func54, Try.ntmps54
  go_wp2_with (first | ((with_reducible refine qaG (N := 0) rfl ?_); refine qaS zbX (N := 0) zbX (cs := #[.slice none 0 0]) (t := 25) zbv ?_; intro FH hg w2 hbox hb; have H0 := z_ (qad zaq hb); have I0 := z_ (hbox); have K0 := z_ ((zal : w.heap.size ≤ FH)); have U0 := z_ ((zal : w.heap.size ≤ FH)); clear HB; have HB := H0; have OG := I0; have GW384 := K0; have lQ := U0; clear H0 I0 K0 U0; clear hb hbox hg) | ((with_reducible refine qaG (N := 1) rfl ?_); refine Kd.S_make k75 _ 75 rfl (N := 1) rfl 23 _ _ rfl 50 rfl rfl Try.underlying23 (.agg #[(.bool false), (.slice none 0 0), (.slice none 0 0), (.slice none 0 0)]) 80 info75 rfl zbT zbV z75 (ok := fun _ => True) (okp := fun _ => True) (qhQ _ _ _ z75 (Kd.qgq _ _ _ _ _) (Kd.qgq _ _ _ _ _) (Kd.qgq _ _ _ _ _)) (fun _ hk => hk) trivial zbV zbV (Below.refl _ _) (Nat.le_refl _) ?_; intro v386 w3 FF hb F5 Z1; clear F5 Z1; (first | rw [← OT.o] at FF | (simp only [Int.reduceToNat] at FF; rw [← OT.o] at FF)); have H0 := z_ (Kd.qdZ FF (qaC (zab lQ.o))); have I0 := z_ (qap (g := FH) (o := .cells #[.slice none 0 0] 25 (0, 0)) (zac OG.o) hb); have K0 := z_ (qad (zab lQ.o) hb); clear OG HB; have cU := H0; have OG := I0; have HB := K0; clear H0 I0 K0 hb FF; obtain ⟨Lc, Hc, Ng⟩ := Kd.qeT cU.o; subst Ng; have Wg : w3.cell? ⟨FH, 0, none⟩ = some (.slice none 0 0) := (qac OG.o 0).trans rfl; have Rf := qab OG.o 0))
  refine bodyPost_ret (results_cell_row rfl _ _ FH 25 #[.slice Lc cX.length Hc] (0, 0) _ rfl (by (with_reducible repeat (first | refine qaj ?_ _ | refine qai ?_ | refine qah ?_ _)); refine qbm (cs := #[.slice none 0 0]) ?_ 0 _ rfl; (with_reducible repeat (first | refine qaj ?_ _ | refine qai ?_ | refine qah ?_ _)); exact OG.o) Try.underlying25 rfl zbS) rfl ?_;exact ⟨_, zaF, by (with_reducible repeat (first | apply Kd.qcO | apply Kd.qcP | apply Kd.qc9)); exact Kd.qcx (Kd.qeF (p := ⟨FH, 0, none⟩) (Kd.qdx cU.o OG.o zbT) (fun _ hk => hk.2) (.slice Lc cX.length Hc)) (fun _ hk => trivial), zab lQ.o⟩
 ·rw [if_neg c1] at H;exact absurd H zbW
def sFor.T13 : Bool × List (List Nat × List Nat) := (true, [([], []), ([], []), ([], []), ([], []), ([], []), ([], []), ([4, 5], [4, 5]), ([0, 1, 2, 3, 6, 6], [0, 1, 2, 3, 6]), ([7], [7]), ([8], [8]), ([8], [8]), ([8], [8]), ([9, 7, 0, 1, 2, 3, 4, 5, 6, 7, 8, 9], [9]), ([10, 12, 0, 1, 2, 3, 4, 5, 6, 7, 8, 9, 10, 12], [1, 10])])
def sFor.B13 : List Nat := [0, 0, 0, 0, 0, 0, 48, 127, 255, 511, 511, 511, 1023, 6143]
theorem sFor.tab13 : rtab .any (opsOf Try.f24 13) = sFor.T13 := zbS
theorem sFor.bits13 : qbv sFor.T13.2 sFor.B13 = true := zbS
noncomputable def qbt.f (M1 : List Int) (N4 V1 : Int) : Option (List S75 × Int × Int × Int × Int) := (qbp.f M1 N4 V1 20).bind fun t => if 0 ≤ t.1 ∧ t.1 ≤ 19 then forestF t.1.toNat M1 (List.replicate 50 z75) (-1) (-1) t.2.1 t.2.2 else none
set_option linter.unusedVariables false
set_option maxHeartbeats 16000000 in
set_option maxRecDepth 100000 in
theorem qbt.calls (g : Nat) (M1 : List Int) (N4 : Int) (V1 : Int) (r1 : List S75) (r2 : Int) (r3 : Int) (r4 : Int) (r5 : Int) (w0 w : World) (hI : IsS94 w0 w g M1 N4 V1) (hB : Below w0.heap.size w0 w) (h : qbt.f M1 N4 V1 = some (r1, r2, r3, r4, r5)) :
    Calls Try.prog 24 #[.pointer (some ⟨g, 0, none⟩)] w fun e w' => ∃ mA : Value, e = .returned (.tuple #[.agg #[mA], .int .i64 r2, .int .i64 r3]) ∧ Kd.S k75 75 w' w.heap.size (fun _ => True) mA r1 ∧ IsS94 w0 w' g M1 r4 r5 ∧ Below w0.heap.size w0 w' ∧ qaT w w' g none := by
  have huh := Try.underlying25;have hun := Try.underlying75;have hus := Try.underlying94;unfold qbt.f at h;obtain ⟨⟨i0, n0, sd0⟩, hnx, h⟩ := Option.bind_eq_some_iff.1 h;simp only at h
  by_cases hi : 0 ≤ i0 ∧ i0 ≤ 19
  case neg => rw [if_neg hi] at h; cases h
  rw [if_pos hi] at h;obtain ⟨m, rfl⟩ : ∃ m : Nat, i0 = (m : Int) := ⟨i0.toNat, zbV⟩
  rw [Int.toNat_natCast] at h;have HF := z_ (And.intro h (show m ≤ 19 from zbV));have HNX := z_ hnx;have HW := z_ hB.size;obtain ⟨gr, hgr⟩ : ∃ gr, gr = w.heap.size := ⟨_, rfl⟩
  obtain ⟨W1, hW1⟩ : ∃ W1, W1 = w.alloc (Obj.cells #[.slice none 0 0] 25 (0, 0)) := ⟨_, rfl⟩
  have qO : Below w.heap.size w W1 := by rw [hW1]; exact qas (Below.refl _ _) _
  have HXR := z_ (show W1.heap[gr]? = some (.cells #[.slice none 0 0] 25 (0, 0)) from by rw [hW1, hgr]; exact qcb w _);have HI1 := z_ (hI.below qO);have HB1 := z_ (qad hB qO);have q7 := z_ (qaT.of_below qO g none);have HGR := z_ (show w.heap.size ≤ gr from zbV);have kM := z_ qO.size;clear h hi hnx qO hI hB
  go_enter Try.func24, Try.ntmps24
  go_upto_region 1 with fail
  rw [← hW1, ← hgr];clear hW1 hgr
  go_wp2_with fail
  refine (qea.calls (List.replicate 50 z75) W1 (if_pos zbT)).mono ?_;rintro e w1 ⟨v0, rfl, hS, hb1⟩;obtain ⟨gn, cn, rfl, _, _⟩ := Kd.qii hS (by rw [List.length_replicate]; decide);obtain ⟨hs, hhs⟩ : ∃ hs, hs = List.replicate 50 z75 := ⟨_, rfl⟩
  rw [← hhs] at hS HF ⊢;clear hhs;obtain ⟨gh, hgh⟩ : ∃ gh, gh = w1.heap.size := ⟨_, rfl⟩
  obtain ⟨W2, hW2⟩ : ∃ W2, W2 = w1.alloc (Obj.cells #[.slice (some ⟨gn, 0, none⟩) hs.length cn] 25 (0, 0)) := ⟨_, rfl⟩
  have hY2 : Below w1.heap.size w1 W2 := zbr;have HFR := z_ (show FrAt w0 w W2 g gh gr M1 N4 V1 gn cn hs from
    ⟨(HI1.o.below hb1).below hY2, qad (qad HB1.o hb1) hY2, (q7.o.trans (qaT.of_below hb1 g none) (.inl rfl)).trans (qaT.of_below hY2 g none) (.inl rfl),
     Kd.qdZ (Kd.qck (Kd.qcx (Kd.qet hS) (fun k hk e => by have := HI1.o.lt; have := hk.2.1; omega)) hY2) kM.o,
     by rw [hW2, hgh]; exact qcb w1 _, qap (qap HXR.o hb1) hY2, by have := hb1.size; have := kM.o; omega, HGR.o, by have := qbH HXR.o; have := hb1.size; omega, HW.o⟩)
  go_upto_region 2 with fail
  rw [← hW2, ← hgh];clear hW2 hgh hY2 hS hb1 HXR HI1 HB1 q7 HGR kM HW
  go_wp2_with fail
  refine (qbp.calls g M1 N4 V1 20 (m : Int) n0 sd0 w0 _ HFR.o.box HFR.o.below HNX.o).mono ?_;rintro e w2 ⟨rfl, hI2, hB2, hK2⟩;have cV := z_ (HFR.o.draw hI2 hB2 hK2);clear hI2 hB2 hK2 HFR HNX
  go_wp2_with fail
  go_loopw [6, 7, 8] (fun v6 v7 v8 wr => ∃ (i : Nat) (root kept n sd : Int) (gn cn : Nat) (hs : List S75), v6 = .int .i64 root ∧ v7 = .int .i64 kept ∧ v8 = .int .i64 (i : Int) ∧ Aside0 (forestF i M1 hs root kept n sd = some (r1, r2, r3, r4, r5) ∧ i ≤ 19) ∧ Aside0 (FrAt w0 w wr g gh gr M1 n sd gn cn hs)) (fun _ _ v8 _ => (intOf v8).toNat)
  case atStart => exact ⟨m, -1, -1, n0, sd0, gn, cn, hs, rfl, rfl, rfl, HF, cV⟩
  case round =>
    clear HF cV;obtain ⟨i, root, kept, n, sd, gn, cn, hs, rfl, rfl, rfl, HF, HFR⟩ := hrel;have dh := qac HFR.o.boxh 0;simp only [List.getElem?_toArray, List.getElem?_cons_zero] at dh
    cases i with
    | zero =>
      obtain ⟨hg, he⟩ := qh5 HF.o.1;injection he with e1 e2
      injection e2 with e2 e3
      injection e3 with e3 e4
      injection e4 with e4 e5
      subst e1 e2 e3 e4 e5;have HG := z_ hg;clear hg HF
      go_wp2_with fail
      refine (qa1.calls (hs.length + 1) (some ⟨gn, 0, none⟩) cn hs hs _ (Kd.qbU HFR.o.rows).2.2 (Kd.qbU HFR.o.rows).2.1 (own_is hs (by have := HG.o.len; omega) HG.o.tiny)).mono ?_;rintro e w3 ⟨v3, rfl, Xf, hb3⟩;have yK := z_ (HFR.o.qbE hb3);have HS3 := z_ (Kd.qdZ Xf HFR.o.keep.1);obtain ⟨gv, cv, rfl, _, _⟩ := Kd.qii Xf (by have := HG.o.len; omega);have dr := qac yK.o.boxr 0;simp only [List.getElem?_toArray, List.getElem?_cons_zero] at dr;have fr := qab yK.o.boxr 0;clear Xf hb3 dh HFR
      go_wp2_with fail
      refine bodyPost_ret (qdL rfl _ _ gr 25 #[.slice (some ⟨gv, 0, none⟩) hs.length cv] (0, 0) _ rfl (qbm (cs := #[.slice none 0 0]) yK.o.boxr 0 _ rfl) Try.underlying25 rfl zbS) rfl ?_;exact ⟨_, rfl, Kd.qji HS3.o yK.o.boxr qjP 0 _, yK.o.box.far (p := ⟨gr, 0, none⟩) yK.o.nr _, yK.o.below.setCell (p := ⟨gr, 0, none⟩) (Nat.le_trans yK.o.le yK.o.ger) _, qie yK.o.keep (p := ⟨gr, 0, none⟩) yK.o.ger _⟩
    | succ i =>
      obtain ⟨hg, key, n1, LK, dr, n2, II, x, n3, KK, kp, n4, uQ, h1, h2, h2', h3, h3', hk, hv, h4, h5⟩ := qh6 HF.o.1;have HI9 := z_ HF.o.2;have HG := z_ hg;have H1 := z_ h1;have H2 := z_ (And.intro h2 h2');have H3 := z_ (And.intro h3 h3');have HKV := z_ (And.intro hk hv);have H4 := z_ h4;have H5 := z_ h5;have wz : wrap64 (i : Int) = (i : Int) := by have := HI9.o; unfold wrap64; omega
      have HSM := z_ (qdH hg.tiny);have HLN := z_ hg.len;obtain ⟨kq, hkq⟩ := hg.reached;have HRQ := z_ hkq;obtain ⟨us, hus⟩ : ∃ us, us = qcf hs [root, kept] := ⟨_, rfl⟩
      rw [← hus] at HRQ;have HUS := z_ hus;have HUL := z_ (show us.length = 50 from by rw [hus]; exact qdI _ _);clear hg h1 h2 h2' h3 h3' hk hv h4 h5 hkq hus HF;have HBw := z_ (show Below wr.heap.size wr wr from Below.refl _ _)
      go_upto_region 7 with fail
      go_wp2_with ((with_reducible refine qaG (N := 28) rfl ?_); refine Kd.qcD (Kd.int .i64) wr.heap.size 3 zbX (N := 28) zbX (xs := ([root, kept] : List Int)) (inner := [.int .i64 root, .int .i64 kept]) (ok := fun _ => True) (okp := fun _ => True) zbv ?hp (fun _ hk => hk) trivial HBw.o HBw.o.size zbW ?_; (case hp => exact (Reps.one (show Kd.M (Kd.int .i64) _ _ _ root [.int .i64 root] from rfl) (Reps.one (show Kd.M (Kd.int .i64) _ _ _ kept [.int .i64 kept] from rfl) (Reps.none _ _)))); intro vl wl hol hbl hgl hnl; obtain ⟨A8, c8, rfl, wY, hc8⟩ := Kd.qbI hol; have xa := z_ (And.intro wY hc8); have HBL := z_ hbl; clear hol hbl hgl hnl wY hc8)
      have HFa := z_ (HFR.o.qbE HBL.o);refine (qag.calls kq (some ⟨gn, 0, none⟩) cn hs A8 c8 [root, kept] us true _ (Kd.qbU HFa.o.rows).2.2 (Kd.qbU HFa.o.rows).2.1 xa.o.2 xa.o.1 HRQ.o).mono ?_;rintro e w3 ⟨v3, rfl, tX, hb3⟩;obtain ⟨gu, cu, rfl, _, _⟩ := Kd.qcJ tX (by have := HUL.o; omega);have HFb := z_ (HFa.o.qbE hb3);have HUC := z_ (And.intro (Kd.qaU tX).2.1 (Kd.qiL (g := g) (Kd.qbb (Kd.qcG tX) (fun k hk (e : k = g) => by have := HFa.o.box.lt; have := hk.2.1; omega)) (fun _ h => h)));clear tX hb3 HFa HFR HBL HBw xa dh HRQ
      go_wp2_with fail
      refine (qb4.calls g M1 n sd key n1 LK w0 _ HFb.o.box HFb.o.below H1.o).mono ?_;rintro e w4 ⟨rfl, hI4, hB4, hK4⟩;have HFc := z_ (HFb.o.draw hI4 hB4 hK4);have HKP := z_ hK4;have dh := qac HFc.o.boxh 0;simp only [List.getElem?_toArray, List.getElem?_cons_zero] at dh;clear hI4 hB4 hK4 HFb H1
      go_wp2_with fail
      refine (qb1.calls (some ⟨gn, 0, none⟩) cn hs root (walkR hs root).1 (walkR hs root).2.1 (walkR hs root).2.2 _ (Kd.qbU HFc.o.rows).2.2 (Kd.qbU HFc.o.rows).2.1 (if_pos HSM.o)).mono ?_;obtain ⟨ps, hps⟩ : ∃ ps, ps = (walkR hs root).1 := ⟨_, rfl⟩
      obtain ⟨sk, hsk⟩ : ∃ sk, sk = (walkR hs root).2.1 := ⟨_, rfl⟩
      obtain ⟨ok, hok⟩ : ∃ ok, ok = (walkR hs root).2.2 := ⟨_, rfl⟩
      rw [← hps, ← hsk, ← hok];rw [← hps] at H2;have HPS := z_ (show ps.length < 9223372036854775807 from by
        rw [hps];have := (qix HG.o.walks.1).2.2.1;omega)
      clear hps hsk hok;rintro e w5 ⟨v5, v6, rfl, hR5, hR6, hb5⟩;obtain ⟨A5, c5, rfl, hl5, hc5⟩ := Kd.qbI hR5;have jX := z_ (And.intro hl5 hc5);obtain ⟨A6, c6, rfl, _, _⟩ := Kd.qbI hR6;have HFd := z_ (HFc.o.qbE hb5);have HKQ := z_ (HKP.o.trans (qaT.of_below hb5 g none) (.inl rfl));clear hR5 hR6 hl5 hc5 hb5 HFc HKP dh HSM;obtain ⟨kg, hkg⟩ := spec_get ps key HPS.o;have HKG := z_ (hkg kg (Nat.le_refl _));obtain ⟨gv, hgv⟩ : ∃ gv, gv = getV ps key := ⟨_, rfl⟩
      obtain ⟨hq, hhq⟩ : ∃ hq, hq = hasAt ps key := ⟨_, rfl⟩
      rw [← hgv, ← hhq] at HKG;have HQ := z_ hhq;clear hkg hgv hhq
      go_wp2_with fail
      refine (qdm.calls kg A5 c5 ps key gv hq _ jX.o.2 jX.o.1 HKG.o).mono ?_;rintro e w6 ⟨rfl, hb6⟩;have HFe := z_ (HFd.o.qbE hb6.below);have HKR := z_ (HKQ.o.trans (qaT.of_below hb6.below g none) (.inl rfl));clear hb6 HFd HKQ jX HKG HPS
      go_upto_region 11 with fail
      go_cut [51] (fun v51 wc => v51 = .bool dr ∧ Aside0 (FrAt w0 w wc g gh gr M1 n2 II gn cn hs) ∧ Aside0 (qaT w3 wc g none))
      case first =>
        cases hq with
        | true =>
          have HC := z_ (H2.o.1 HQ.o.symm)
          go_wp2_with fail
          refine (qbn.calls g M1 n1 LK 3 dr n2 II w0 _ HFe.o.box HFe.o.below HC.o).mono ?_;rintro e w7 ⟨rfl, hI7, hB7, ph⟩;have HFf := z_ (HFe.o.draw hI7 hB7 ph);have HKS := z_ (HKR.o.trans ph (.inl rfl));clear hI7 hB7 ph
          go_wp2_with fail
          go_meet
          case rel => exact ⟨rfl, HFf, HKS⟩
        | false =>
          obtain ⟨e1, e2, e3⟩ := H2.o.2 HQ.o.symm;clear H2;subst e1 e2 e3
          go_wp2_with fail
          go_meet
          case rel => exact ⟨rfl, HFe, HKR⟩
      case rest =>
        obtain ⟨rfl, HFf, HKS⟩ := hcut;clear HFe HKR H2;obtain ⟨d, ps', pg, hT, hu, hd, hbt⟩ := HG.o.change dr HKV.o.1 HKV.o.2;rw [← HUS.o] at hu hbt;have HCT := z_ (And.intro hT (And.intro hu (And.intro hd hbt)));have HRR := z_ (show qbC hs root us (dopB dr key x) key [⟨key, x⟩] = qbh hs root kept dr key x from by unfold qbh; rw [HUS.o]);clear hT hu hd hbt
        go_upto_if 51 with fail
        go_cut [6] (fun v6 wc => ∃ gm cm, v6 = .int .i64 (qbh hs root kept dr key x).2.1 ∧ Aside0 (FrAt w0 w wc g gh gr M1 n3 KK gm cm (qbh hs root kept dr key x).1))
        case first =>
          cases dr with
          | true =>
            as_aux_lemma =>
              obtain ⟨e1, e2, e3⟩ := H3.o.1 rfl;clear H3;subst e1 e2 e3;have dh := qac HFf.o.boxh 0;have fh := qab HFf.o.boxh 0;simp only [List.getElem?_toArray, List.getElem?_cons_zero] at dh
              go_wp2_with fail
              refine (schg key ⟨#[]⟩ true _ (some ⟨gn, 0, none⟩) cn hs root (some ⟨gu, 0, none⟩) cu us (Kd.qbU HFf.o.rows).2.2 (Kd.qbU HFf.o.rows).2.1 (HUC.o.2 _ HKS.o) HUC.o.1 HLN.o HUL.o HG.o.tiny d ps' pg HCT.o.1 HCT.o.2.1 HCT.o.2.2.1 HCT.o.2.2.2).mono ?_;rw [HRR.o];rintro e w8 ⟨v8, rfl, hf8, ht8, Ic⟩;obtain ⟨gm, cm, rfl, hS8⟩ := HFf.o.changed HG.o Ic hf8 ht8;have HFg := z_ (HFf.o.put Ic hS8);have HF8 := z_ (HFf.o.qbE Ic);have fh8 := qab HF8.o.boxh 0;have dh8 := qac HF8.o.boxh 0;simp only [List.getElem?_toArray, List.getElem?_cons_zero] at dh8;obtain ⟨R, hR⟩ : ∃ R, R = qbh hs root kept true key ⟨#[]⟩ := ⟨_, rfl⟩
              rw [← hR] at HFg ⊢;have HR := z_ hR;clear hf8 ht8 Ic hS8 dh fh HFf HRR hR
              go_wp2_with fail
              go_meet
              case rel =>
                have hr := HR.o;subst hr;exact ⟨gm, cm, rfl, HFg⟩
          | false =>
            have HPK := z_ (H3.o.2 rfl);clear H3
            as_aux_lemma =>
              go_upto_region 13 with fail
              refine qbY (n := 14) (S := fun w' => True) (ds := []) #[false, false, false, false, false, false, false, false, false, false, false, false, false, false] zbS rfl rfl trivial (fun hHeld => ?_);refine qbg sFor.tab13 sFor.bits13 (fun l4 R6 => ?_);have F0 := z_ (HFf.o.qbE (qaW (Below.refl _ _)));have KU := z_ (qgZ HKS.o);generalize wc.drew = wd at F0 KU ⊢;have BH := z_ F0.o.boxh;clear HFf HKS;refine qcd [0, 1, 2, 3, 4, 5, 6, 7, 8, 9, 10, 11, 12, 13] (fun E8 b a w' => ∃ (Al : Option Addr) (cl : Nat) (gm : Nat) (cm : Nat) (iD : Value) (i4 : Value) (o8 : Value) (J8 : Value), a = qa7 E8 b [(0, 62, .agg #[.slice (some ⟨gn, 0, none⟩) hs.length cn]), (1, 63, .int .i64 root), (2, 64, .slice (some ⟨gu, 0, none⟩) us.length cu), (3, 65, .string key), (4, 66, .pointer (some ⟨g, 0, none⟩)), (5, 67, iD), (6, 68, .string x), (7, 69, i4), (8, 61, o8), (9, 70, J8), (10, 71, .int .i64 (qbh hs root kept false key x).2.1), (11, 72, .bool (qbh hs root kept false key x).2.2), (13, 6, .int .i64 (qbh hs root kept false key x).2.1)] ∧ (b 6 = false → FrAt w0 w w' g gh gr M1 n2 II gn cn hs) ∧ (b 6 = true → b 12 = false → FrAt w0 w w' g gh gr M1 n3 KK gn cn hs) ∧ (b 12 = false → qaT w3 w' g none) ∧ (b 12 = false → w'.heap[gh]? = some (.cells #[.slice (some ⟨gn, 0, none⟩) hs.length cn] 25 (0, 0))) ∧ (b 5 = true → b 6 = false → Kd.C Kd.string w' Al 3 qfd ∧ 3 ≤ cl ∧ ∀ ad : Addr, Al = some ad → 0 < 3 → ad.block ≠ g) ∧ (b 7 = true → b 12 = false → Kd.S k75 75 w' w.heap.size (fun k => k ≠ g) (.slice (some ⟨gm, 0, none⟩) (qbh hs root kept false key x).1.length cm) (qbh hs root kept false key x).1) ∧ (b 12 = true → FrAt w0 w w' g gh gr M1 n3 KK gm cm (qbh hs root kept false key x).1) ∧ (b 5 = true → (iD : Value) = .slice Al 3 cl) ∧ (b 7 = true → (i4 : Value) = .tuple #[.agg #[.slice (some ⟨gm, 0, none⟩) (qbh hs root kept false key x).1.length cm], .int .i64 (qbh hs root kept false key x).2.1, .bool (qbh hs root kept false key x).2.2]) ∧ (b 8 = true → (o8 : Value) = .tuple #[.agg #[.slice (some ⟨gm, 0, none⟩) (qbh hs root kept false key x).1.length cm], .int .i64 (qbh hs root kept false key x).2.1, .bool (qbh hs root kept false key x).2.2]) ∧ (b 9 = true → (J8 : Value) = .agg #[.slice (some ⟨gm, 0, none⟩) (qbh hs root kept false key x).1.length cm])) l4.o R6.o zbS zbS ?_ ?_ ?_
              · exact ⟨none, 0, 0, 0, .bool false, .bool false, .bool false, .bool false, zaO, fun _ => F0.o, fun h_ => absurd h_ zbT, fun _ => KU.o, fun _ => BH.o, fun h_ => absurd h_ zbT, fun h_ => absurd h_ zbT, fun h_ => absurd h_ zbT, fun h_ => absurd h_ zbT, fun h_ => absurd h_ zbT, fun h_ => absurd h_ zbT, fun h_ => absurd h_ zbT⟩
              · skip;clear BH F0 KU;refine qaa ?_ ?_
                · rintro b a w' ⟨Al, cl, gm, cm, iD, i4, o8, J8, ha, QT⟩ hb_ hon hoff;refine ⟨_, rfl, fun K hK => ?_⟩;have e5 : a.tmps[5]? = some (.pointer (some ⟨gh, 0, none⟩)) := zbu;replace ha := z_ ha;have BH := z_ (QT.2.2.2.1 (hoff 12 zbS));have L7 := qac BH.o 0;simp only [List.getElem?_toArray, List.getElem?_cons_zero] at L7;refine qae (w1 := w') (v := .agg #[.slice (some ⟨gn, 0, none⟩) hs.length cn]) zbX rfl zbt ?_;refine hK.o _ _ ⟨Al, cl, gm, cm, iD, i4, o8, J8, zbg, QT⟩
                refine qaa ?_ ?_
                · rintro b a w' ⟨Al, cl, gm, cm, iD, i4, o8, J8, ha, QT⟩ hb_ hon hoff;refine ⟨_, rfl, fun K hK => ?_⟩;have e6 : a.tmps[6]? = some (.int .i64 root) := by rw [ha]; exact (qdz (hoff 13 zbS) rfl).trans rfl
                  replace ha := z_ ha;refine qae (w1 := w') (v := .int .i64 root) zbX rfl zbt ?_;refine hK.o _ _ ⟨Al, cl, gm, cm, iD, i4, o8, J8, zbh, QT⟩
                refine qaa ?_ ?_
                · rintro b a w' ⟨Al, cl, gm, cm, iD, i4, o8, J8, ha, QT⟩ hb_ hon hoff;refine ⟨_, rfl, fun K hK => ?_⟩;have e9 : a.tmps[9]? = some (.slice (some ⟨gu, 0, none⟩) us.length cu) := zbu;replace ha := z_ ha;refine qae (w1 := w') (v := .slice (some ⟨gu, 0, none⟩) us.length cu) zbX rfl zbt ?_;refine hK.o _ _ ⟨Al, cl, gm, cm, iD, i4, o8, J8, zbi, QT⟩
                refine qaa ?_ ?_
                · rintro b a w' ⟨Al, cl, gm, cm, iD, i4, o8, J8, ha, QT⟩ hb_ hon hoff;refine ⟨_, rfl, fun K hK => ?_⟩;have e11 : a.tmps[11]? = some (.string key) := zbu;replace ha := z_ ha;refine qae (w1 := w') (v := .string key) zbX rfl zbt ?_;refine hK.o _ _ ⟨Al, cl, gm, cm, iD, i4, o8, J8, zbj, QT⟩
                refine qaa ?_ ?_
                · rintro b a w' ⟨Al, cl, gm, cm, iD, i4, o8, J8, ha, QT⟩ hb_ hon hoff;refine ⟨_, rfl, fun K hK => ?_⟩;have e0 : a.tmps[0]? = some (.pointer (some ⟨g, 0, none⟩)) := zbu;replace ha := z_ ha;refine qae (w1 := w') (v := .pointer (some ⟨g, 0, none⟩)) zbX rfl zbt ?_;refine hK.o _ _ ⟨Al, cl, gm, cm, iD, i4, o8, J8, zbk, QT⟩
                refine qaa ?_ ?_
                · rintro b a w' ⟨Al, cl, gm, cm, iD, i4, o8, J8, ha, hG, OC, BB, kB, QG, cD, uF, Y7, Q3, Y5, k7⟩ hb_ hon hoff;refine ⟨_, rfl, fun K hK => ?_⟩;replace ha := z_ ha;have F0 := z_ (hG (hoff 6 zbS));have KU := z_ (BB (hoff 12 zbS));have BH := z_ (kB (hoff 12 zbS));refine Kd.qeQ Kd.string _ 9 zbX (N := 67) zbX (xs := qfd) (inner := [.string ⟨#[]⟩, .string ⟨#[49]⟩, .string ⟨#[118, 97, 108, 117, 101]⟩]) (ok := fun _ => True) (okp := fun _ => True) ?hr ?hp (fun _ hk => hk) trivial (Below.refl _ _) (Nat.le_refl _) zbT ?_
                  case hr => first | (go_simp; done) | (go_simp; rfl)
                  case hp => exact (Reps.one (show Kd.M Kd.string _ _ _ (⟨#[]⟩ : ByteArray) [.string ⟨#[]⟩] from rfl) (Reps.one (show Kd.M Kd.string _ _ _ (⟨#[49]⟩ : ByteArray) [.string ⟨#[49]⟩] from rfl) (Reps.one (show Kd.M Kd.string _ _ _ (⟨#[118, 97, 108, 117, 101]⟩ : ByteArray) [.string ⟨#[118, 97, 108, 117, 101]⟩] from rfl) (Reps.none _ _))))
                  intro v_ lO AK NY F5 XV;have WC : Below w'.heap.size w' lO := Below.grown (Below.refl _ _) F5 (Nat.le_refl _) (fun k hk => by cases hk);obtain ⟨nf, cl_, DK, hgl_, _⟩ := Kd.qcJ AK zbT;obtain ⟨_, bL, MC⟩ := Kd.qaU (DK ▸ AK);subst DK;refine hK.o _ _ ⟨(some ⟨nf, 0, none⟩), cl_, gm, cm, (.slice (some ⟨nf, 0, none⟩) 3 cl_), i4, o8, J8, zbl, fun _ => F0.o.qbE WC, nf_ (hoff 6 zbS), fun _ => KU.o.trans (qaT.of_below WC g none) (.inl rfl), fun _ => qap BH.o WC, fun _ _ => ⟨MC, bL, fun sT e_ _ => by cases e_; have h_ := F0.o.box.lt; exact fun (oX : nf = g) => zbV⟩, nf_ (hoff 7 zbS), nf_ (hoff 12 zbS), fun _ => rfl, nf_ (hoff 7 zbS), nf_ (hoff 8 zbS), nf_ (hoff 9 zbS)⟩
                refine qaa ?_ ?_
                · rintro b a w' ⟨Al, cl, gm, cm, iD, i4, o8, J8, ha, hG, OC, BB, kB, QG, cD, uF, Y7, Q3, Y5, k7⟩ hb_ hon hoff;refine ⟨_, rfl, fun K hK => ?_⟩;have ud : a.tmps[66]? = some (.pointer (some ⟨g, 0, none⟩)) := zon_ ha 4 rfl rfl hon;have yY : a.tmps[67]? = some (iD) := zon_ ha 5 rfl rfl hon;rw [Y7 (hon 5 zbS)] at yY;replace ha := z_ ha;have F0 := z_ (hG hb_);have KU := z_ (BB (hoff 12 zbS));have BH := z_ (kB (hoff 12 zbS));have LS := z_ (QG (hon 5 zbS) hb_);refine qdr Try.func57 zbS rfl #[.pointer (some ⟨g, 0, none⟩), .slice Al 3 cl] zbX rfl rfl (by first | (simp only [List.map_toArray, List.map_cons, List.map_nil, Act.eval, Array.getD_eq_getD_getElem?, Option.getD_some, ud, yY]; done) | (simp only [List.map_toArray, List.map_cons, List.map_nil, Act.eval, Array.getD_eq_getD_getElem?, Option.getD_some, ud, yY]; rfl)) ?_;refine (qbl.calls g M1 n2 II Al cl qfd x n3 KK w0 w' F0.o.box F0.o.below LS.o.1 LS.o.2.1 LS.o.2.2 HPK.o).mono ?_;rintro e_ lO ⟨rfl, hi_, NY, fY⟩;refine ⟨_, rfl, ?_⟩;refine hK.o _ _ ⟨Al, cl, gm, cm, iD, i4, o8, J8, zbm, fun N7 => absurd ((qa5 b 6).symm.trans N7) zbT, fun _ _ => F0.o.draw hi_ NY fY, fun _ => KU.o.trans fY (.inl rfl), fun _ => fY.blk BH.o F0.o.nh.symm zbW, fun _ u3 => absurd ((qa5 b 6).symm.trans u3) zbT, nf_ (hoff 7 zbS), nf_ (hoff 12 zbS), Y7, nf_ (hoff 7 zbS), nf_ (hoff 8 zbS), nf_ (hoff 9 zbS)⟩
                refine qaa ?_ ?_
                · rintro b a w' ⟨Al, cl, gm, cm, iD, i4, o8, J8, ha, hG, OC, BB, kB, QG, cD, uF, Y7, Q3, Y5, k7⟩ hb_ hon hoff;refine ⟨_, rfl, fun K hK => ?_⟩;have e62 : a.tmps[62]? = some (.agg #[.slice (some ⟨gn, 0, none⟩) hs.length cn]) := zon_ ha 0 rfl rfl hon;have e63 : a.tmps[63]? = some (.int .i64 root) := zon_ ha 1 rfl rfl hon;have e64 : a.tmps[64]? = some (.slice (some ⟨gu, 0, none⟩) us.length cu) := zon_ ha 2 rfl rfl hon;have e65 : a.tmps[65]? = some (.string key) := zon_ ha 3 rfl rfl hon;have rQ : a.tmps[68]? = some (.string x) := zon_ ha 6 rfl rfl hon;replace ha := z_ ha;have F1 := z_ (OC (hon 6 zbS) (hoff 12 zbS));have KU := z_ (BB (hoff 12 zbS));have BH := z_ (kB (hoff 12 zbS));refine qdr Try.func39 zbS rfl #[.agg #[.slice (some ⟨gn, 0, none⟩) hs.length cn], .int .i64 root, .slice (some ⟨gu, 0, none⟩) us.length cu, .string key, .string x, .bool false] zbX rfl rfl (by first | (simp only [List.map_toArray, List.map_cons, List.map_nil, Act.eval, Array.getD_eq_getD_getElem?, Option.getD_some, e62, e63, e64, e65, rQ]; done) | (simp only [List.map_toArray, List.map_cons, List.map_nil, Act.eval, Array.getD_eq_getD_getElem?, Option.getD_some, e62, e63, e64, e65, rQ]; rfl)) ?_;refine (schg key x false w' (some ⟨gn, 0, none⟩) cn hs root (some ⟨gu, 0, none⟩) cu us (Kd.qbU F1.o.rows).2.2 (Kd.qbU F1.o.rows).2.1 (HUC.o.2 _ KU.o) HUC.o.1 HLN.o HUL.o HG.o.tiny d ps' pg HCT.o.1 HCT.o.2.1 HCT.o.2.2.1 HCT.o.2.2.2).mono ?_;rw [HRR.o];rintro e_ lO ⟨v8_, rfl, jf, Ih, U2⟩;obtain ⟨gm_, cm_, rfl, xe⟩ := F1.o.changed HG.o U2 jf Ih;refine ⟨_, rfl, ?_⟩;refine hK.o _ _ ⟨Al, cl, gm_, cm_, iD, (.tuple #[.agg #[.slice (some ⟨gm_, 0, none⟩) (qbh hs root kept false key x).1.length cm_], .int .i64 (qbh hs root kept false key x).2.1, .bool (qbh hs root kept false key x).2.2]), o8, J8, zbn, nt_ (hon 6 zbS), fun _ _ => F1.o.qbE U2, fun _ => KU.o.trans (qaT.of_below U2 g none) (.inl rfl), fun _ => qap BH.o U2, fun _ u3 => absurd ((hon 6 zbS).symm.trans u3) zbT, fun _ _ => xe, nf_ (hoff 12 zbS), Y7, fun _ => rfl, nf_ (hoff 8 zbS), nf_ (hoff 9 zbS)⟩
                refine qaa ?_ ?_
                · rintro b a w' ⟨Al, cl, gm, cm, iD, i4, o8, J8, ha, hG, OC, BB, kB, QG, cD, uF, Y7, Q3, Y5, k7⟩ hb_ hon hoff;refine ⟨_, rfl, fun K hK => ?_⟩;have fR : a.tmps[69]? = some (i4) := zon_ ha 7 rfl rfl hon;rw [Q3 (hon 7 zbS)] at fR;replace ha := z_ ha;refine qae (w1 := w') (v := .tuple #[.agg #[.slice (some ⟨gm, 0, none⟩) (qbh hs root kept false key x).1.length cm], .int .i64 (qbh hs root kept false key x).2.1, .bool (qbh hs root kept false key x).2.2]) zbX rfl zbt ?_;refine hK.o _ _ ⟨Al, cl, gm, cm, iD, i4, (.tuple #[.agg #[.slice (some ⟨gm, 0, none⟩) (qbh hs root kept false key x).1.length cm], .int .i64 (qbh hs root kept false key x).2.1, .bool (qbh hs root kept false key x).2.2]), J8, zbo, nt_ (hon 6 zbS), OC, BB, kB, fun _ u3 => absurd ((hon 6 zbS).symm.trans u3) zbT, cD, nf_ (hoff 12 zbS), Y7, Q3, fun _ => rfl, nf_ (hoff 9 zbS)⟩
                refine qaa ?_ ?_
                · rintro b a w' ⟨Al, cl, gm, cm, iD, i4, o8, J8, ha, hG, OC, BB, kB, QG, cD, uF, Y7, Q3, Y5, k7⟩ hb_ hon hoff;refine ⟨_, rfl, fun K hK => ?_⟩;have e61 : a.tmps[61]? = some (o8) := zon_ ha 8 rfl rfl hon;rw [Y5 (hon 8 zbS)] at e61;replace ha := z_ ha;refine qae (w1 := w') (v := .agg #[.slice (some ⟨gm, 0, none⟩) (qbh hs root kept false key x).1.length cm]) zbX rfl zbt ?_;refine hK.o _ _ ⟨Al, cl, gm, cm, iD, i4, o8, (.agg #[.slice (some ⟨gm, 0, none⟩) (qbh hs root kept false key x).1.length cm]), zbp, nt_ (hon 6 zbS), OC, BB, kB, fun _ u3 => absurd ((hon 6 zbS).symm.trans u3) zbT, cD, nf_ (hoff 12 zbS), Y7, Q3, Y5, fun _ => rfl⟩
                refine qaa ?_ ?_
                · rintro b a w' ⟨Al, cl, gm, cm, iD, i4, o8, J8, ha, hG, OC, BB, kB, QG, cD, uF, Y7, Q3, Y5, k7⟩ hb_ hon hoff;refine ⟨_, rfl, fun K hK => ?_⟩;have e61 : a.tmps[61]? = some (o8) := zon_ ha 8 rfl rfl hon;rw [Y5 (hon 8 zbS)] at e61;replace ha := z_ ha;refine qae (w1 := w') (v := .int .i64 (qbh hs root kept false key x).2.1) zbX rfl zbt ?_;refine hK.o _ _ ⟨Al, cl, gm, cm, iD, i4, o8, J8, zaP, nt_ (hon 6 zbS), OC, BB, kB, fun _ u3 => absurd ((hon 6 zbS).symm.trans u3) zbT, cD, uF, Y7, Q3, Y5, k7⟩
                refine qaa ?_ ?_
                · rintro b a w' ⟨Al, cl, gm, cm, iD, i4, o8, J8, ha, hG, OC, BB, kB, QG, cD, uF, Y7, Q3, Y5, k7⟩ hb_ hon hoff;refine ⟨_, rfl, fun K hK => ?_⟩;have e61 : a.tmps[61]? = some (o8) := zon_ ha 8 rfl rfl hon;rw [Y5 (hon 8 zbS)] at e61;replace ha := z_ ha;refine qae (w1 := w') (v := .bool (qbh hs root kept false key x).2.2) zbX rfl zbt ?_;refine hK.o _ _ ⟨Al, cl, gm, cm, iD, i4, o8, J8, zaQ, nt_ (hon 6 zbS), OC, BB, kB, fun _ u3 => absurd ((hon 6 zbS).symm.trans u3) zbT, cD, uF, Y7, Q3, Y5, k7⟩
                refine qaa ?_ ?_
                · rintro b a w' ⟨Al, cl, gm, cm, iD, i4, o8, J8, ha, hG, OC, BB, kB, QG, cD, uF, Y7, Q3, Y5, k7⟩ hb_ hon hoff;refine ⟨_, rfl, fun K hK => ?_⟩;have e5 : a.tmps[5]? = some (.pointer (some ⟨gh, 0, none⟩)) := zbu;have ZX : a.tmps[70]? = some (J8) := zon_ ha 9 rfl rfl hon;rw [k7 (hon 9 zbS)] at ZX;replace ha := z_ ha;have F1 := z_ (OC (hon 6 zbS) hb_);have BH := z_ (kB hb_);have SN := z_ (cD (hon 7 zbS) hb_);have fh_ := qab BH.o 0;have L7 := qac BH.o 0;simp only [List.getElem?_toArray, List.getElem?_cons_zero] at L7;refine qeR (w1 := w'.setCell ⟨gh, 0, none⟩ (.slice (some ⟨gm, 0, none⟩) (qbh hs root kept false key x).1.length cm)) zbX rfl zbP ?_;refine hK.o _ _ ⟨Al, cl, gm, cm, iD, i4, o8, J8, zbq, nt_ (hon 6 zbS), fun _ u3 => absurd ((qa5 b 12).symm.trans u3) zbT, fun N7 => absurd ((qa5 b 12).symm.trans N7) zbT, fun N7 => absurd ((qa5 b 12).symm.trans N7) zbT, fun _ u3 => absurd ((hon 6 zbS).symm.trans u3) zbT, fun _ u3 => absurd ((qa5 b 12).symm.trans u3) zbT, fun _ => F1.o.put (Below.refl _ _) SN.o, Y7, Q3, Y5, k7⟩
                refine qaa ?_ ?_
                · rintro b a w' ⟨Al, cl, gm, cm, iD, i4, o8, J8, ha, hG, OC, BB, kB, QG, cD, uF, Y7, Q3, Y5, k7⟩ hb_ hon hoff;refine ⟨_, rfl, fun K hK => ?_⟩;have RC : a.tmps[71]? = some (.int .i64 (qbh hs root kept false key x).2.1) := zon_ ha 10 rfl rfl hon;replace ha := z_ ha;refine qae (w1 := w') (v := .int .i64 (qbh hs root kept false key x).2.1) zbX rfl zbt ?_;refine hK.o _ _ ⟨Al, cl, gm, cm, iD, i4, o8, J8, zaR, nt_ (hon 6 zbS), fun _ u3 => absurd ((hon 12 zbS).symm.trans u3) zbT, nt_ (hon 12 zbS), nt_ (hon 12 zbS), fun _ u3 => absurd ((hon 6 zbS).symm.trans u3) zbT, fun _ u3 => absurd ((hon 12 zbS).symm.trans u3) zbT, uF, Y7, Q3, Y5, k7⟩
                exact qbo
              rintro b a wE hall ⟨Al, cl, gm, cm, iD, i4, o8, J8, ha, hG, OC, BB, kB, QG, cD, uF, Y7, Q3, Y5, k7⟩;clear BH F0 KU;have X2 := hall 0 zbS;have X1 := hall 1 zbS;have N2 := hall 2 zbS;have M2 := hall 3 zbS;have I2 := hall 4 zbS;have D3 := hall 5 zbS;have j3 := hall 6 zbS;have i3 := hall 7 zbS;have U2 := hall 8 zbS;have Y2 := hall 9 zbS;have D2 := hall 10 zbS;have Q2 := hall 11 zbS;have F2 := hall 12 zbS;have j4 := hall 13 zbS;subst ha;obtain rfl := Y7 D3;obtain rfl := Q3 i3;obtain rfl := Y5 U2;obtain rfl := k7 Y2;simp only [qa7, X2, X1, N2, M2, I2, D3, j3, i3, U2, Y2, D2, Q2, F2, j4, if_true, Act.put, List.setIfInBounds_toArray, List.set_cons_zero, List.set_cons_succ];clear hG OC BB kB QG cD;have FG := z_ (uF F2);clear uF hall X2 X1 N2 M2 I2 D3 j3 i3 U2 Y2 D2 Q2 F2 j4
              go_wp2_with fail
              go_meet
              case rel => exact ⟨gm, cm, rfl, FG⟩
        case rest =>
          as_aux_lemma =>
            obtain ⟨gm, cm, rfl, HFh⟩ := hcut;obtain ⟨R, hR⟩ : ∃ R, R = qbh hs root kept dr key x := ⟨_, rfl⟩
            rw [← hR] at HFh H5 ⊢;clear hR H3 HUC
            go_wp2_with fail
            refine (qbn.calls g M1 n3 KK 7 kp n4 uQ w0 _ HFh.o.box HFh.o.below H4.o).mono ?_;rintro e w9 ⟨rfl, hI9, hB9, hK9⟩;have HFi := z_ (HFh.o.draw hI9 hB9 hK9);have HLE := z_ (show i ≤ 19 from by have := HI9.o; omega);clear hI9 hB9 hK9 HFh H4
            cases kp with
            | true =>
              rw [if_pos rfl] at H5
              go_wp2_with fail
              rw [wz]
              go_roundw
              case rel => exact ⟨i, _, _, n4, uQ, gm, cm, _, rfl, rfl, rfl, ⟨H5.o, HLE.o⟩, HFi⟩
              case measure => simp [intOf]
            | false =>
              rw [if_neg zbT] at H5
              go_wp2_with fail
              rw [wz]
              go_roundw
              case rel => exact ⟨i, _, _, n4, uQ, gm, cm, _, rfl, rfl, rfl, ⟨H5.o, HLE.o⟩, HFi⟩
              case measure => simp [intOf]
end Go.Proofs.Ytcdokcpiahbejaa.X
namespace Go.Proofs.Ytcdokcpiahbejaa.X
open Go.RowKit Go.Proofs.YtcdokcpiahbejaaW.PrintWords Go.Proofs.YtcdokcpiahbejaaW.PrintLast Go.Proofs.YtcdokcpiahbejaaW.PrintMore
attribute [local go_sem] qax qay qaz qat qau qaJ qaK qam qan qav qaw
set_option linter.unusedVariables false
set_option linter.unusedSimpArgs false
noncomputable def qcq.f (l0 : List Int) : Option ((List (S75)) × Int × Int) := (qct.f l0).bind fun RG => ((qbt.f RG.1 RG.2.1 RG.2.2).bind fun IG => (some (IG.1, IG.2.1, IG.2.2.1)))
set_option maxHeartbeats 8000000 in
set_option maxRecDepth 100000 in
theorem qcq.calls (A0 : Option Addr) (c0 : Nat) (l0 : List Int) (r1 : List (S75)) (r2 : Int) (r3 : Int) (w : World) (hr0 : Kd.C (Kd.int .u8) w A0 l0.length l0) (hc0 : l0.length ≤ c0) (h : qcq.f l0 = some (r1, r2, r3)) :
  Calls Try.prog 6 #[.slice A0 l0.length c0] w fun e w' => ∃ mA : Value, e = .returned (.agg #[mA, .int .i64 r2, .int .i64 r3]) ∧ Kd.S k75 75 w' w.heap.size (fun _ => True) mA r1 ∧ Below w.heap.size w w' := by
 have gg := Try.underlying27;have bI := Try.underlying25;have I7 := z_ hr0;have OF := z_ hc0;clear hr0 hc0;have HB := z_ (Below.refl w.heap.size w);have H : ((qct.f l0).bind fun RG => ((qbt.f RG.1 RG.2.1 RG.2.2).bind fun IG => (some (IG.1, IG.2.1, IG.2.2.1)))) = some (r1, r2, r3) := h;clear h;replace H := Option.bind_eq_some_iff.mp H;obtain ⟨⟨VQ, AZ, lY⟩, LH, H⟩ := H;try dsimp only at H
 have A2 := z_ LH;clear LH;replace H := Option.bind_eq_some_iff.mp H;obtain ⟨⟨iO, eS, LV, CW, UW⟩, jI, H⟩ := H;try dsimp only at H
 have A3 := z_ jI;clear jI;simp only [Option.some.injEq, Prod.mk.injEq] at H;obtain ⟨rfl, rfl, rfl⟩ := H
 go_enter Try.func6, Try.ntmps6
 go_wp2_with (first | ((with_reducible refine qaG (N := 2) rfl ?_); refine qaS zbX (N := 2) zbX (cs := #[.slice none 0 0, .int .i64 0, .int .i64 0]) (t := 27) zbv ?_; intro q8 hg w4 hbox hb; have H0 := z_ (qad zaq hb); have I0 := z_ (hbox); have K0 := z_ ((zal : w.heap.size ≤ q8)); have U0 := z_ ((zal : w.heap.size ≤ q8)); clear HB; have HB := H0; have n7 := I0; have GW391 := K0; have YG := U0; clear H0 I0 K0 U0; clear hb hbox hg) | ((with_reducible refine qaD (f := 23) rfl ?_); refine qbk (some 8) rfl rfl Try.func23 zbS rfl #[.slice A0 l0.length c0] rfl zao ?_; (with_reducible refine (qct.calls _ _ l0 VQ AZ lY w _ ?side1 ?side2 ?side3 A2.o).mono ?_); (case side1 => repeat (first | (with_reducible first | exact HB.o | apply qas | apply qaQ | apply qaP | refine qa4 ?_ YG.o) | exact HB.o)); (case side2 => exact I7.o); (case side3 => exact OF.o); rintro e w5 ⟨ZN, rfl, hi, hb, hb2⟩; refine ⟨_, rfl, ?_⟩; have H0 := z_ (qap (g := q8) (o := .cells #[.slice none 0 0, .int .i64 0, .int .i64 0] 27 (0, 0)) (zac n7.o) hb2); have I0 := z_ (hb); have K0 := z_ (hi); have U0 := z_ (IsS94.qiC hi (qap (g := q8) (o := .cells #[.slice none 0 0, .int .i64 0, .int .i64 0] 27 (0, 0)) (zac n7.o) hb2) zbT); have N5 := z_ (Ne.symm (IsS94.qiC hi (qap (g := q8) (o := .cells #[.slice none 0 0, .int .i64 0, .int .i64 0] 27 (0, 0)) (zac n7.o) hb2) zbT)); clear n7 HB; have n7 := H0; have HB := I0; have t8 := K0; have qA := U0; have KH := N5; clear H0 I0 K0 U0 N5; (try clear hb); (try clear hb2); (try clear hk); (try clear hi)) | ((with_reducible refine qaD (f := 24) rfl ?_); refine qbk (some 9) rfl rfl Try.func24 zbS rfl #[.pointer (some ⟨ZN, 0, none⟩)] rfl zao ?_; (with_reducible refine (qbt.calls ZN VQ AZ lY iO eS LV CW UW w _ ?side1 ?side2 A3.o).mono ?_); (case side1 => repeat (first | (with_reducible first | exact t8.o | apply IsS94.alloc | apply IsS94.drewN | apply IsS94.drew | apply IsS94.qff | apply IsS94.qfg | refine IsS94.far ?_ qA.o _) | exact t8.o)); (case side2 => repeat (first | (with_reducible first | exact HB.o | apply qas | apply qaQ | apply qaP | refine qa4 ?_ (IsS94.ge t8.o) | refine qa4 ?_ YG.o) | exact HB.o)); rintro e w6 ⟨v397, rfl, ho0, hi, hb, hk⟩; refine ⟨_, rfl, ?_⟩; have H0 := z_ (qaT.blk hk (g' := q8) (o := .cells #[.slice none 0 0, .int .i64 0, .int .i64 0] 27 (0, 0)) (zac n7.o) KH.o zbW); have I0 := z_ (Kd.qdZ ho0 (qaC (by repeat (first | (with_reducible first | exact HB.o | apply qas | apply qaQ | apply qaP | refine qa4 ?_ (IsS94.ge t8.o) | refine qa4 ?_ YG.o) | exact HB.o)))); have K0 := z_ (hb); have U0 := z_ (hi); clear n7 HB t8; have n7 := H0; have tK := I0; have HB := K0; have t8 := U0; clear H0 I0 K0 U0; (try clear hb); (try clear hb2); (try clear hk); (try clear hi); (try clear ho0)) | ((with_reducible refine qaG (N := 3) rfl ?_); refine qaS zbX (N := 3) zbX (cs := #[.slice none 0 0]) (t := 25) zbv ?_; intro VF hg w7 hbox hb; have H0 := z_ (Kd.qck (zag tK.o) hb); have I0 := z_ (qap (g := q8) (o := .cells #[.slice none 0 0, .int .i64 0, .int .i64 0] 27 (0, 0)) (zac n7.o) hb); have K0 := z_ (IsS94.below (by repeat (first | (with_reducible first | exact t8.o | apply IsS94.alloc | apply IsS94.drewN | apply IsS94.drew | apply IsS94.qff | apply IsS94.qfg | refine IsS94.far ?_ qA.o _) | exact t8.o)) hb); have U0 := z_ (qad (by repeat (first | (with_reducible first | exact HB.o | apply qas | apply qaQ | apply qaP | refine qa4 ?_ (IsS94.ge t8.o) | refine qa4 ?_ YG.o) | exact HB.o)) hb); have N5 := z_ (hbox); have b9 := z_ ((by rw [hg]; exact (qaC (by repeat (first | (with_reducible first | exact HB.o | apply qas | apply qaQ | apply qaP | refine qa4 ?_ (IsS94.ge t8.o) | refine qa4 ?_ YG.o) | exact HB.o))) : w.heap.size ≤ VF)); have WF := z_ ((by rw [hg]; exact (qaC (by repeat (first | (with_reducible first | exact HB.o | apply qas | apply qaQ | apply qaP | refine qa4 ?_ (IsS94.ge t8.o) | refine qa4 ?_ YG.o) | exact HB.o))) : w.heap.size ≤ VF)); have qK := z_ ((by rw [hg]; exact Nat.ne_of_lt (qbH (g := q8) (o := .cells #[.slice none 0 0, .int .i64 0, .int .i64 0] 27 (0, 0)) (zac n7.o)) : q8 ≠ VF)); have oP := z_ ((by rw [hg]; exact Nat.ne_of_gt (qbH (g := q8) (o := .cells #[.slice none 0 0, .int .i64 0, .int .i64 0] 27 (0, 0)) (zac n7.o)) : VF ≠ q8)); have aU := z_ ((by rw [hg]; exact Nat.ne_of_lt (IsS94.lt (show IsS94 w _ ZN VQ CW UW from by repeat (first | (with_reducible first | exact t8.o | apply IsS94.alloc | apply IsS94.drewN | apply IsS94.drew | apply IsS94.qff | apply IsS94.qfg | refine IsS94.far ?_ qA.o _) | exact t8.o))) : ZN ≠ VF)); have DP := z_ ((by rw [hg]; exact Nat.ne_of_gt (IsS94.lt (show IsS94 w _ ZN VQ CW UW from by repeat (first | (with_reducible first | exact t8.o | apply IsS94.alloc | apply IsS94.drewN | apply IsS94.drew | apply IsS94.qff | apply IsS94.qfg | refine IsS94.far ?_ qA.o _) | exact t8.o))) : VF ≠ ZN)); clear tK n7 t8 HB; have tK := H0; have n7 := I0; have t8 := K0; have HB := U0; have lP := N5; have GW403 := b9; have VZ := WF; have GH := qK; have VN := oP; have EN := aU; have dO := DP; clear H0 I0 K0 U0 N5 b9 WF qK oP aU DP hb hbox hg; obtain ⟨QX, zY, eo8⟩ := Kd.qeT tK.o; subst eo8; have rY := VN.o; have XZ := GH.o; have hnb10 := dO.o; have hnc10 := EN.o; have iI : w7.cell? ⟨VF, 0, none⟩ = some (.slice none 0 0) := (qac lP.o 0).trans rfl; have pI := qab lP.o 0; have hnb12 := KH.o; have hnc12 := qA.o; have vI : w7.cell? ⟨q8, 0, none⟩ = some (.slice none 0 0) := (qac n7.o 0).trans rfl; have RM : w7.cell? ⟨q8, 1, none⟩ = some (.int .i64 0) := (qac n7.o 1).trans rfl; have tS : w7.cell? ⟨q8, 2, none⟩ = some (.int .i64 0) := (qac n7.o 2).trans rfl; have WH := qab n7.o 0; have lM := qab n7.o 1; have KR := qab n7.o 2))
 refine bodyPost_ret (results_cell_row rfl _ _ q8 27 #[.slice QX iO.length zY, .int .i64 eS, .int .i64 LV] (0, 0) _ rfl (by (with_reducible repeat (first | refine qaj ?_ _ | refine qai ?_ | refine qah ?_ _)); refine qbm (cs := #[.slice QX iO.length zY, .int .i64 eS, .int .i64 0]) ?_ 2 _ rfl; (with_reducible repeat (first | refine qaj ?_ _ | refine qai ?_ | refine qah ?_ _)); refine qbm (cs := #[.slice QX iO.length zY, .int .i64 0, .int .i64 0]) ?_ 1 _ rfl; (with_reducible repeat (first | refine qaj ?_ _ | refine qai ?_ | refine qah ?_ _)); refine qbm (cs := #[.slice none 0 0, .int .i64 0, .int .i64 0]) ?_ 0 _ rfl; (with_reducible repeat (first | refine qaj ?_ _ | refine qai ?_ | refine qah ?_ _)); refine qbF ?_ GH.o _; (with_reducible repeat (first | refine qaj ?_ _ | refine qai ?_ | refine qah ?_ _)); exact n7.o) Try.underlying27 rfl zbS) rfl ?_;exact ⟨_, zaF, by (with_reducible repeat (first | apply Kd.qcO | apply Kd.qcP | apply Kd.qc9)); exact Kd.qcx (Kd.qeF (p := ⟨q8, 2, none⟩) (Kd.qeF (p := ⟨q8, 1, none⟩) (Kd.qeF (p := ⟨q8, 0, none⟩) (Kd.qeF (p := ⟨VF, 0, none⟩) (Kd.qdx (Kd.qdx tK.o lP.o zbT) n7.o zbT) (fun _ hk => hk.1.2) (.slice QX iO.length zY)) (fun _ hk => hk.2) (.slice QX iO.length zY)) (fun _ hk => hk.2) (.int .i64 eS)) (fun _ hk => hk.2) (.int .i64 LV)) (fun _ hk => trivial), by repeat (first | (with_reducible first | exact HB.o | apply qas | apply qaQ | apply qaP | refine qa4 ?_ (IsS94.ge t8.o) | refine qa4 ?_ YG.o | refine qa4 ?_ VZ.o) | exact HB.o)⟩
def qdq {α : Type} (p : α → Bool) (l : List α) : Int := if l.any p then (l.findIdx p : Int) else -1
theorem qhE {α : Type} {p : α → Bool} {l : List α} {k : Nat} (hk : k < l.length) (hn : ∀ j (hj : j < l.length), j < k → p l[j] = false) (h : p l[k] = true) : qdq p l = k := by
 have hi : l.findIdx p = k := (List.findIdx_eq hk).2 ⟨h, fun j hj => by simpa using hn j zbV hj⟩;have ha : l.any p = true := List.any_eq_true.2 ⟨l[k], List.getElem_mem hk, h⟩;unfold qdq;rw [if_pos ha, hi]
theorem qhF {α : Type} {p : α → Bool} {l : List α} (hn : ∀ j (hj : j < l.length), p l[j] = false) : qdq p l = -1 := by
 unfold qdq;rw [if_neg];intro h;obtain ⟨x, hx, hp⟩ := List.any_eq_true.1 h;obtain ⟨j, hj, rfl⟩ := List.getElem_of_mem hx;rw [hn j hj] at hp
 cases hp
set_option maxHeartbeats 1000000 in
set_option maxRecDepth 100000 in
theorem qgO (p : Int → Bool) (g : Nat) (lb : Array Value) (eg : ∀ args w, (callFunc g args).run Try.prog w = .ok (.enter g args) w) (A0 : Option Addr) (c0 : Nat) (l0 : List Int) (w : World) (hr0 : Kd.C (Kd.int .i64) w A0 l0.length l0)
  (hp : ∀ (x : Int) (W : World), x ∈ l0 → Below w.heap.size w W → Calls Try.prog g (#[.int .i64 x] ++ lb) W fun e W' => e = .returned (.bool (p x)) ∧ Below W.heap.size W W') :
  Calls Try.prog 83 #[.slice A0 l0.length c0, .func (.func g) #[] lb] w fun e w' => e = .returned (.int .i64 (qdq p l0)) ∧ Below w.heap.size w w' := by
 have hm : l0.length ≤ 9223372036854775807 := hr0.2.1;have I7 := z_ hr0;have HP := z_ hp;clear hr0 hp
 go_enter Try.func83, Try.ntmps83
 go_wp2_with fail
 go_loopw [8] (fun v8 wr => ∃ k : Nat, k ≤ l0.length ∧ v8 = .int .i64 k ∧ Aside0 (∀ j (hj : j < l0.length), j < k → p l0[j] = false) ∧ Aside0 (Below w.heap.size w wr)) (fun v8 _ => l0.length - (intOf v8).toNat)
 case atStart => exact ⟨0, Nat.zero_le _, rfl, ⟨fun j hj h => absurd h zbV⟩, ⟨Below.refl _ _⟩⟩
 case round =>
  obtain ⟨k, hk, rfl, HN, HB⟩ := hrel
  by_cases hlt : k < l0.length
  ·have p1 : 0 ≤ (k : Int) := zbV;have q1 : (k : Int) < (l0.length : Int) := zbV;obtain ⟨ad1, e1, hx0⟩ := Kd.qbN I7.o (k : Int) p1 q1;have hx : rd l0 (k : Int) = l0[k] := by unfold rd; rw [Int.toNat_natCast]; simp [List.getD_eq_getElem?_getD, hlt]
   rw [hx] at hx0
   cases e1
   replace hx0 := (HB.o.cell (World.block_lt_of_cell? w _ hx0)).trans hx0;rw [Int.toNat_natCast] at hx0;clear hx;have hb := fun W hW => HP.o l0[k] W (List.getElem_mem hlt) hW
   have HB2 := z_ hb;clear hb
   cases hpk : p l0[k] with
   | true =>
    have HK := z_ hpk;clear hpk
    go_wp2_with fail
    refine (HB2.o _ HB.o).mono ?_;rintro e w1 ⟨rfl, hb1⟩;rw [HK.o]
    go_wp2_with fail
    go_ret
    exact ⟨by rw [qhE hlt HN.o HK.o]; rfl, qad HB.o hb1⟩
   | false =>
    have HK := z_ hpk;clear hpk
    go_wp2_with fail
    refine (HB2.o _ HB.o).mono ?_;rintro e w1 ⟨rfl, hb1⟩;rw [HK.o]
    go_wp2_with fail
    go_roundw
    case rel => exact ⟨k + 1, zbV, zbU, ⟨fun j hj h => by
     by_cases e : j = k
     ·subst e; exact HK.o
     ·exact HN.o j hj zbV⟩, ⟨qad HB.o hb1⟩⟩
    case measure => simp [intOf]; omega
  ·go_wp2_with fail
   go_ret
   exact ⟨by rw [qhF fun j hj => HN.o j hj zbV]; rfl, HB.o⟩
set_option maxRecDepth 100000 in
theorem qfh (p : Int → Bool) (g : Nat) (lb : Array Value) (eg : ∀ args w, (callFunc g args).run Try.prog w = .ok (.enter g args) w) (A0 : Option Addr) (c0 : Nat) (l0 : List Int) (w : World) (hr0 : Kd.C (Kd.int .i64) w A0 l0.length l0)
  (hp : ∀ (x : Int) (W : World), x ∈ l0 → Below w.heap.size w W → Calls Try.prog g (#[.int .i64 x] ++ lb) W fun e W' => e = .returned (.bool (p x)) ∧ Below W.heap.size W W') :
  Calls Try.prog 58 #[.slice A0 l0.length c0, .func (.func g) #[] lb] w fun e w' => e = .returned (.bool (l0.any p)) ∧ Below w.heap.size w w' := by
 have HC := z_ (qgO p g lb eg A0 c0 l0 w hr0 hp);clear hr0 hp
 cases ha : l0.any p with
 | true =>
  have h1 : 0 ≤ qdq p l0 := by unfold qdq; rw [if_pos ha]; omega
  have h2 : decide (0 ≤ qdq p l0) = true := decide_eq_true h1;clear ha h1;generalize qdq p l0 = r at HC h2
  go_enter Try.func58, Try.ntmps58
  go_wp2_with fail
  refine HC.o.mono ?_;rintro e w1 ⟨rfl, hb1⟩
  go_wp2_with fail
  go_ret
  exact ⟨by first | rfl | simp [h2], hb1⟩
 | false =>
  have h1 : qdq p l0 = -1 := by unfold qdq; rw [if_neg (by rw [ha]; decide)]
  rw [h1] at HC;clear ha h1
  go_enter Try.func58, Try.ntmps58
  go_wp2_with fail
  refine HC.o.mono ?_;rintro e w1 ⟨rfl, hb1⟩
  go_wp2_with fail
  go_ret
  exact ⟨rfl, hb1⟩
def qcc.f (t0 : List S75) (a1 : Int) : Option Bool := if qcv t0 = true then some (walkR t0 a1).2.2 else none
set_option maxHeartbeats 4000000 in
set_option maxRecDepth 100000 in
theorem qcc.calls (P0 : Option Addr) (O0 : Nat) (t0 : List S75) (a1 : Int) (r : Bool) (w : World) (a5 : Kd.C k75 w P0 t0.length t0) (J6 : t0.length ≤ O0) (h : qcc.f t0 a1 = some r) :
  Calls Try.prog 17 #[.agg #[.slice P0 t0.length O0], .int .i64 a1] w fun e w' => e = .returned (.bool r) ∧ Below w.heap.size w w' := by
 unfold qcc.f at h;have hbd : qem t0 := by
  by_cases hb : qcv t0 = true
  ·exact qd3.1 hb
  ·rw [if_neg hb] at h
   cases h
 rw [if_pos (qd3.2 hbd)] at h;have hr := Option.some.inj h;have hu := Try.underlying25;have HR := z_ a5;have HBD := z_ hbd;have HB1 := z_ (qas (Below.refl w.heap.size w) (.cells #[.slice P0 t0.length O0] 25 (0, 0)));clear h a5 hbd
 cases r with
 | true =>
  have HO := z_ hr;clear hr
  go_enter Try.func17, Try.ntmps17
  go_wp2_with fail
  refine (qgg t0 a1 P0 O0 _ (Kd.qaO HR.o HB1.o) HBD.o HO.o).mono ?_;rintro e w2 ⟨g, vs, vp, rfl, _, hb⟩;have HB2 := z_ (qad HB1.o hb);clear hb
  go_wp2_with fail
  go_ret
  exact ⟨rfl, HB2.o⟩
 | false =>
  have HO := z_ hr;clear hr
  go_enter Try.func17, Try.ntmps17
  go_wp2_with fail
  refine (qjz t0 a1 P0 O0 _ (Kd.qaO HR.o HB1.o) HBD.o HO.o).mono ?_;rintro e w2 ⟨rfl, hb⟩;have HB2 := z_ (qad HB1.o hb);clear hb
  go_wp2_with fail
  go_ret
  exact ⟨rfl, HB2.o⟩
theorem qjY {α : Type} {l : List α} {f g : α → Bool} (h : ∀ x, x ∈ l → f x = g x) : l.any f = l.any g := by
 induction l with
 | nil => rfl
 | cons a l ih => simp only [List.any_cons]; rw [h a List.mem_cons_self, ih fun x hx => h x (List.mem_cons_of_mem _ hx)]
theorem Ev.list {α β : Type} {l : List α} {g : Nat → α → Option β} {v : α → β} (h : ∀ x, x ∈ l → Ev (fun k => g k x) (v x)) : ∃ K, ∀ k, K ≤ k → ∀ x, x ∈ l → g k x = some (v x) := by
 induction l with
 | nil => exact ⟨0, fun k _ x hx => (by cases hx)⟩
 | cons a l ih =>
  obtain ⟨K1, h1⟩ := ih fun x hx => h x (List.mem_cons_of_mem _ hx)
  obtain ⟨K2, h2⟩ := h a List.mem_cons_self;refine ⟨K1 + K2, fun k hk x hx => ?_⟩
  rcases List.mem_cons.1 hx with rfl | hx
  ·exact h2 k zbV
  ·exact h1 k zbV x hx
theorem Ev.any {α : Type} {l : List α} {g : Nat → α → Option Bool} {v : α → Bool} (h : ∀ x, x ∈ l → Ev (fun k => g k x) (v x)) : Ev (fun k => if (l.all fun x => (g k x).isSome) = true then some (l.any fun x => (g k x).getD false) else none) (l.any v) := by
 obtain ⟨K, hK⟩ := Ev.list h;refine ⟨K, fun k hk => ?_⟩
 show (if (l.all fun x => (g k x).isSome) = true then some (l.any fun x => (g k x).getD false) else none) = some (l.any v)
 rw [if_pos (List.all_eq_true.2 fun x hx => by rw [hK k hk x hx]; rfl)];exact congrArg some (qjY fun x hx => by rw [hK k hk x hx]; rfl)
theorem qh7 {P : Program} {f : FuncId} {fn : Func} {c : Code} (hf : P.funcs[f]? = some fn) (hname : (fn.name == "runtime.NumGoroutine") = false) (hb : fn.body = some c) (args : Array Value) (w : World) : (callFunc f args).run P w = .ok (.enter f args) w := by
 have h1 : fn.name ≠ "runtime.NumGoroutine" := by simpa using hname
 simp [callFunc, hf, h1, hb, mark]
set_option maxRecDepth 100000 in
theorem qfR (ns : List S75) (A : Option Addr) (c : Nat) (gb : Nat) (root : Int) (w : World) (hb : w.heap[gb]? = some (.cells #[.slice A ns.length c] 25 (0, 0))) (hr : Kd.C k75 w A ns.length ns) (hc : ns.length ≤ c) (hs : qcv ns = true) :
  Calls Try.prog 59 #[.int .i64 root, .pointer (some ⟨gb, 0, none⟩)] w fun e w' => e = .returned (.bool (!(walkR ns root).2.2)) ∧ Below w.heap.size w w' := by
 have hu := Try.underlying25;have HR := z_ hr;have HO := z_ (show qcc.f ns root = some (walkR ns root).2.2 from if_pos hs);have b0 := qac hb 0;simp only [List.getElem?_toArray, List.getElem?_cons_zero] at b0;clear hr hb hs;generalize (walkR ns root).2.2 = ok at HO ⊢
 go_enter Try.func59, Try.ntmps59
 go_wp2_with fail
 refine (qcc.calls A c ns root ok _ (by first | exact HR.o | exact Kd.qe2 HR.o) hc HO.o).mono ?_;rintro e w' ⟨rfl, hb⟩
 go_wp2_with fail
 go_ret
 exact ⟨rfl, by first | exact hb | exact qad (qaW (Below.refl _ w)) hb⟩
def qco.f (t0 : List S75) (l1 : List Int) : Option Bool := if qcv t0 = true then some (!(l1.any fun r => !(walkR t0 r).2.2)) else none
set_option maxRecDepth 100000 in
theorem qco.calls (P0 : Option Addr) (O0 : Nat) (t0 : List S75) (A1 : Option Addr) (c1 : Nat) (l1 : List Int) (r : Bool) (w : World) (a5 : Kd.C k75 w P0 t0.length t0) (J6 : t0.length ≤ O0) (hr1 : Kd.C (Kd.int .i64) w A1 l1.length l1) (hc1 : l1.length ≤ c1) (h : qco.f t0 l1 = some r) :
  Calls Try.prog 25 #[.agg #[.slice P0 t0.length O0], .slice A1 l1.length c1] w fun e w' => e = .returned (.bool r) ∧ Below w.heap.size w w' := by
 unfold qco.f at h
 by_cases hb : qcv t0 = true
 ·rw [if_pos hb] at h;have hh := Option.some.inj h;have hu := Try.underlying25;have HB0 := z_ (qas (Below.refl w.heap.size w) (.cells #[.slice P0 t0.length O0] 25 (0, 0)));have DZ := z_ (qcb w (.cells #[.slice P0 t0.length O0] 25 (0, 0)));have HC := z_ (qfh (fun r => !(walkR t0 r).2.2) 59 #[.pointer (some ⟨w.heap.size, 0, none⟩)] (qh7 Try.func59 zbS rfl) A1 c1 l1 (w.alloc (.cells #[.slice P0 t0.length O0] 25 (0, 0))) (Kd.qaO hr1 HB0.o) fun x W hx hW => qfR t0 P0 O0 w.heap.size x W (qap DZ.o hW) (Kd.qaO a5 (qad HB0.o hW)) J6 hb);clear a5 hr1 h hb;generalize (l1.any fun r => !(walkR t0 r).2.2) = q at HC hh;subst hh
  go_enter Try.func25, Try.ntmps25
  go_wp2_with fail
  refine HC.o.mono ?_;rintro e w1 ⟨rfl, hb1⟩;have HB1 := z_ (qad HB0.o hb1);clear hb1
  go_wp2_with fail
  go_ret
  exact ⟨rfl, HB1.o⟩
 ·rw [if_neg hb] at h
  cases h
end Go.Proofs.Ytcdokcpiahbejaa.X
