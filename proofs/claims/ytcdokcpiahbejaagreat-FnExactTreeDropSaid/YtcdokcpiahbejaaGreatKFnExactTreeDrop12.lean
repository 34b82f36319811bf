import Derived.Test.YtcdokcpiahbejaaGreatKFnExactTreeDrop11
import Derived.Outline
set_option maxRecDepth 100000
set_option maxHeartbeats 16000000
set_option linter.unusedVariables false
set_option linter.unusedSimpArgs false
namespace Go.Proofs.YtcdokcpiahbejaaGreat.X
open Go.RowKit Go.Proofs.PW Go.Proofs.PL Go.Proofs.PM
attribute [local go_sem] qaj qak qal qaf qag qao qap qad qae qah qai
def qeZ (ns : List S80) : List Int → List Bool → List Bool × Bool
 | [], o => (o, true)
 | r :: t, o => if (walkR ns r).2.2 = true then qeZ ns t (orW o (walkR ns r).2.1) else (o, false)
def qdl.f (u0 : List S80) (l1 : List Int) : Option (List Bool × Bool) := if qcG u0 = true ∧ l1.length ≤ 1000000 then some (qeZ u0 l1 noneW) else none
theorem qdl.calls (I0 : Option Addr) (H0 : Nat) (u0 : List S80) (A1 : Option Addr) (c1 : Nat) (l1 : List Int) (r1 : List Bool) (r2 : Bool) (w : World) (Z0 : Kd.C k80 w I0 u0.length u0) (Q1 : u0.length ≤ H0) (hr1 : Kd.C (Kd.int .i64) w A1 l1.length l1) (hc1 : l1.length ≤ c1) (h : qdl.f u0 l1 = some (r1, r2)) :
  Calls Tryz.prog 37 #[.agg #[.slice I0 u0.length H0], .slice A1 l1.length c1] w fun e w' => ∃ B7 : Value, e = .returned (.tuple #[B7, .bool r2]) ∧ Kd.R Kd.bool 4 w' w.heap.size (fun _ => True) B7 r1 ∧ Below w.heap.size w w' := by
 unfold qdl.f at h;have hbd : qcG u0 = true ∧ l1.length ≤ 1000000 := by
  by_cases hb : qcG u0 = true ∧ l1.length ≤ 1000000
  ·exact hb
  ·rw [if_neg hb] at h
   cases h
 rw [if_pos hbd] at h;have hu := Tryz.underlying29;have hu3 := Tryz.underlying42;have Z1 := z_ (And.intro Z0 Q1);have HR1 := z_ hr1;have hl1 : l1.length ≤ 1000000 := hbd.2;have HBD := z_ hbd.1;have HH := z_ (Option.some.inj h);obtain ⟨w1, hw1⟩ : ∃ w1, w1 = w.alloc (.cells #[.slice I0 u0.length H0] 29 (0, 0)) := ⟨_, rfl⟩
 have HB1 := z_ (show Below w.heap.size w w1 from hw1 ▸ qaA (Below.refl _ w) _);have KO := z_ (show w1.heap[w.heap.size]? = some (.cells #[.slice I0 u0.length H0] 29 (0, 0)) from hw1 ▸ qbz w _);clear h Z0 hr1 hbd Q1
 go_enter Tryz.func37, Tryz.ntmps37
 go_upto_region 1 with fail
 rw [← hw1];clear hw1
 go_wp2_with (first | ((with_reducible refine qaw (N := 12) rfl ?_); refine Kd.qgH Kd.bool (w0 := w) w.heap.size 4 rfl (N := 12) rfl 42 _ _ rfl 50 rfl rfl Tryz.underlying42 (.bool false) 1 info4 rfl zdK zdM false (ok := fun _ => True) (okp := fun _ => True) rfl (fun _ hk => hk) trivial zdM zdK HB1.o HB1.o.size ?_; intro v1 w2 ho1 hb1 hg1 hn1))
 have HO := z_ (show Kd.R Kd.bool 4 w2 w.heap.size (fun _ => True) v1 noneW from ho1);have HB2 := z_ hb1;have kQ := z_ (qbe KO.o hg1 zdN);clear ho1 hb1 hg1 hn1 HB1 KO;obtain ⟨go, co, ev, hgo, hgl, _⟩ := Kd.qcS HO.o zdq;subst ev;have HGO := z_ hgo;have MZ := z_ hgl;clear hgo hgl
 go_upto_region 3 with fail
 go_loopw [7] (fun v7 wr => ∃ (i : Nat) (o : List Bool), i ≤ l1.length ∧ v7 = .int .i64 (i : Int) ∧ Aside0 (o.length = 50) ∧ Aside0 (Kd.R Kd.bool 4 wr w.heap.size (fun _ => True) (.slice (some ⟨go, 0, none⟩) noneW.length co) o) ∧ Aside0 (Below w.heap.size w wr) ∧ Aside0 (wr.heap[w.heap.size]? = some (.cells #[.slice I0 u0.length H0] 29 (0, 0))) ∧ Aside0 (go < wr.heap.size) ∧ Aside0 (qeZ u0 (l1.drop i) o = (r1, r2))) (fun v7 _ => l1.length - (intOf v7).toNat)
 case atStart => exact ⟨0, noneW, zdM, rfl, ⟨rfl⟩, HO, HB2, kQ, MZ, ⟨HH.o⟩⟩
 case round =>
  clear HO HB2 kQ;obtain ⟨i, o, hi, rfl, HOL, HO, HB, BX, HGL, HE⟩ := hrel
  by_cases hlt : i < l1.length
  ·have c5 : decide ((i : Int) < (l1.length : Int)) = true := decide_eq_true zdM;have i0 : 0 ≤ (i : Int) := zdM;have i1 : (i : Int) < (l1.length : Int) := zdM;obtain ⟨zd, e1, k1⟩ := Kd.qdu HR1.o (i : Int) i0 i1
   cases e1
   obtain ⟨rt, hrt⟩ : ∃ rt, rt = l1[i] := ⟨_, rfl⟩
   have hrd : rd l1 (i : Int) = rt := by
    rw [hrt];unfold rd;simp [List.getD_eq_getElem?_getD, hlt]
   rw [Int.toNat_natCast, hrd] at k1;replace k1 := zmove_ HB rfl k1;have hd : l1.drop i = rt :: l1.drop (i + 1) := by rw [hrt]; exact List.drop_eq_getElem_cons hlt
   obtain ⟨ps, hps⟩ : ∃ ps, ps = (walkR u0 rt).1 := ⟨_, rfl⟩
   obtain ⟨Sn, hSn⟩ : ∃ Sn, Sn = (walkR u0 rt).2.1 := ⟨_, rfl⟩
   obtain ⟨ok, hok⟩ : ∃ ok, ok = (walkR u0 rt).2.2 := ⟨_, rfl⟩
   have hsl : Sn.length = 50 := by rw [hSn]; exact qg2 _ _
   have hE := HE.o;rw [hd, show qeZ u0 (rt :: l1.drop (i + 1)) o = if ok = true then qeZ u0 (l1.drop (i + 1)) (orW o Sn) else (o, false) from by rw [hok, hSn]; rfl] at hE;have ef := z_ hE;have HWK := z_ (show qcp.f u0 rt = some (ps, Sn, ok) from by rw [hps, hSn, hok]; exact if_pos HBD.o);have b0 := qac BX.o 0;simp only [List.getElem?_toArray, List.getElem?_cons_zero] at b0;clear hE hd hok hrd hrt HE hps hSn
   go_wp2_with fail
   have KH := z_ (Kd.qbu HO.o);have HB2 := z_ (qba HB.o);have kQ := z_ (qaq BX.o);have Ia := z_ (show go < wr.drew.heap.size from HGL.o);clear HO HB BX HGL
   go_region_held3 (fun W => W.cell? ⟨w.heap.size, 0, none⟩ = some (.slice I0 u0.length H0) ∧ W.cell? (zd.add i) = some (.int .i64 rt))
    (first | exact ⟨b0, k1⟩ | exact ⟨b1, k2⟩)
    (first
     | (go_at_call 19; refine (qcp.calls I0 H0 u0 rt ps Sn ok _ (Kd.qar Z1.o.1 HB2.o) Z1.o.2 HWK.o).mono ?_; rintro e w3 ⟨v3, v4, rfl, dC, GH, hb⟩; obtain ⟨pA, pc, rfl, _, _⟩ := Kd.qa4 dC; obtain ⟨sA, sc, rfl, _, _⟩ := Kd.qa4 GH; have HSN := z_ (Kd.qa3 (Kd.qaU (Kd.qb5 GH) (fun k hk => (show wr.drew.heap.size ≤ k from hk.2.1))) HB2.o.size); have nR := z_ (Kd.qa7 KH.o hb); have HB3 := z_ (qaa HB2.o hb); have jW := z_ (qab kQ.o hb); have HSZ := z_ hb.size; have HSL := z_ hsl; have b1 := qac jW.o 0; simp only [List.getElem?_toArray, List.getElem?_cons_zero] at b1; have k2 := (hb.cell (World.block_lt_of_cell? _ _ k1)).trans k1; clear hb dC GH; dsimp only)
     | fail)
   clear b0 b1 k1 k2 KH HB2 kQ hsl;obtain ⟨N0, hN0⟩ : ∃ N0, N0 = wr.drew.heap.size := ⟨_, rfl⟩
   rw [← hN0] at HSN HSZ Ia;have HGN := Ia;clear hN0 Ia
   cases hok : ok with
   | false =>
    have HEE := z_ (show (o, false) = (r1, r2) from by have := ef.o; rw [hok, if_neg zdK] at this; exact this);clear hok
    go_wp2_with fail
    ((try simp only [Exit.inBlock, Exit.then]); refine bodyPost_ret (results_tmp2 rfl _ _ _) rfl ?_)
    obtain ⟨e1, e2⟩ := Prod.mk.inj HEE.o;subst e1 e2;exact ⟨_, rfl, nR.o, HB3.o⟩
   | true =>
   have HE2 := z_ (show qeZ u0 (l1.drop (i + 1)) (orW o Sn) = (r1, r2) from by have := ef.o; rw [hok, if_pos rfl] at this; exact this);clear hok ef
   go_upto_region 9 with fail
   go_loopw [11] (fun v11 wq => ∃ (j : Nat) (q : List Bool), j ≤ 50 ∧ v11 = .int .i64 (j : Int) ∧ q = orTo o Sn j ∧ Aside0 (Kd.R Kd.bool 4 wq w.heap.size (fun _ => True) (.slice (some ⟨go, 0, none⟩) noneW.length co) q) ∧ Aside0 (Below w.heap.size w wq) ∧ Aside0 (wq.heap[w.heap.size]? = some (.cells #[.slice I0 u0.length H0] 29 (0, 0))) ∧ Aside0 (N0 ≤ wq.heap.size) ∧ Aside0 (Kd.R Kd.bool 4 wq w.heap.size (fun k => N0 ≤ k) (.slice sA Sn.length sc) Sn)) (fun v11 _ => 50 - (intOf v11).toNat)
   case atStart => exact ⟨0, o, zdM, rfl, (qjk o Sn HOL.o).symm, nR, HB3, jW, HSZ, HSN⟩
   case round =>
    clear nR HB3 jW HSZ HSN;obtain ⟨j, q, hj, rfl, hq, HQ, HBq, BXq, HSZ, HSN⟩ := hrel;have hsl := HSL.o
    by_cases hjl : j < 50
    ·have c6 : decide ((j : Int) < 50) = true := decide_eq_true zdM;have j0 : 0 ≤ (j : Int) := zdM;have j1 : (j : Int) < (Sn.length : Int) := zdM;have hnl : noneW.length = 50 := zdq;have j2 : (j : Int) < (noneW.length : Int) := zdM;obtain ⟨gs2, cs2, ev, zm, _, _⟩ := Kd.qcS HSN.o zdM;injection ev with ev1 _ ev2
     subst ev1; subst ev2;obtain ⟨x0, x1⟩ := Kd.qc9 false HSN.o (j : Int) j0 j1;obtain ⟨y0, y1⟩ := Kd.qc9 false HQ.o (j : Int) j0 j2;rw [Int.toNat_natCast] at x0 x1 y0 y1;have hqj : rdOf false q (j : Int) = rdOf false o (j : Int) := by rw [hq, qfa o Sn j j hjl]; simp
     have hP := Kd.qgJ HQ.o (j : Int) (rdOf false o (j : Int) || rdOf false Sn (j : Int));rw [Int.toNat_natCast, hq, qjl o Sn j hjl] at hP;rw [hqj] at y0;have HPP := z_ hP;have HSF := z_ (Kd.qbp HSN.o (p := ⟨go, j, none⟩) (fun k hk => by have := HGN.o; show k ≠ go; omega) (.bool (rdOf false o (j : Int) || rdOf false Sn (j : Int))));have BXF := z_ (show (wr.setCell ⟨go, j, none⟩ (.bool (rdOf false o (j : Int) || rdOf false Sn (j : Int)))).heap[w.heap.size]? = some (.cells #[.slice I0 u0.length H0] 29 (0, 0)) from by
      obtain ⟨_, _, _, _, _, cc, hcc⟩ := Kd.qcS HQ.o (by rw [hq, qc8]; omega);rename_i Yl _ _;injection Yl with e4 _ _
      injection e4 with e4
      injection e4 with e4
      subst e4;exact qbD BXq.o (qhO BXq.o hcc zdK) _)
     clear hP hqj hsl hnl;generalize rdOf false o (j : Int) = bo at *;generalize rdOf false Sn (j : Int) = bs at *
     cases bo with
     | true =>
      go_wp2_with fail
      go_roundw
      case rel => exact ⟨j + 1, _, zdM, zdL, rfl, HPP, ⟨HBq.o.setCell (p := ⟨go, j, none⟩) HGO.o _⟩, BXF, ⟨Nat.le_trans HSZ.o ((Below.refl 0 wr).setCell (p := ⟨go, j, none⟩) (Nat.zero_le _) (.bool (true || bs))).size⟩, HSF⟩
      case measure => simp [intOf]; omega
     | false =>
      go_wp2_with fail
      go_roundw
      case rel => exact ⟨j + 1, _, zdM, zdL, rfl, HPP, ⟨HBq.o.setCell (p := ⟨go, j, none⟩) HGO.o _⟩, BXF, ⟨Nat.le_trans HSZ.o ((Below.refl 0 wr).setCell (p := ⟨go, j, none⟩) (Nat.zero_le _) (.bool (false || bs))).size⟩, HSF⟩
      case measure => simp [intOf]; omega
    ·have Hj : j = 50 := zdM;have c6 : decide ((j : Int) < 50) = false := decide_eq_false zdM;have c7 : ¬ j < 50 := zdM;have xX := z_ (show Kd.R Kd.bool 4 wr w.heap.size (fun _ => True) (.slice (some ⟨go, 0, none⟩) noneW.length co) (orW o Sn) from zbD);clear hq HQ hsl Hj
     go_wp2_with fail
     go_roundw
     case rel => exact ⟨i + 1, orW o Sn, zdM, zdL, ⟨qc8 _ _ _⟩, xX, HBq, BXq, ⟨by have := HSZ.o; have := HGN.o; omega⟩, HE2⟩
     case measure => simp [intOf]; omega
  ·have he : i = l1.length := zdM;have c5 : decide ((i : Int) < (l1.length : Int)) = false := decide_eq_false zdM;have HEE := z_ (show (o, true) = (r1, r2) from by have := HE.o; rw [he, List.drop_length] at this; exact this);clear he HE
   go_wp2_with fail
   ((try simp only [Exit.inBlock, Exit.then]); refine bodyPost_ret (results_tmp2 rfl _ _ _) rfl ?_)
   obtain ⟨e1, e2⟩ := Prod.mk.inj HEE.o;subst e1 e2;exact ⟨_, rfl, HO.o, HB.o⟩
theorem qjv {ns : List S80} {rs : List Int} : ∀ o, (∀ r, r ∈ rs → (walkR ns r).2.2 = true) → qeZ ns rs o = (rs.foldl (fun o r => orW o (walkR ns r).2.1) o, true) := by
 induction rs with
 | nil => intro o _; rfl
 | cons r rs ih =>
  intro o h;unfold qeZ;rw [if_pos (h r List.mem_cons_self), ih _ (fun y hy => h y (List.mem_cons_of_mem _ hy))];rfl
theorem ql4 {ns : List S80} {rs : List Int} : ∀ o, ¬ (∀ r, r ∈ rs → (walkR ns r).2.2 = true) → (qeZ ns rs o).2 = false := by
 induction rs with
 | nil => intro o h; exact absurd (fun r hr => by cases hr) h
 | cons r rs ih =>
  intro o h;unfold qeZ
  by_cases hr : (walkR ns r).2.2 = true
  ·rw [if_pos hr];exact ih _ fun hh => h fun y hy => (List.mem_cons.1 hy).elim (fun e => e ▸ hr) (hh y)
  ·rw [if_neg hr]
theorem qiC (p : Int → Bool) (g : Nat) (lb : Array Value) (eg : ∀ args w, (callFunc g args).run Tryz.prog w = .ok (.enter g args) w) (A0 : Option Addr) (c0 : Nat) (l0 : List Int) (w : World) (hr0 : Kd.C (Kd.int .i64) w A0 l0.length l0)
  (hp : ∀ (x : Int) (W : World), x ∈ l0 → Below w.heap.size w W → Calls Tryz.prog g (#[.int .i64 x] ++ lb) W fun e W' => e = .returned (.bool (p x)) ∧ Below W.heap.size W W') :
  Calls Tryz.prog 100 #[.slice A0 l0.length c0, .func (.func g) #[] lb] w fun e w' => e = .returned (.int .i64 (qdf p l0)) ∧ Below w.heap.size w w' := by
 have hm : l0.length ≤ 9223372036854775807 := hr0.2.1;have Z1 := z_ hr0;have HP := z_ hp;clear hr0 hp
 go_enter Tryz.func100, Tryz.ntmps100
 go_wp2_with fail
 go_loopw [8] (fun v8 wr => ∃ k : Nat, k ≤ l0.length ∧ v8 = .int .i64 k ∧ Aside0 (∀ j (hj : j < l0.length), j < k → p l0[j] = false) ∧ Aside0 (Below w.heap.size w wr)) (fun v8 _ => l0.length - (intOf v8).toNat)
 case atStart => exact ⟨0, Nat.zero_le _, rfl, ⟨fun j hj h => absurd h zdM⟩, ⟨Below.refl _ _⟩⟩
 case round =>
  obtain ⟨k, hk, rfl, HN, HB⟩ := hrel
  by_cases hlt : k < l0.length
  ·have p1 : 0 ≤ (k : Int) := zdM;have q1 : (k : Int) < (l0.length : Int) := zdM;obtain ⟨zd, e1, hx0⟩ := Kd.qdu Z1.o (k : Int) p1 q1;have hx : rd l0 (k : Int) = l0[k] := by unfold rd; rw [Int.toNat_natCast]; simp [List.getD_eq_getElem?_getD, hlt]
   rw [hx] at hx0
   cases e1
   replace hx0 := zmove_ HB rfl hx0;rw [Int.toNat_natCast] at hx0;clear hx;have hb := fun W hW => HP.o l0[k] W (List.getElem_mem hlt) hW
   have HB2 := z_ hb;clear hb
   cases hpk : p l0[k] with
   | true =>
    have HK := z_ hpk;clear hpk
    go_wp2_with fail
    refine (HB2.o _ HB.o).mono ?_;rintro e w1 ⟨rfl, hb1⟩;rw [HK.o]
    go_wp2_with fail
    go_ret
    exact ⟨by rw [qgj hlt HN.o HK.o]; rfl, qaa HB.o hb1⟩
   | false =>
    have HK := z_ hpk;clear hpk
    go_wp2_with fail
    refine (HB2.o _ HB.o).mono ?_;rintro e w1 ⟨rfl, hb1⟩;rw [HK.o]
    go_wp2_with fail
    go_roundw
    case rel => exact ⟨k + 1, zdM, zdL, ⟨fun j hj h => by
     by_cases e : j = k
     ·subst e; exact HK.o
     ·exact HN.o j hj zdM⟩, ⟨qaa HB.o hb1⟩⟩
    case measure => simp [intOf]; omega
  ·go_wp2_with fail
   go_ret
   exact ⟨by rw [qgk fun j hj => HN.o j hj zdM]; rfl, HB.o⟩
theorem qgy (p : Int → Bool) (g : Nat) (lb : Array Value) (eg : ∀ args w, (callFunc g args).run Tryz.prog w = .ok (.enter g args) w) (A0 : Option Addr) (c0 : Nat) (l0 : List Int) (w : World) (hr0 : Kd.C (Kd.int .i64) w A0 l0.length l0)
  (hp : ∀ (x : Int) (W : World), x ∈ l0 → Below w.heap.size w W → Calls Tryz.prog g (#[.int .i64 x] ++ lb) W fun e W' => e = .returned (.bool (p x)) ∧ Below W.heap.size W W') :
  Calls Tryz.prog 77 #[.slice A0 l0.length c0, .func (.func g) #[] lb] w fun e w' => e = .returned (.bool (l0.any p)) ∧ Below w.heap.size w w' := by
 have HC := z_ (qiC p g lb eg A0 c0 l0 w hr0 hp);clear hr0 hp
 cases ha : l0.any p with
 | true =>
  have h1 : 0 ≤ qdf p l0 := by unfold qdf; rw [if_pos ha]; omega
  have h2 : decide (0 ≤ qdf p l0) = true := decide_eq_true h1;clear ha h1;generalize qdf p l0 = r at HC h2
  go_enter Tryz.func77, Tryz.ntmps77
  go_wp2_with fail
  refine HC.o.mono ?_;rintro e w1 ⟨rfl, hb1⟩
  go_wp2_with fail
  go_ret
  exact ⟨by first | rfl | simp [h2], hb1⟩
 | false =>
  have h1 : qdf p l0 = -1 := zbC;rw [h1] at HC;clear ha h1
  go_enter Tryz.func77, Tryz.ntmps77
  go_wp2_with fail
  refine HC.o.mono ?_;rintro e w1 ⟨rfl, hb1⟩
  go_wp2_with fail
  go_ret
  exact ⟨rfl, hb1⟩
def qdm.f (u0 : List S80) (a1 : Int) : Option Bool := if qcG u0 = true then some (walkR u0 a1).2.2 else none
theorem qdm.calls (I0 : Option Addr) (H0 : Nat) (u0 : List S80) (a1 : Int) (r : Bool) (w : World) (Z0 : Kd.C k80 w I0 u0.length u0) (Q1 : u0.length ≤ H0) (h : qdm.f u0 a1 = some r) :
  Calls Tryz.prog 47 #[.agg #[.slice I0 u0.length H0], .int .i64 a1] w fun e w' => e = .returned (.bool r) ∧ Below w.heap.size w w' := by
 unfold qdm.f at h;have hbd : qfe u0 := by
  by_cases hb : qcG u0 = true
  ·exact qew.1 hb
  ·rw [if_neg hb] at h
   cases h
 rw [if_pos (qew.2 hbd)] at h;have hr := Option.some.inj h;have hu := Tryz.underlying29;have HR := z_ Z0;have HBD := z_ hbd;have HB1 := z_ (qaA (Below.refl w.heap.size w) (.cells #[.slice I0 u0.length H0] 29 (0, 0)));clear h Z0 hbd
 cases r with
 | true =>
  have HO := z_ hr;clear hr
  go_enter Tryz.func47, Tryz.ntmps47
  go_wp2_with fail
  refine (qga u0 a1 I0 H0 _ (Kd.qar HR.o HB1.o) HBD.o HO.o).mono ?_;rintro e w2 ⟨g, vs, vp, rfl, _, hb⟩;have HB2 := z_ (qaa HB1.o hb);clear hb
  go_wp2_with fail
  go_ret
  exact ⟨rfl, HB2.o⟩
 | false =>
  have HO := z_ hr;clear hr
  go_enter Tryz.func47, Tryz.ntmps47
  go_wp2_with fail
  refine (qlN u0 a1 I0 H0 _ (Kd.qar HR.o HB1.o) HBD.o HO.o).mono ?_;rintro e w2 ⟨rfl, hb⟩;have HB2 := z_ (qaa HB1.o hb);clear hb
  go_wp2_with fail
  go_ret
  exact ⟨rfl, HB2.o⟩
def qdw.f (u0 : List S80) (a1 : Int) : Option (List S61) := if qcG u0 = true ∧ (walkR u0 a1).2.2 = true then some (walkR u0 a1).1 else none
theorem qdw.calls (I0 : Option Addr) (H0 : Nat) (u0 : List S80) (a1 : Int) (r : List S61) (w : World) (Z0 : Kd.C k80 w I0 u0.length u0) (Q1 : u0.length ≤ H0) (h : qdw.f u0 a1 = some r) :
  Calls Tryz.prog 32 #[.agg #[.slice I0 u0.length H0], .int .i64 a1] w fun e w' => ∃ B7 : Value, e = .returned (B7) ∧ Kd.R k61 61 w' w.heap.size (fun _ => True) B7 r ∧ Below w.heap.size w w' := by
 unfold qdw.f at h;have hbd : qcG u0 = true ∧ (walkR u0 a1).2.2 = true := by
  by_cases hb : qcG u0 = true ∧ (walkR u0 a1).2.2 = true
  ·exact hb
  ·rw [if_neg hb] at h
   cases h
 rw [if_pos hbd] at h;have hr := Option.some.inj h;have hu := Tryz.underlying29;have hu2 := Tryz.underlying105;have HR := z_ Z0;have HBD := z_ (And.intro (qew.1 hbd.1) hbd.2);have HB1 := z_ (qaA (Below.refl w.heap.size w) (.cells #[.slice I0 u0.length H0] 29 (0, 0)));have HH := z_ hr;clear h Z0 hbd hr
 go_enter Tryz.func32, Tryz.ntmps32
 go_wp2_with fail
 refine (qga u0 a1 I0 H0 _ (Kd.qar HR.o HB1.o) HBD.o.1 HBD.o.2).mono ?_;rintro e w2 ⟨g, vs, vp, rfl, hw, hb⟩;have HB2 := z_ (qaa HB1.o hb);rw [HH.o] at hw;obtain ⟨d0, d1, d2, _⟩ := cells3 hw.2.1;have HW := z_ hw.2.2.2;clear hb hw
 go_wp2_with fail
 go_ret
 exact ⟨_, rfl, Kd.qa3 HW.o HB1.o.size, HB2.o⟩
theorem qhm (ns : List S80) (A : Option Addr) (c : Nat) (gb : Nat) (root : Int) (w : World) (hb : w.heap[gb]? = some (.cells #[.slice A ns.length c] 29 (0, 0))) (hr : Kd.C k80 w A ns.length ns) (hc : ns.length ≤ c) (hs : qcG ns = true) :
  Calls Tryz.prog 78 #[.int .i64 root, .pointer (some ⟨gb, 0, none⟩)] w fun e w' => e = .returned (.bool (!(walkR ns root).2.2)) ∧ Below w.heap.size w w' := by
 have hu := Tryz.underlying29;have HR := z_ hr;have HO := z_ (show qdm.f ns root = some (walkR ns root).2.2 from if_pos hs);have b0 := qac hb 0;simp only [List.getElem?_toArray, List.getElem?_cons_zero] at b0;clear hr hb hs;generalize (walkR ns root).2.2 = ok at HO ⊢
 go_enter Tryz.func78, Tryz.ntmps78
 go_wp2_with fail
 refine (qdm.calls A c ns root ok _ (by first | exact HR.o | exact Kd.qeN HR.o) hc HO.o).mono ?_;rintro e w' ⟨rfl, hb⟩
 go_wp2_with fail
 go_ret
 exact ⟨rfl, by first | exact hb | exact qaa (qba (Below.refl _ w)) hb⟩
def qdn.f (u0 : List S80) (l1 : List Int) : Option Bool := if qcG u0 = true then some (!(l1.any fun r => !(walkR u0 r).2.2)) else none
theorem qdn.calls (I0 : Option Addr) (H0 : Nat) (u0 : List S80) (A1 : Option Addr) (c1 : Nat) (l1 : List Int) (r : Bool) (w : World) (Z0 : Kd.C k80 w I0 u0.length u0) (Q1 : u0.length ≤ H0) (hr1 : Kd.C (Kd.int .i64) w A1 l1.length l1) (hc1 : l1.length ≤ c1) (h : qdn.f u0 l1 = some r) :
  Calls Tryz.prog 48 #[.agg #[.slice I0 u0.length H0], .slice A1 l1.length c1] w fun e w' => e = .returned (.bool r) ∧ Below w.heap.size w w' := by
 unfold qdn.f at h
 by_cases hb : qcG u0 = true
 ·rw [if_pos hb] at h;have hh := Option.some.inj h;have hu := Tryz.underlying29;have HB0 := z_ (qaA (Below.refl w.heap.size w) (.cells #[.slice I0 u0.length H0] 29 (0, 0)));have tU := z_ (qbz w (.cells #[.slice I0 u0.length H0] 29 (0, 0)));have HC := z_ (qgy (fun r => !(walkR u0 r).2.2) 78 #[.pointer (some ⟨w.heap.size, 0, none⟩)] (qfA Tryz.func78 zdG rfl) A1 c1 l1 (w.alloc (.cells #[.slice I0 u0.length H0] 29 (0, 0))) (Kd.qar hr1 HB0.o) fun x W hx hW => qhm u0 I0 H0 w.heap.size x W (qab tU.o hW) (Kd.qar Z0 (qaa HB0.o hW)) Q1 hb);clear Z0 hr1 h hb;generalize (l1.any fun r => !(walkR u0 r).2.2) = q at HC hh;subst hh
  go_enter Tryz.func48, Tryz.ntmps48
  go_wp2_with fail
  refine HC.o.mono ?_;rintro e w1 ⟨rfl, hb1⟩;have HB1 := z_ (qaa HB0.o hb1);clear hb1
  go_wp2_with fail
  go_ret
  exact ⟨rfl, HB1.o⟩
 ·rw [if_neg hb] at h
  cases h
theorem qe0 {ns : List S80} (rs : List Int) (h : qcG ns = true) : qdn.f ns rs = some (!(rs.any fun r => !(walkR ns r).2.2)) := if_pos h
mutual
def qav.j0 : Nat → Int → List Int → ByteArray → ByteArray → Bool → List (S80) → Option (Int)
 | 0, _, _, _, _, _, _ => none
 | k + 1, x1, x2, x3, x4, x11, x452000 => if x11 = true then (some 2) else (if (x2.length : Int) > 20 then (some 6) else ((qdm.f x452000 x1).bind fun ja => (if ja = true then ((qdn.f x452000 x2).bind fun FV => (qav.j1 k x3 x4 (!FV))) else (qav.j1 k x3 x4 true))))
def qav.j1 : Nat → ByteArray → ByteArray → Bool → Option (Int)
 | 0, _, _, _ => none
 | k + 1, x3, x4, x29 => if x29 = true then (some 1) else ((qch.f x3).bind fun nc => (if nc = true then (if (x4.size : Int) > 90 then (some 4) else (some 0)) else (some 4)))
end
def qav.f (k : Nat) (u0 : List (S80)) (a1 : Int) (l2 : List Int) (a3 : ByteArray) (a4 : ByteArray) : Option (Int) := if (l2.length : Int) > 4096 then (qav.j0 k a1 l2 a3 a4 true u0) else (if (a3.size : Int) > 65536 then (qav.j0 k a1 l2 a3 a4 true u0) else (qav.j0 k a1 l2 a3 a4 (decide ((a4.size : Int) > 65536)) u0))
theorem qav.qbl : ∀ k, (∀ y0 y1 y2 y3 y4 y5, LeO (qav.j0 k y0 y1 y2 y3 y4 y5) (qav.j0 (k + 1) y0 y1 y2 y3 y4 y5)) ∧ (∀ y0 y1 y2, LeO (qav.j1 k y0 y1 y2) (qav.j1 (k + 1) y0 y1 y2))
 | 0 => ⟨fun _ _ _ _ _ _ r h => by simp [qav.j0] at h, fun _ _ _ r h => by simp [qav.j1] at h⟩
 | k + 1 => by
  obtain ⟨Q9, ih1⟩ := qav.qbl k;refine ⟨?_, ?_⟩
  ·intro y0 y1 y2 y3 y4 y5;unfold qav.j0;exact zleo_
  ·intro y0 y1 y2;unfold qav.j1;exact zleo_
theorem qav.calls (k : Nat) (I0 : Option Addr) (H0 : Nat) (u0 : List (S80)) (a1 : Int) (A2 : Option Addr) (c2 : Nat) (l2 : List Int) (a3 : ByteArray) (a4 : ByteArray) (r : Int) (w : World) (Z0 : Kd.C k80 w I0 u0.length u0) (Q1 : u0.length ≤ H0) (hr2 : Kd.C (Kd.int .i64) w A2 l2.length l2) (hc2 : l2.length ≤ c2) (h : qav.f k u0 a1 l2 a3 a4 = some r) :
  Calls Tryz.prog 24 #[.agg #[.slice I0 u0.length H0], .int .i64 a1, .slice A2 l2.length c2, .string a3, .string a4] w fun e w' => e = .returned (.int .i64 r) ∧ Below w.heap.size w w' := by
 have qW := Tryz.underlying29;have U7 := z_ Z0;have L8 := z_ Q1;clear Z0 Q1;have HR2 := z_ hr2;have UF := z_ hc2;clear hr2 hc2;have HB := z_ (Below.refl w.heap.size w);have H : (if (l2.length : Int) > 4096 then (qav.j0 k a1 l2 a3 a4 true u0) else (if (a3.size : Int) > 65536 then (qav.j0 k a1 l2 a3 a4 true u0) else (qav.j0 k a1 l2 a3 a4 (decide ((a4.size : Int) > 65536)) u0))) = some r := h;clear h;have tT := z_ H;clear H
 go_enter Tryz.func24, Tryz.ntmps24
 go_upto_region 1 with (first | ((with_reducible refine qaw (N := 5) rfl ?_); (try (refine qcg zdO ?_; dsimp only)); refine qaH zdO (N := 5) zdO (cs := #[.slice I0 u0.length H0]) (t := 29) zcm ?_; intro vB hg w7 hbox hb; have D8 := z_ (hbox); have GW451 := z_ ((zao : w.heap.size ≤ vB)); have b9 := z_ ((zao : w.heap.size ≤ vB)); replace HB := z_ (qaa zar hb); clear hb hbox hg))
 (try simp only [Act.put, List.setIfInBounds_toArray, List.set_cons_zero, List.set_cons_succ])
 go_cut [11] (fun v11 wc => ∃ (kq : Nat) (FO : Bool), v11 = .bool FO ∧ Aside0 (qav.j0 kq a1 l2 a3 a4 FO u0 = some r) ∧ Aside0 (kq ≤ k) ∧ Aside0 (wc.heap[vB]? = some (.cells #[(.slice I0 u0.length H0)] 29 (0, 0))) ∧ Aside0 (Below w.heap.size w wc))
 case first =>
  have H := tT.o;clear tT
  by_cases c8 : (l2.length : Int) > 4096
  ·rw [if_pos c8] at H;have FD : decide (4096 < (l2.length : Int)) = true := decide_eq_true c8;have FQ : decide (4096 < l2.length) = true := decide_eq_true zdM;clear c8
   (first | rw [FD] | (simp only [qef, qeP]; rw [FD]) | skip)
   have H' := z_ H;clear H
   go_wp2
   go_meet
   case rel => exact ⟨_, (true), zcc, H', ⟨zcx⟩, ⟨zaL⟩, ⟨zab b9.o⟩⟩
  ·rw [if_neg c8] at H;have FD : decide (4096 < (l2.length : Int)) = false := decide_eq_false c8;have FQ : decide (4096 < l2.length) = false := decide_eq_false zdM;clear c8
   (first | rw [FD] | (simp only [qef, qeP]; rw [FD]) | skip)
   by_cases c9 : (a3.size : Int) > 65536
   ·rw [if_pos c9] at H;have OJ : decide (65536 < (a3.size : Int)) = true := decide_eq_true c9;have TY : decide (65536 < a3.size) = true := decide_eq_true zdM;clear c9;have H' := z_ H;clear H
    go_wp2
    go_meet
    case rel => exact ⟨_, (true), zcc, H', ⟨zcx⟩, ⟨zaL⟩, ⟨zab b9.o⟩⟩
   ·rw [if_neg c9] at H;have OJ : decide (65536 < (a3.size : Int)) = false := decide_eq_false c9;have TY : decide (65536 < a3.size) = false := decide_eq_false zdM;clear c9;have H' := z_ H;clear H
    go_wp2
    go_meet
    case rel => exact ⟨_, (decide ((a4.size : Int) > 65536)), zcc, H', ⟨zcx⟩, ⟨zaL⟩, ⟨zab b9.o⟩⟩
 case rest =>
  clear tT;obtain ⟨kq, FO, rfl, HA, af, D8, HB⟩ := hcut
  cases kq with
  | zero => exact absurd HA.o (by simp [qav.j0])
  | succ kj5 =>
   have H := HA.o;clear HA;simp only [qav.j0] at H
   by_cases c10 : FO = true
   ·subst c10;rw [if_pos rfl] at H;obtain rfl := Option.some.inj H
    go_wp2
    go_ret
    exact ⟨zaM, zab b9.o⟩
   ·replace c10 := Bool.eq_false_iff.mpr c10;subst c10;rw [if_neg zft_] at H
    by_cases c11 : (l2.length : Int) > 20
    ·rw [if_pos c11] at H;have qC : decide (20 < (l2.length : Int)) = true := decide_eq_true c11;have MX : decide (20 < l2.length) = true := decide_eq_true zdM;clear c11;obtain rfl := Option.some.inj H
     go_wp2
     go_ret
     exact ⟨zaM, zab b9.o⟩
    ·rw [if_neg c11] at H;have qC : decide (20 < (l2.length : Int)) = false := decide_eq_false c11;have MX : decide (20 < l2.length) = false := decide_eq_false zdM;clear c11;have Uc := z_ H;clear H
     go_upto_region 5 with (fail)
     go_cut [29] (fun v29 wc => ∃ (kq : Nat) (gJ : Bool), v29 = .bool gJ ∧ Aside0 (qav.j1 kq a3 a4 gJ = some r) ∧ Aside0 (kq ≤ kj5) ∧ Aside0 (wc.heap[vB]? = some (.cells #[(.slice I0 u0.length H0)] 29 (0, 0))) ∧ Aside0 (Below w.heap.size w wc))
     case first =>
      have H := Uc.o;clear Uc;replace H := Option.bind_eq_some_iff.mp H;obtain ⟨ja, gG, H⟩ := H;try dsimp only at H
      have lU := z_ gG;clear gG
      by_cases c14 : ja = true
      ·subst c14;rw [if_pos rfl] at H;replace H := Option.bind_eq_some_iff.mp H;obtain ⟨FV, ah, H⟩ := H;try dsimp only at H
       have A15 := z_ ah;clear ah;have H' := z_ H;clear H;have eP : wc.cell? ⟨vB, 0, none⟩ = some (.slice I0 u0.length H0) := (qac D8.o 0).trans rfl;have MN := qau D8.o 0
       go_wp2_with (first | ((with_reducible refine qax (f := 47) rfl ?_); refine qbq (some 32) rfl rfl Tryz.func47 zdG rfl #[.agg #[.slice I0 u0.length H0], .int .i64 a1] rfl zaq ?_; (with_reducible refine (qdm.calls _ _ u0 a1 true _ ?side1 ?side2 lU.o).mono ?_); (case side1 => exact zae (Kd.qar U7.o HB.o)); (case side2 => exact L8.o); rintro e oJ ⟨rfl, hb⟩; refine ⟨_, rfl, ?_⟩; replace D8 := z_ (qab (g := vB) (o := .cells #[.slice I0 u0.length H0] 29 (0, 0)) (zac D8.o) hb); replace HB := z_ (qaa (zab b9.o) hb); (try clear hb); have kI : oJ.cell? ⟨vB, 0, none⟩ = some (.slice I0 u0.length H0) := (qac D8.o 0).trans rfl; have TH := qau D8.o 0) | (go_at_call 48; (with_reducible refine (qdn.calls _ _ u0 _ _ l2 FV _ ?side1 ?side2 ?side3 ?side4 A15.o).mono ?_); (case side1 => exact zae (Kd.qar U7.o HB.o)); (case side2 => exact L8.o); (case side3 => exact zae (Kd.qar HR2.o HB.o)); (case side4 => exact UF.o); rintro e WK ⟨rfl, hb⟩; replace D8 := z_ (qab (g := vB) (o := .cells #[.slice I0 u0.length H0] 29 (0, 0)) (zac D8.o) hb); replace HB := z_ (qaa (zab b9.o) hb); (try clear hb)))
       go_meet
       case rel => exact ⟨_, (!FV), zcc, H', ⟨zbw⟩, ⟨zaL⟩, ⟨zab b9.o⟩⟩
      ·replace c14 := Bool.eq_false_iff.mpr c14;subst c14;rw [if_neg zft_] at H;have H' := z_ H;clear H;have VW : wc.cell? ⟨vB, 0, none⟩ = some (.slice I0 u0.length H0) := (qac D8.o 0).trans rfl;have PV := qau D8.o 0
       go_wp2_with (first | ((with_reducible refine qax (f := 47) rfl ?_); refine qbq (some 32) rfl rfl Tryz.func47 zdG rfl #[.agg #[.slice I0 u0.length H0], .int .i64 a1] rfl zaq ?_; (with_reducible refine (qdm.calls _ _ u0 a1 false _ ?side1 ?side2 lU.o).mono ?_); (case side1 => exact zae (Kd.qar U7.o HB.o)); (case side2 => exact L8.o); rintro e pY ⟨rfl, hb⟩; refine ⟨_, rfl, ?_⟩; replace D8 := z_ (qab (g := vB) (o := .cells #[.slice I0 u0.length H0] 29 (0, 0)) (zac D8.o) hb); replace HB := z_ (qaa (zab b9.o) hb); (try clear hb)))
       go_meet
       case rel => exact ⟨_, (true), zcc, H', ⟨zbw⟩, ⟨zaL⟩, ⟨zab b9.o⟩⟩
     case rest =>
      clear Uc;try clear c10
      try clear c11
      try clear qC
      try clear MX
      obtain ⟨kq, gJ, rfl, HA, HJ11, D8, HB⟩ := hcut
      cases kq with
      | zero => exact absurd HA.o (by simp [qav.j1])
      | succ kj11 =>
       have H := HA.o;clear HA;simp only [qav.j1] at H
       by_cases Ki : gJ = true
       ·subst Ki;rw [if_pos rfl] at H;obtain rfl := Option.some.inj H
        go_wp2
        go_ret
        exact ⟨zaM, zab b9.o⟩
       ·replace Ki := Bool.eq_false_iff.mpr Ki;subst Ki;rw [if_neg zft_] at H;replace H := Option.bind_eq_some_iff.mp H;obtain ⟨nc, th, H⟩ := H;try dsimp only at H
        have In := z_ th;clear th
        by_cases c24 : nc = true
        ·subst c24;rw [if_pos rfl] at H
         by_cases Cd : (a4.size : Int) > 90
         ·rw [if_pos Cd] at H;have rf : decide (90 < (a4.size : Int)) = true := decide_eq_true Cd;have Vg : decide (90 < a4.size) = true := decide_eq_true zdM;clear Cd;obtain rfl := Option.some.inj H
          go_wp2_with (first | ((with_reducible refine qax (f := 49) rfl ?_); refine qbq (some 42) rfl rfl Tryz.func49 zdG rfl #[.string a3] rfl zaq ?_; (with_reducible refine (qch.calls a3 true _ In.o).mono ?_); rintro e w' ⟨rfl, ⟨nd, rfl⟩⟩; refine ⟨_, rfl, ?_⟩))
          go_ret
          exact ⟨zaM, zab b9.o⟩
         ·rw [if_neg Cd] at H;have rf : decide (90 < (a4.size : Int)) = false := decide_eq_false Cd;have Vg : decide (90 < a4.size) = false := decide_eq_false zdM;clear Cd;obtain rfl := Option.some.inj H
          go_wp2_with (first | ((with_reducible refine qax (f := 49) rfl ?_); refine qbq (some 42) rfl rfl Tryz.func49 zdG rfl #[.string a3] rfl zaq ?_; (with_reducible refine (qch.calls a3 true _ In.o).mono ?_); rintro e w' ⟨rfl, ⟨nd, rfl⟩⟩; refine ⟨_, rfl, ?_⟩))
          go_ret
          exact ⟨zaM, zab b9.o⟩
        ·replace c24 := Bool.eq_false_iff.mpr c24;subst c24;rw [if_neg zft_] at H;obtain rfl := Option.some.inj H
         go_wp2_with (first | ((with_reducible refine qax (f := 49) rfl ?_); refine qbq (some 42) rfl rfl Tryz.func49 zdG rfl #[.string a3] rfl zaq ?_; (with_reducible refine (qch.calls a3 false _ In.o).mono ?_); rintro e w' ⟨rfl, ⟨nd, rfl⟩⟩; refine ⟨_, rfl, ?_⟩))
         go_ret
         exact ⟨zaM, zab b9.o⟩
end Go.Proofs.YtcdokcpiahbejaaGreat.X
namespace Go.Proofs.YtcdokcpiahbejaaGreat.X
open Go.RowKit Go.Proofs.PW Go.Proofs.PL Go.Proofs.PM
attribute [local go_sem] qaj qak qal qaf qag qao qap qad qae qah qai
open Classical in
noncomputable def codeD (hs : List S80) (root : Int) (ks : List Int) (key : ByteArray) : Int := if 4096 < ks.length ∨ 65536 < key.size then 2 else if 20 < ks.length then 6 else if ∀ r, r ∈ root :: ks → (walkR hs r).2.2 = true then (if keyB key = true then 0 else 4) else 1
noncomputable def askD (hs : List S80) (root : Int) (ks : List Int) (key : ByteArray) : List Bool × Int := (if codeD hs root ks key = 0 then qbx hs (root :: ks) else [], codeD hs root ks key)
theorem qkN {hs : List S80} (hsm : qcG hs = true) (root : Int) (ks : List Int) (key : ByteArray) : Ev (fun k => qav.f k hs root ks key ⟨#[]⟩) (codeD hs root ks key) := by
 unfold qav.f
 by_cases h1 : (ks.length : Int) > 4096
 ·rw [show codeD hs root ks key = 2 from if_pos (.inl zdM)];refine Ev.pos h1 (Ev.succ ?_);simp only [qav.j0];exact Ev.pos zdK (Ev.is rfl)
 refine Ev.neg h1 ?_
 by_cases h2 : (key.size : Int) > 65536
 ·rw [show codeD hs root ks key = 2 from if_pos (.inr zdM)];refine Ev.pos h2 (Ev.succ ?_);simp only [qav.j0];exact Ev.pos zdK (Ev.is rfl)
 refine Ev.neg h2 (Ev.succ ?_);simp only [qav.j0];refine Ev.neg zdK ?_
 by_cases h3 : (ks.length : Int) > 20
 ·rw [show codeD hs root ks key = 6 from by unfold codeD; rw [if_neg zdM, if_pos zdM]];exact Ev.pos h3 (Ev.is rfl)
 refine Ev.neg h3 (Ev.bindk (if_pos hsm) ?_)
 by_cases hok : ∀ r, r ∈ root :: ks → (walkR hs r).2.2 = true
 ·refine Ev.pos (hok root List.mem_cons_self) (Ev.bindk (qe0 ks hsm) (Ev.succ ?_));have e : (!(ks.any fun r => !(walkR hs r).2.2)) = true := by
   rw [Bool.not_eq_true', List.any_eq_false];intro r hr;rw [hok r (List.mem_cons_of_mem _ hr)]
   decide
  rw [e];simp only [qav.j1];refine Ev.neg zdK (Ev.bindk (qio key) ?_)
  cases hk : keyB key with
  | true =>
   rw [show codeD hs root ks key = 0 from by unfold codeD; rw [if_neg zdM, if_neg zdM, if_pos hok, if_pos hk]];exact Ev.pos rfl (Ev.neg zdK (Ev.is rfl))
  | false =>
   rw [show codeD hs root ks key = 4 from by unfold codeD; rw [if_neg zdM, if_neg zdM, if_pos hok, if_neg (by rw [hk]; decide)]];exact Ev.neg zdK (Ev.is rfl)
 ·rw [show codeD hs root ks key = 1 from by unfold codeD; rw [if_neg zdM, if_neg zdM, if_neg hok]]
  by_cases hr : (walkR hs root).2.2 = true
  ·refine Ev.pos hr (Ev.bindk (qe0 ks hsm) (Ev.succ ?_));have e : (ks.any fun r => !(walkR hs r).2.2) = true := by
    rw [List.any_eq_true]
    by_cases hc : ∃ r, r ∈ ks ∧ (!(walkR hs r).2.2) = true
    ·exact hc
    ·exfalso
     refine hok fun r hr2 => ?_
     rcases List.mem_cons.1 hr2 with rfl | hr2
     ·exact hr
     ·cases hv : (walkR hs r).2.2 with
      | true => rfl
      | false => exact absurd ⟨r, hr2, by rw [hv]; rfl⟩ hc
   rw [e];simp only [qav.j1];exact Ev.pos zdK (Ev.is rfl)
  ·refine Ev.neg hr (Ev.succ ?_);simp only [qav.j1];exact Ev.pos zdK (Ev.is rfl)
noncomputable def dropR (hs : List S80) (root : Int) (ks : List Int) (key : ByteArray) : List S80 × Int × Int :=
 if codeD hs root ks key = 0 then
  (if hasAt (walkR hs root).1 key = true then
   (if (qbr hs root (qbx hs (root :: ks)) (dopB true key ⟨#[]⟩) key [⟨key, ⟨#[]⟩⟩]).2.2 = true then ((qbr hs root (qbx hs (root :: ks)) (dopB true key ⟨#[]⟩) key [⟨key, ⟨#[]⟩⟩]).1, (qbr hs root (qbx hs (root :: ks)) (dopB true key ⟨#[]⟩) key [⟨key, ⟨#[]⟩⟩]).2.1, 0) else (hs, root, 7))
  else (hs, root, 5))
 else ([], 0, codeD hs root ks key)
theorem ql5 {W : World} {base : Nat} (hb : base ≤ W.heap.size) (a : Int) : Kd.R (Kd.int .i64) 3 (W.alloc (.cells #[.int .i64 a] 3 (0, 0))) base (fun _ => True) (.slice (some ⟨W.heap.size, 0, none⟩) 1 1) [a] :=
 ⟨fun _ _ => trivial, [.int .i64 a], by show (W.alloc (.cells #[.int .i64 a] 3 (0, 0))).ownsRow base 3 1 (.slice (some ⟨W.heap.size, 0, none⟩) 1 1) 1 [.int .i64 a]; simpa using World.ownsRow_lit (base := base) (e := 3) (size := 1) W #[.int .i64 a] 1 hb zdK rfl, Reps.one (show Kd.M (Kd.int .i64) _ _ _ a [.int .i64 a] from rfl) (Reps.none _ _)⟩
theorem sask (w : World) (A : Option Addr) (c : Nat) (hs : List S80) (hC : Kd.C k80 w A hs.length hs) (hc : hs.length ≤ c) (hsm : qcG hs = true) (root : Int) (Ak : Option Addr) (ck : Nat) (ks : List Int) (hK : Kd.C (Kd.int .i64) w Ak ks.length ks) (hkc : ks.length ≤ ck) (key : ByteArray) (hn : ¬ (4096 < ks.length ∨ 65536 < key.size)) :
  Calls Tryz.prog 18 #[.agg #[.slice A hs.length c], .int .i64 root, .slice Ak ks.length ck, .string key] w fun e w' => ∃ B7 : Value, e = .returned (.tuple #[B7, .int .i64 (askD hs root ks key).2]) ∧ Kd.R Kd.bool 4 w' w.heap.size (fun _ => True) B7 (askD hs root ks key).1 ∧ Below w.heap.size w w' := by
 have hu := Tryz.underlying29;obtain ⟨RR, hRR⟩ : ∃ RR, RR = askD hs root ks key := ⟨_, rfl⟩
 rw [← hRR];have HRR := z_ (show RR = (if codeD hs root ks key = 0 then qbx hs (root :: ks) else [], codeD hs root ks key) from hRR);have HA := z_ (And.intro hC (And.intro hc hsm));have HKS := z_ (And.intro hK hkc);have HN := z_ hn;have c1 : decide (4096 < (ks.length : Int)) = false := decide_eq_false zdM;have c2 : decide (65536 < (key.size : Int)) = false := decide_eq_false zdM;obtain ⟨w1, hw1⟩ : ∃ w1, w1 = w.alloc (.cells #[.slice A hs.length c] 29 (0, 0)) := ⟨_, rfl⟩
 have HB := z_ (show Below w.heap.size w w1 from hw1 ▸ qaA (Below.refl _ w) _);have HX := z_ (show w1.heap[w.heap.size]? = some (.cells #[.slice A hs.length c] 29 (0, 0)) from hw1 ▸ qbz w _);clear hRR hC hc hsm hK hkc hn
 go_enter Tryz.func18, Tryz.ntmps18
 go_upto_region 1 with fail
 rw [← hw1];clear hw1
 by_cases h3 : 20 < ks.length
 ·have c3 : decide (20 < (ks.length : Int)) = true := decide_eq_true zdM;have HF := z_ (show RR = ([], 6) from by
   rw [HRR.o, show codeD hs root ks key = 6 from by unfold codeD; rw [if_neg HN.o, if_pos h3], if_neg zdK])
  clear h3
  go_wp2_with ((with_reducible refine qaw (N := 24) rfl ?_); refine Kd.qdr Kd.bool w.heap.size 4 zdO (N := 24) zdO (xs := ([] : List Bool)) (inner := []) (ok := fun _ => True) (okp := fun _ => True) zcm ?hp (fun _ hk => hk) trivial HB.o HB.o.size zdN ?_; (case hp => exact (Reps.none _ _)); intro v1 w1 ho1 hb1 j3 K0; have o8 := z_ (Below.grown (Below.refl _ _) j3 (Nat.le_refl _) (fun k hk => zdH)); clear j3 K0; have R9 := z_ ho1; have HB1 := z_ hb1; clear ho1 hb1)
  ((try simp only [Exit.inBlock, Exit.then]); refine bodyPost_ret (results_tmp2 rfl _ _ _) rfl ?_)
  rw [HF.o];exact ⟨_, rfl, R9.o, HB1.o⟩
 have c3 : decide (20 < (ks.length : Int)) = false := decide_eq_false zdM;obtain ⟨us, ok, hus⟩ : ∃ us ok, qeZ hs (root :: ks) noneW = (us, ok) := ⟨_, _, rfl⟩
 have HRE := z_ (show qdl.f hs (root :: ks) = some (us, ok) from by rw [← hus]; exact if_pos ⟨HA.o.2.2, by rw [List.length_cons]; omega⟩);have HUS := z_ hus;have H3 := z_ h3;clear hus h3
 go_upto_region 5 with fail
 have HB2 := z_ (qba HB.o);have AE := z_ (qaq HX.o);have HLB := z_ (show (ks.length + 1) * 8 ≤ 140737488355328 from by have := H3.o; omega);clear HB HX
 go_region_held3 (fun W => W.cell? ⟨w.heap.size, 0, none⟩ = some (.slice A hs.length c))
  (first | exact qac AE.o 0 | exact qac (qam AE.o _) 0 | exact qac cC.o 0 | exact qac HX4.o 0)
  (first
   | (refine Kd.qdG (Kd.int .i64) (w0 := w) w.heap.size zdO (.tmp 28) (.tmp 29) 25 3 (.int .i64 0) 8 rfl Tryz.underlying25 info3 rfl zdK zdM (.slice (some ⟨w1.drew.heap.size, 0, none⟩) 1 1) [root] ks Ak ks.length ck (fun _ => True) (fun _ => False) rfl rfl (ql5 HB2.o.size root) (Kd.qeM (Kd.qar HKS.o.1 HB2.o) _) (fun _ _ h => h) (fun _ h => h.elim) (fun _ _ => trivial) (qaA HB2.o _) (qaA HB2.o _).size (by have := HLB.o; simp only [List.length_cons, List.length_nil]; omega) ?_; intro v3 w3 dC hb3 hg3 OZ; obtain ⟨A3, KX, rfl, g3, g4⟩ := Kd.qa4 dC; have cC := z_ (qbe (qam AE.o _) hg3 (Kd.R_ne (ql5 HB2.o.size root) (qam AE.o _) zdK)); have HB3 := z_ hb3; have zY := z_ (And.intro g4 g3); clear dC hb3 hg3 OZ g3 g4)
   | (go_at_call 37; refine (qdl.calls A c hs A3 KX (root :: ks) us ok _ (Kd.qar HA.o.1 HB3.o) HA.o.2.1 zY.o.1 zY.o.2 HRE.o).mono ?_; rintro e w4 ⟨v4, rfl, GH, hb4⟩; have HX4 := z_ (qab cC.o hb4); have cB := z_ (qaa HB3.o hb4); have HU := z_ (Kd.qa3 GH HB3.o.size); clear hb4 GH; dsimp only))
 clear HB2 AE cC HB3 zY HX4 HLB
 cases ok with
 | false =>
  have HF := z_ (show RR = ([], 1) from by
   have hno : ¬ ∀ r, r ∈ root :: ks → (walkR hs r).2.2 = true := fun h => by have := qjv noneW h; rw [HUS.o] at this; cases this
   rw [HRR.o, show codeD hs root ks key = 1 from by unfold codeD; rw [if_neg HN.o, if_neg H3.o, if_neg hno], if_neg zdK])
  go_wp2_with ((with_reducible refine qaw (N := 36) rfl ?_); refine Kd.qdr Kd.bool w.heap.size 4 zdO (N := 36) zdO (xs := ([] : List Bool)) (inner := []) (ok := fun _ => True) (okp := fun _ => True) zcm ?hp (fun _ hk => hk) trivial cB.o cB.o.size zdN ?_; (case hp => exact (Reps.none _ _)); intro v1 w1 ho1 hb1 j3 K0; have o8 := z_ (Below.grown (Below.refl _ _) j3 (Nat.le_refl _) (fun k hk => zdH)); clear j3 K0; have R9 := z_ ho1; have HB1 := z_ hb1; clear ho1 hb1)
  ((try simp only [Exit.inBlock, Exit.then]); refine bodyPost_ret (results_tmp2 rfl _ _ _) rfl ?_)
  rw [HF.o];exact ⟨_, rfl, R9.o, HB1.o⟩
 | true =>
 have hok : ∀ r, r ∈ root :: ks → (walkR hs r).2.2 = true := by
  by_cases h : ∀ r, r ∈ root :: ks → (walkR hs r).2.2 = true
  ·exact h
  ·have := ql4 noneW h;rw [HUS.o] at this
   cases this
 have zc : us = qbx hs (root :: ks) := by have := qjv noneW hok; rw [HUS.o] at this; exact (Prod.mk.inj this).1
 have HKY := z_ (qkj key)
 cases hk : keyB key with
 | false =>
  have HF := z_ (show RR = ([], 4) from by
   rw [HRR.o, show codeD hs root ks key = 4 from by unfold codeD; rw [if_neg HN.o, if_neg H3.o, if_pos hok, if_neg (by rw [hk]; decide)], if_neg zdK])
  rw [hk] at HKY;clear hok zc hk
  go_upto_region 8 with fail
  go_wp2_with fail
  refine (qaY.calls _ _ _ _ _ HKY.o).mono ?_;rintro e w5 ⟨rfl, hd5⟩;have L3 := z_ (qaa cB.o hd5.below);clear hd5
  go_wp2_with ((with_reducible refine qaw (N := 41) rfl ?_); refine Kd.qdr Kd.bool w.heap.size 4 zdO (N := 41) zdO (xs := ([] : List Bool)) (inner := []) (ok := fun _ => True) (okp := fun _ => True) zcm ?hp (fun _ hk => hk) trivial L3.o L3.o.size zdN ?_; (case hp => exact (Reps.none _ _)); intro v1 w1 ho1 hb1 j3 K0; have o8 := z_ (Below.grown (Below.refl _ _) j3 (Nat.le_refl _) (fun k hk => zdH)); clear j3 K0; have R9 := z_ ho1; have HB1 := z_ hb1; clear ho1 hb1)
  ((try simp only [Exit.inBlock, Exit.then]); refine bodyPost_ret (results_tmp2 rfl _ _ _) rfl ?_)
  rw [HF.o];exact ⟨_, rfl, R9.o, HB1.o⟩
 | true =>
  have HF := z_ (show RR = (us, 0) from by
   rw [HRR.o, show codeD hs root ks key = 0 from by unfold codeD; rw [if_neg HN.o, if_neg H3.o, if_pos hok, if_pos hk], if_pos rfl, zc])
  rw [hk] at HKY;clear hok zc hk
  go_upto_region 8 with fail
  go_wp2_with fail
  refine (qaY.calls _ _ _ _ _ HKY.o).mono ?_;rintro e w5 ⟨rfl, hd5⟩;have HU5 := z_ (Kd.qa7 HU.o hd5.below);have L3 := z_ (qaa cB.o hd5.below);clear hd5 HU
  go_wp2_with fail
  ((try simp only [Exit.inBlock, Exit.then]); refine bodyPost_ret (results_tmp2 rfl _ _ _) rfl ?_)
  rw [HF.o];exact ⟨_, rfl, HU5.o, L3.o⟩
theorem qhn {hs : List S80} {root : Int} {ks : List Int} {key : ByteArray} (h0 : codeD hs root ks key = 0) : hs.length = 50 ∧ ks.length ≤ 20 ∧ keyB key = true ∧ (∀ r, r ∈ root :: ks → (walkR hs r).2.2 = true) ∧ Fine (walkR hs root).1 ∧ (walkR hs root).1.length ≤ 60 ∧ ∃ pg, qdM hs 21 root (walkR hs root).1 pg ∧ ∀ i, i ∈ pg → qa5 (qbx hs (root :: ks)) i := by
 unfold codeD at h0
 by_cases h1 : 4096 < ks.length ∨ 65536 < key.size
 ·rw [if_pos h1] at h0; exact absurd h0 zdK
 rw [if_neg h1] at h0
 by_cases h2 : 20 < ks.length
 ·rw [if_pos h2] at h0; exact absurd h0 zdK
 rw [if_neg h2] at h0
 by_cases h3 : ∀ r, r ∈ root :: ks → (walkR hs r).2.2 = true
 ·rw [if_pos h3] at h0
  by_cases h4 : keyB key = true
  ·have hr := h3 root List.mem_cons_self;obtain ⟨hl, hf, hp, pg, ht, hm⟩ := qiy hr;refine ⟨hl, zdM, h4, h3, hf, hp, pg, ht, fun i hi => ?_⟩;refine qju List.mem_cons_self hr i ?_;rw [hm];exact qhk hi zcz
  ·rw [if_neg h4] at h0; exact absurd h0 zdK
 ·rw [if_neg h3] at h0; exact absurd h0 zdK
theorem qho (key v : ByteArray) (l : List S61) : (dopB true key v l).length ≤ l.length := qjn key l
theorem qkO {hs : List S80} {root : Int} {ks : List Int} {key v : ByteArray} {pg : List Nat} (hl : hs.length = 50) (hk : keyB key = true) (hv : v.size ≤ 90) (hf : Fine (walkR hs root).1) (ht : qdM hs 21 root (walkR hs root).1 pg) (hu : ∀ i, i ∈ pg → qa5 (qbx hs (root :: ks)) i) (hnf : (qbC hs root (qbx hs (root :: ks)) (dopB true key v) key [⟨key, v⟩]).2.2.2 = false) : ∃ e ps' pg', e ≤ 22 ∧ PD (TrD (qbC hs root (qbx hs (root :: ks)) (dopB true key v) key [⟨key, v⟩]).2.1 e) (qbC hs root (qbx hs (root :: ks)) (dopB true key v) key [⟨key, v⟩]).1 ps' pg' :=
 qks hl (qdR _ _) ht hu hf (qjr true hk hv) ⟨fine_one hk hv, zdN⟩ zdM hnf
theorem sdrop (key : ByteArray) (w : World) (A : Option Addr) (c : Nat) (hs : List S80) (hC : Kd.C k80 w A hs.length hs) (hc : hs.length ≤ c) (ht : TinyN hs) (root : Int) (Ak : Option Addr) (ck : Nat) (ks : List Int) (hK : Kd.C (Kd.int .i64) w Ak ks.length ks) (hkc : ks.length ≤ ck) :
  Calls Tryz.prog 15 #[.agg #[.slice A hs.length c], .int .i64 root, .slice Ak ks.length ck, .string key] w fun e w' => ∃ v, e = .returned (.tuple #[.agg #[v], .int .i64 (dropR hs root ks key).2.1, .int .i64 (dropR hs root ks key).2.2]) ∧ Kd.S k80 80 w' w.heap.size (fun _ => True) v (dropR hs root ks key).1 ∧ Below w.heap.size w w' := by
 have huh := Tryz.underlying29;obtain ⟨RR, hRR⟩ : ∃ RR, RR = dropR hs root ks key := ⟨_, rfl⟩
 rw [← hRR];obtain ⟨gh, hgh⟩ : ∃ gh, gh = w.heap.size := ⟨_, rfl⟩
 obtain ⟨W1, hW1⟩ : ∃ W1, W1 = w.alloc (Obj.cells #[.slice A hs.length c] 29 (0, 0)) := ⟨_, rfl⟩
 obtain ⟨gr, hgr⟩ : ∃ gr, gr = W1.heap.size := ⟨_, rfl⟩
 have OA : gr = w.heap.size + 1 := zcr;obtain ⟨W2, hW2⟩ : ∃ W2, W2 = W1.alloc (Obj.cells #[.slice none 0 0] 29 (0, 0)) := ⟨_, rfl⟩
 have LE : Below w.heap.size w W1 := zbU;have hY2 : Below W1.heap.size W1 W2 := zbV;have hX1 : W1.heap[gh]? = some (.cells #[.slice A hs.length c] 29 (0, 0)) := zcC;have HXH := z_ (qab hX1 hY2);have HXR := z_ (show W2.heap[gr]? = some (.cells #[.slice none 0 0] 29 (0, 0)) from zcB);have HYW := z_ (qaa LE hY2);have HGR := z_ (show w.heap.size ≤ gr from zdM);have HA := z_ (And.intro hC (And.intro hc ht));have HKS := z_ (And.intro hK hkc);have HRR := z_ hRR;clear hC hc ht hK hkc LE hY2 hX1 hRR
 go_enter Tryz.func15, Tryz.ntmps15
 go_upto_region 1 with fail
 rw [← hW1, ← hW2, ← OA, ← hgh];clear hW1 hW2 OA hgr hgh
 by_cases hlong : 4096 < ks.length ∨ 65536 < key.size
 ·as_aux_lemma =>
   have HRF := z_ (show RR = ([], 0, 2) from by
    have e : codeD hs root ks key = 2 := if_pos hlong;rw [HRR.o];unfold dropR;rw [e, if_neg zdK])
   have fr := qau HXR.o 0;have dr := qac HXR.o 0;simp only [List.getElem?_toArray, List.getElem?_cons_zero] at dr;have c12 : decide (4096 < (ks.length : Int)) = true ∨ decide (4096 < (ks.length : Int)) = false ∧ decide (65536 < (key.size : Int)) = true := by
    by_cases h1 : 4096 < ks.length
    ·exact .inl (decide_eq_true zdM)
    ·exact .inr ⟨decide_eq_false zdM, decide_eq_true zdM⟩
   clear hlong
   rcases c12 with c1 | ⟨c1, c2⟩
   ·go_wp2_with fail
    refine bodyPost_ret (qbR rfl _ _ gr 29 #[.slice none 0 0] (0, 0) _ rfl (qaX (cs := #[.slice none 0 0]) HXR.o 0 _ rfl) Tryz.underlying29 rfl zdG) rfl ?_;rw [HRF.o];exact ⟨_, rfl, Kd.qk9 _ _ _ _ _, HYW.o.setCell (p := ⟨gr, 0, none⟩) HGR.o _⟩
   ·go_wp2_with fail
    refine bodyPost_ret (qbR rfl _ _ gr 29 #[.slice none 0 0] (0, 0) _ rfl (qaX (cs := #[.slice none 0 0]) HXR.o 0 _ rfl) Tryz.underlying29 rfl zdG) rfl ?_;rw [HRF.o];exact ⟨_, rfl, Kd.qk9 _ _ _ _ _, HYW.o.setCell (p := ⟨gr, 0, none⟩) HGR.o _⟩
 have c1 : decide (4096 < (ks.length : Int)) = false := decide_eq_false zdM;have c2 : decide (65536 < (key.size : Int)) = false := decide_eq_false zdM;obtain ⟨us, hus⟩ : ∃ us, us = (askD hs root ks key).1 := ⟨_, rfl⟩
 obtain ⟨code, hcd⟩ : ∃ code, code = codeD hs root ks key := ⟨_, rfl⟩
 have HNL := z_ hlong;have HCD := z_ (And.intro hus hcd);have dh := qac HXH.o 0;simp only [List.getElem?_toArray, List.getElem?_cons_zero] at dh;clear hlong hus hcd
 go_wp2_with fail
 refine (sask W2 A c hs (Kd.qar HA.o.1 HYW.o) HA.o.2.1 (qdD HA.o.2.2) root Ak ck ks (Kd.qar HKS.o.1 HYW.o) HKS.o.2 key HNL.o).mono ?_;rw [show (askD hs root ks key).2 = code from HCD.o.2.symm, ← HCD.o.1];rintro e w3 ⟨v3, rfl, dC, hb3⟩;obtain ⟨A3, c3, rfl, hl3, hc3⟩ := Kd.qa4 dC;have rU := z_ (And.intro hl3 hc3);have MM := z_ (qab HXH.o hb3);have PF := z_ (qab HXR.o hb3);have HB3 := z_ (qaa HYW.o hb3);clear dC hb3 hl3 hc3 HXH HXR HYW HNL dh
 by_cases h0 : code = 0
 case neg =>
  as_aux_lemma =>
   have HRF := z_ (show RR = ([], 0, code) from by
    rw [HRR.o];unfold dropR;rw [← HCD.o.2, if_neg h0])
   have c0 : (code != 0) = true := bne_iff_ne.mpr h0;have fr := qau PF.o 0;have dr := qac PF.o 0;simp only [List.getElem?_toArray, List.getElem?_cons_zero] at dr;clear h0
   go_wp2_with fail
   refine bodyPost_ret (qbR rfl _ _ gr 29 #[.slice none 0 0] (0, 0) _ rfl (qaX (cs := #[.slice none 0 0]) PF.o 0 _ rfl) Tryz.underlying29 rfl zdG) rfl ?_;rw [HRF.o];exact ⟨_, rfl, Kd.qk9 _ _ _ _ _, HB3.o.setCell (p := ⟨gr, 0, none⟩) HGR.o _⟩
 subst h0;have KJ : codeD hs root ks key = 0 := HCD.o.2.symm;have HDT := z_ (qhn KJ);have hus : us = qbx hs (root :: ks) := by rw [HCD.o.1]; unfold askD; rw [if_pos KJ]
 have HUS := z_ hus;have kB := z_ KJ;have hne : ((0 : Int) != 0) = false := rfl;obtain ⟨ps, hps⟩ : ∃ ps, ps = (walkR hs root).1 := ⟨_, rfl⟩
 obtain ⟨sk, hsk⟩ : ∃ sk, sk = (walkR hs root).2.1 := ⟨_, rfl⟩
 obtain ⟨ok, hok⟩ : ∃ ok, ok = (walkR hs root).2.2 := ⟨_, rfl⟩
 have HWK := z_ (show qcp.f hs root = some (ps, sk, ok) from by rw [hps, hsk, hok]; exact if_pos (qdD HA.o.2.2));have HPS := z_ (And.intro hps (show ps.length ≤ 60 from by rw [hps]; exact HDT.o.2.2.2.2.2.1));have dh := qac MM.o 0;simp only [List.getElem?_toArray, List.getElem?_cons_zero] at dh;clear KJ hus hps hsk hok HCD
 go_wp2_with fail
 refine (qcp.calls A c hs root ps sk ok w3 (Kd.qar HA.o.1 HB3.o) HA.o.2.1 HWK.o).mono ?_;rintro e w4 ⟨v4, v5, rfl, GH, wN, hb4⟩;obtain ⟨A4, c4, rfl, hl4, hc4⟩ := Kd.qa4 GH;obtain ⟨A5, c5, rfl, _, _⟩ := Kd.qa4 wN;have ud := z_ (And.intro hl4 hc4);have OT := z_ (qab MM.o hb4);have uE := z_ (qab PF.o hb4);have cB := z_ (qaa HB3.o hb4);have Ed := z_ (show us.length ≤ c3 ∧ Kd.C Kd.bool w4 A3 us.length us from ⟨rU.o.1, Kd.qar rU.o.2 hb4⟩);obtain ⟨gv, hgv⟩ : ∃ gv, gv = getV ps key := ⟨_, rfl⟩
 obtain ⟨hq, hhq⟩ : ∃ hq, hq = hasAt ps key := ⟨_, rfl⟩
 obtain ⟨kg, hkg⟩ := spec_get ps key (by have := HPS.o; omega);have HKG := z_ (show qdP.f kg ps key = some (gv, hq) from by rw [hgv, hhq]; exact hkg kg (Nat.le_refl _));have HHQ := z_ hhq;clear GH wN hb4 hl4 hc4 MM PF HB3 rU HWK dh hgv hhq hkg
 go_wp2_with fail
 refine (qdP.calls kg A4 c4 ps key gv hq w4 ud.o.2 ud.o.1 HKG.o).mono ?_;rintro e w6 ⟨rfl, hd6⟩;have hb6 := hd6.below;have cT := z_ (qab OT.o hb6);have iK := z_ (qab uE.o hb6);have MA := z_ (qaa cB.o hb6);have HU6 := z_ (show us.length ≤ c3 ∧ Kd.C Kd.bool w6 A3 us.length us from ⟨Ed.o.1, Kd.qar Ed.o.2 hb6⟩);have HOWN := z_ (own_is hs (by have := HDT.o.1; omega) HA.o.2.2);have dh := qac cT.o 0;simp only [List.getElem?_toArray, List.getElem?_cons_zero] at dh;clear hd6 hb6 OT uE cB Ed HKG ud
 cases hqq : hq with
 | false =>
  as_aux_lemma =>
   have HRF := z_ (show RR = (hs, root, 5) from by
    rw [HRR.o];unfold dropR;rw [if_pos kB.o, if_neg (by rw [← HPS.o.1, ← HHQ.o, hqq]; decide)])
   clear hqq
   go_wp2_with fail
   refine (qaZ.calls _ A c hs hs w6 (Kd.qar HA.o.1 MA.o) HA.o.2.1 HOWN.o).mono ?_;rintro e w7 ⟨v7, rfl, hS, IB⟩;have NA := z_ (qab iK.o IB);have CQ := z_ (qaa MA.o IB);obtain ⟨A7, c7, rfl⟩ := Kd.qeD hS;have Ke := z_ (Kd.qcJ hS MA.o.size);have fr := qau NA.o 0;have dr := qac NA.o 0;simp only [List.getElem?_toArray, List.getElem?_cons_zero] at dr;clear hS IB dh
   go_wp2_with fail
   refine bodyPost_ret (qbR rfl _ _ gr 29 #[.slice A7 hs.length c7] (0, 0) _ rfl (qaX (cs := #[.slice none 0 0]) NA.o 0 _ rfl) Tryz.underlying29 rfl zdG) rfl ?_;rw [HRF.o];exact ⟨_, rfl, Kd.qfY Ke.o NA.o qgx 0 _, CQ.o.setCell (p := ⟨gr, 0, none⟩) HGR.o _⟩
 | true =>
  obtain ⟨hl, hkl, hkb, hall, hfine, EU, pg, hT, hu⟩ := HDT.o;have hbt : (qbC hs root us (dopB true key ⟨#[]⟩) key [⟨key, ⟨#[]⟩⟩]).2.2.2 = false → ∃ e ps' pg', e ≤ 22 ∧ PD (TrD (qbC hs root us (dopB true key ⟨#[]⟩) key [⟨key, ⟨#[]⟩⟩]).2.1 e) (qbC hs root us (dopB true key ⟨#[]⟩) key [⟨key, ⟨#[]⟩⟩]).1 ps' pg' := by
   rw [HUS.o];exact qkO hl hkb zdK hfine hT hu
  have hsc := schg key ⟨#[]⟩ true qlT w6 A c hs root A3 c3 us (Kd.qar HA.o.1 MA.o) HA.o.2.1 HU6.o.2 HU6.o.1 hl (by rw [HUS.o]; exact qdR _ _) HA.o.2.2 21 _ pg hT (by rw [HUS.o]; exact hu) zdM hbt;obtain ⟨N1, hN1⟩ : ∃ x, x = (qbr hs root us (dopB true key ⟨#[]⟩) key [⟨key, ⟨#[]⟩⟩]).1 := ⟨_, rfl⟩
  obtain ⟨r1, hr1⟩ : ∃ x, x = (qbr hs root us (dopB true key ⟨#[]⟩) key [⟨key, ⟨#[]⟩⟩]).2.1 := ⟨_, rfl⟩
  obtain ⟨k1, hk1⟩ : ∃ x, x = (qbr hs root us (dopB true key ⟨#[]⟩) key [⟨key, ⟨#[]⟩⟩]).2.2 := ⟨_, rfl⟩
  rw [← hN1, ← hr1, ← hk1] at hsc;have HSC := z_ hsc;have HRF := z_ (show RR = if k1 = true then (N1, r1, 0) else (hs, root, 7) from by
   rw [HRR.o, hk1, hN1, hr1, HUS.o];unfold dropR;rw [if_pos kB.o, if_pos zcF])
  clear hl hkl hkb hall hfine EU hT hu hbt hsc hN1 hr1 hk1 hqq
  go_wp2_with fail
  refine HSC.o.mono ?_;rintro e w7 ⟨v7, rfl, Cm, nn, IB⟩;have Rb := z_ (qab cT.o IB);have NA := z_ (qab iK.o IB);have CQ := z_ (qaa MA.o IB)
  cases hkk : k1 with
  | false =>
   as_aux_lemma =>
    obtain rfl := Cm hkk;have HRG := z_ (show RR = (hs, root, 7) from by rw [HRF.o, hkk, if_neg zdK]);obtain ⟨W8, hU⟩ : ∃ W8, W8 = w7.alloc (Obj.cells #[.slice A hs.length c] 29 (0, 0)) := ⟨_, rfl⟩
    have iN : Below w7.heap.size w7 W8 := zbY;have sZ := z_ (qab Rb.o iN);have WE := z_ (qab NA.o iN);have rL := z_ (qaa CQ.o iN);have Qd := qac sZ.o 0;simp only [List.getElem?_toArray, List.getElem?_cons_zero] at Qd;clear Cm nn IB hkk iN dh
    go_upto_region 11 with fail
    rw [← hU];clear hU
    go_wp2_with fail
    refine (qaZ.calls _ A c hs hs W8 (Kd.qar HA.o.1 rL.o) HA.o.2.1 HOWN.o).mono ?_;rintro e w9 ⟨v9, rfl, hS, NG⟩;have XI := z_ (qab WE.o NG);have KV := z_ (qaa rL.o NG);obtain ⟨A9, c9, rfl⟩ := Kd.qeD hS;have pU := z_ (Kd.qcJ hS rL.o.size);have fr := qau XI.o 0;have dr := qac XI.o 0;simp only [List.getElem?_toArray, List.getElem?_cons_zero] at dr;clear hS NG Qd
    go_wp2_with fail
    refine bodyPost_ret (qbR rfl _ _ gr 29 #[.slice A9 hs.length c9] (0, 0) _ rfl (qaX (cs := #[.slice none 0 0]) XI.o 0 _ rfl) Tryz.underlying29 rfl zdG) rfl ?_;rw [HRG.o];exact ⟨_, rfl, Kd.qfY pU.o XI.o qgx 0 _, KV.o.setCell (p := ⟨gr, 0, none⟩) HGR.o _⟩
  | true =>
   as_aux_lemma =>
    have hS := nn hkk;obtain ⟨A7, c7, rfl⟩ := Kd.qeD hS;have Ke := z_ (Kd.qcJ hS MA.o.size);have HRG := z_ (show RR = (N1, r1, 0) from by rw [HRF.o, hkk, if_pos rfl]);obtain ⟨g8, bd⟩ : ∃ g8, g8 = w7.heap.size := ⟨_, rfl⟩
    obtain ⟨W8, hU⟩ : ∃ W8, W8 = w7.alloc (Obj.cells #[.slice A7 N1.length c7] 29 (0, 0)) := ⟨_, rfl⟩
    have iN : Below w7.heap.size w7 W8 := zbY;have Bd := z_ (show W8.heap[g8]? = some (.cells #[.slice A7 N1.length c7] 29 (0, 0)) from by rw [hU, bd]; exact qbz w7 _);have WE := z_ (qab NA.o iN);have rL := z_ (qaa CQ.o iN);have rj := z_ (Kd.qaO Ke.o iN);have d8 := qac Bd.o 0;have fr := qau WE.o 0;have dr := qac WE.o 0;simp only [List.getElem?_toArray, List.getElem?_cons_zero] at d8 dr;clear Cm nn IB hkk iN dh hS
    go_upto_region 11 with fail
    rw [← hU, ← bd];clear hU bd
    go_wp2_with fail
    refine bodyPost_ret (qbR rfl _ _ gr 29 #[.slice A7 N1.length c7] (0, 0) _ rfl (qaX (cs := #[.slice none 0 0]) WE.o 0 _ rfl) Tryz.underlying29 rfl zdG) rfl ?_;rw [HRG.o];exact ⟨_, rfl, Kd.qfY rj.o WE.o qgx 0 _, rL.o.setCell (p := ⟨gr, 0, none⟩) HGR.o _⟩
theorem has_mem {l : List S61} {key : ByteArray} (h : Rises l) {p : S61} (hp : p ∈ l) (he : p.f0.toList = key.toList) : hasAt l key = true := by
 obtain ⟨j, hj, rfl⟩ := List.mem_iff_getElem.1 hp;have hle : lowAt l key ≤ j := by
  rcases Nat.lt_or_ge j (lowAt l key) with h1 | h1
  ·have h2 := qfL (l := l) (key := key) hj h1;rw [he, qco] at h2
   cases h2
  ·exact h1
 have hlt : lowAt l key < l.length := zdM;have hn := List.findIdx_getElem (xs := l) (p := fun p : S61 => !Op.bytesLess p.f0.toList key.toList) (w := hlt);have hn2 : Op.bytesLess (l[lowAt l key]'hlt).f0.toList key.toList = false := by
  have h8 : (!Op.bytesLess (l[lowAt l key]'hlt).f0.toList key.toList) = true := hn
  simpa using h8
 have hj2 : lowAt l key = j := by
  rcases Nat.lt_or_ge (lowAt l key) j with h2 | h2
  ·have h3 := List.pairwise_iff_getElem.1 h _ _ hlt hj h2;rw [he, hn2] at h3
   cases h3
  ·omega
 unfold hasAt;rw [decide_eq_true hlt, Bool.true_and, qgW _ _ hlt];refine decide_eq_true ?_;simp only [hj2];exact he
theorem any_has {l : List S61} {key : ByteArray} (h : Rises l) : (l.any fun p => cmpS p.f0 key == 0) = hasAt l key := by
 rw [Bool.eq_iff_iff, List.any_eq_true]
 constructor
 ·rintro ⟨p, hp, he⟩;exact has_mem h hp (qfJ.1 (by simpa using he))
 ·intro hh;refine ⟨l[lowAt l key]'(qem hh), List.getElem_mem _, ?_⟩;rw [show cmpS (l[lowAt l key]'(qem hh)).f0 key = 0 from qfJ.2 (by rw [qgX hh])];rfl
theorem qj7 {hs : List S80} {root : Int} {keep : List Bool} {dop : List S61 → List S61} {key : ByteArray} {one one' : List S61} (hr : root ≠ -1) : qbr hs root keep dop key one = qbr hs root keep dop key one' := by
 have e : qbC hs root keep dop key one = qbC hs root keep dop key one' := by unfold qbC; rw [if_neg hr, if_neg hr]
 unfold qbr;rw [e]
theorem ql6 (x : S61) (key : ByteArray) (kb : Nat) (w : World) (hk : w.heap[kb]? = some (.cells #[.string key] 9 (0, 0))) : Calls Tryz.prog 33 #[.agg #[.string x.f0, .string x.f1], .pointer (some ⟨kb, 0, none⟩)] w fun e w' => e = .returned (.bool (cmpS x.f0 key == 0)) ∧ Below w.heap.size w w' := by
 have hu := Tryz.underlying61;obtain ⟨W1, hW1⟩ : ∃ W1, W1 = w.alloc (Obj.cells #[.string x.f0, .string x.f1] 61 (0, 0)) := ⟨_, rfl⟩
 obtain ⟨gp, hgp⟩ : ∃ gp, gp = w.heap.size := ⟨_, rfl⟩
 have hb : Below w.heap.size w W1 := zbU;have dk := qac (qab hk hb) 0;have hX : W1.heap[gp]? = some (.cells #[.string x.f0, .string x.f1] 61 (0, 0)) := by rw [hW1, hgp]; exact qbz w _
 have dp := qac hX 0;have HB := z_ hb;simp only [List.getElem?_toArray, List.getElem?_cons_zero] at dk dp;clear hk hb hX
 go_enter Tryz.func33, Tryz.ntmps33
 go_upto_region 1 with fail
 rw [← hW1, ← hgp];clear hW1 hgp
 go_wp2_with fail
 refine (qeJ _ _ _).mono ?_;rintro e w' ⟨rfl, rfl⟩
 go_wp2_with fail
 go_ret
 exact ⟨rfl, HB.o⟩
theorem ql7 (key : ByteArray) (w : World) (A : Option Addr) (c : Nat) (hs : List S80) (hC : Kd.C k80 w A hs.length hs) (hc : hs.length ≤ c) (ht : TinyN hs) (root : Int) (Ak : Option Addr) (ck : Nat) (ks : List Int) (hK : Kd.C (Kd.int .i64) w Ak ks.length ks) (hkc : ks.length ≤ ck) (h0 : codeD hs root ks key = 0) (hh : hasAt (walkR hs root).1 key = true) :
  Calls Tryz.prog 35 #[.agg #[.slice A hs.length c], .int .i64 root, .slice Ak ks.length ck, .string key] w fun e w' => ChgPost w (qbr hs root (qbx hs (root :: ks)) (dopB true key ⟨#[]⟩) key [⟨key, ⟨#[]⟩⟩]) e w' := by
 have huh := Tryz.underlying29;obtain ⟨hl, hkl, hkb, hall, hfine, EU, pg, hT, hu⟩ := qhn h0;have hne : root ≠ -1 := by
  rintro rfl
  rcases hT with ⟨_, h1, _⟩ | ⟨k, hk, _⟩
  ·rw [h1] at hh; exact absurd (qem hh) (Nat.not_lt_zero _)
  ·omega
 have hrr : qbr hs root (qbx hs (root :: ks)) (dopB true key ⟨#[]⟩) key [⟨key, ⟨#[]⟩⟩] = qbr hs root (qbx hs (ks ++ [root])) (dopB true key ⟨#[]⟩) key (dopB true key ⟨#[]⟩ []) := by rw [qh4]; exact qj7 hne
 obtain ⟨RR, hRR⟩ : ∃ RR, RR = qbr hs root (qbx hs (root :: ks)) (dopB true key ⟨#[]⟩) key [⟨key, ⟨#[]⟩⟩] := ⟨_, rfl⟩
 rw [← hRR];rw [← hRR] at hrr;obtain ⟨gh, hgh⟩ : ∃ gh, gh = w.heap.size := ⟨_, rfl⟩
 obtain ⟨W1, hW1⟩ : ∃ W1, W1 = w.alloc (Obj.cells #[.slice A hs.length c] 29 (0, 0)) := ⟨_, rfl⟩
 obtain ⟨gk, hgk⟩ : ∃ gk, gk = W1.heap.size := ⟨_, rfl⟩
 have JQ : gk = w.heap.size + 1 := by rw [hgk, hW1]; exact Array.size_push _
 obtain ⟨W2, hW2⟩ : ∃ W2, W2 = W1.alloc (Obj.cells #[.string key] 9 (0, 0)) := ⟨_, rfl⟩
 obtain ⟨gr, hgr⟩ : ∃ gr, gr = W2.heap.size := ⟨_, rfl⟩
 have OA : gr = w.heap.size + 1 + 1 := zby
 obtain ⟨W3, hW3⟩ : ∃ W3, W3 = W2.alloc (Obj.cells #[.slice none 0 0] 29 (0, 0)) := ⟨_, rfl⟩
 have LE : Below w.heap.size w W1 := zbU;have hY2 : Below W1.heap.size W1 W2 := zbV;have aV : Below W2.heap.size W2 W3 := zcb;have hX1 : W1.heap[gh]? = some (.cells #[.slice A hs.length c] 29 (0, 0)) := zcC;have hX2 : W2.heap[gk]? = some (.cells #[.string key] 9 (0, 0)) := by rw [hW2, hgk]; exact qbz W1 _
 have HXH := z_ (qab (qab hX1 hY2) aV);have HXK := z_ (qab hX2 aV);have HXR := z_ (show W3.heap[gr]? = some (.cells #[.slice none 0 0] 29 (0, 0)) from by rw [hW3, hgr]; exact qbz W2 _);have HYW := z_ (qaa (qaa LE hY2) aV);have HGR := z_ (show w.heap.size ≤ gr from zdM);have hcc := cchanged (qjr true hkb (v := ⟨#[]⟩) zdK) 64 #[.pointer (some ⟨gk, 0, none⟩)] W3 A c hs (Kd.qar hC HYW.o) hc hl ht root Ak ck ks (Kd.qar hK HYW.o) hkc zdM (fun r hr => by
   rcases List.mem_append.1 hr with hr | hr
   ·exact hall r (List.mem_cons_of_mem _ hr)
   ·rw [List.mem_singleton.1 hr]; exact hall root List.mem_cons_self) (fun W g gn gu hb h1 h2 h3 => ql3 key ⟨#[]⟩ gk W (qab HXK.o hb) g gn gu (fun e => by have := qbo HXK.o; rcases e with e | e | e <;> omega)) 21 _ pg hT (by rw [qh4]; exact hu) hfine (by have := qho key ⟨#[]⟩ []; simp at this; rw [this]; decide) (.inr ⟨rfl, qho key ⟨#[]⟩⟩) (Nat.le_trans (qho key ⟨#[]⟩ _) EU)
 rw [← hrr] at hcc;have HCC := z_ hcc;have dh := qac HXH.o 0;have dk := qac HXK.o 0;simp only [List.getElem?_toArray, List.getElem?_cons_zero] at dh dk;clear hcc hrr hRR hC hc ht hK hkc h0 hh hl hkl hkb hall hfine EU hT hu hne LE hY2 aV hX1 hX2
 go_enter Tryz.func35, Tryz.ntmps35
 go_upto_region 1 with fail
 rw [← hW1, ← hW2, ← hW3, ← OA, ← JQ, ← hgh];clear hW1 hW2 hW3 hgr hgk OA JQ hgh
 go_wp2_with fail
 refine HCC.o.mono ?_;rintro e w4 ⟨⟨A4, n4, c4, r4, rfl, Ad, hb4⟩⟩;have uE := z_ (qab HXR.o hb4);have cB := z_ (qaa HYW.o hb4);have wU := z_ Ad;have fr := qau uE.o 0;have dr := qac uE.o 0;simp only [List.getElem?_toArray, List.getElem?_cons_zero] at dr;clear Ad hb4 dh dk
 go_wp2_with fail
 refine bodyPost_ret (qbR rfl _ _ gr 29 #[.slice A4 n4 c4] (0, 0) _ rfl (qaX (cs := #[.slice none 0 0]) uE.o 0 _ rfl) Tryz.underlying29 rfl zdG) rfl ?_;exact ⟨⟨A4, n4, c4, r4, rfl, fun h => ⟨(wU.o h).1, Kd.qfY (Kd.qcJ (wU.o h).2 HYW.o.size) uE.o qgx 0 _⟩, cB.o.setCell (p := ⟨gr, 0, none⟩) HGR.o _⟩⟩
theorem cdrop (key : ByteArray) (w : World) (A : Option Addr) (c : Nat) (hs : List S80) (hC : Kd.C k80 w A hs.length hs) (hc : hs.length ≤ c) (ht : TinyN hs) (root : Int) (Ak : Option Addr) (ck : Nat) (ks : List Int) (hK : Kd.C (Kd.int .i64) w Ak ks.length ks) (hkc : ks.length ≤ ck) :
  Calls Tryz.prog 16 #[.agg #[.slice A hs.length c], .int .i64 root, .slice Ak ks.length ck, .string key] w fun e w' => ∃ v, e = .returned (.tuple #[.agg #[v], .int .i64 (dropR hs root ks key).2.1, .int .i64 (dropR hs root ks key).2.2]) ∧ Kd.S k80 80 w' w.heap.size (fun _ => True) v (dropR hs root ks key).1 ∧ Below w.heap.size w w' := by
 have huh := Tryz.underlying29;obtain ⟨RR, hRR⟩ : ∃ RR, RR = dropR hs root ks key := ⟨_, rfl⟩
 rw [← hRR];obtain ⟨gh, hgh⟩ : ∃ gh, gh = w.heap.size := ⟨_, rfl⟩
 obtain ⟨W1, hW1⟩ : ∃ W1, W1 = w.alloc (Obj.cells #[.slice A hs.length c] 29 (0, 0)) := ⟨_, rfl⟩
 obtain ⟨gk, hgk⟩ : ∃ gk, gk = W1.heap.size := ⟨_, rfl⟩
 have JQ : gk = w.heap.size + 1 := by rw [hgk, hW1]; exact Array.size_push _
 obtain ⟨W2, hW2⟩ : ∃ W2, W2 = W1.alloc (Obj.cells #[.string key] 9 (0, 0)) := ⟨_, rfl⟩
 obtain ⟨gr, hgr⟩ : ∃ gr, gr = W2.heap.size := ⟨_, rfl⟩
 have OA : gr = w.heap.size + 1 + 1 := zby
 obtain ⟨W3, hW3⟩ : ∃ W3, W3 = W2.alloc (Obj.cells #[.slice none 0 0] 29 (0, 0)) := ⟨_, rfl⟩
 have LE : Below w.heap.size w W1 := zbU;have hY2 : Below W1.heap.size W1 W2 := zbV;have aV : Below W2.heap.size W2 W3 := zcb;have hX1 : W1.heap[gh]? = some (.cells #[.slice A hs.length c] 29 (0, 0)) := zcC;have hX2 : W2.heap[gk]? = some (.cells #[.string key] 9 (0, 0)) := by rw [hW2, hgk]; exact qbz W1 _
 have HXH := z_ (qab (qab hX1 hY2) aV);have HXK := z_ (qab hX2 aV);have HXR := z_ (show W3.heap[gr]? = some (.cells #[.slice none 0 0] 29 (0, 0)) from by rw [hW3, hgr]; exact qbz W2 _);have HYW := z_ (qaa (qaa LE hY2) aV);have HGR := z_ (show w.heap.size ≤ gr from zdM);have HA := z_ (And.intro hC (And.intro hc ht));have HKS := z_ (And.intro hK hkc);have HRR := z_ hRR;obtain ⟨ka, hka⟩ := qkN (qdD ht) root ks key;obtain ⟨code, hcd⟩ : ∃ code, code = codeD hs root ks key := ⟨_, rfl⟩
 have HKA := z_ (show qav.f ka hs root ks key ⟨#[]⟩ = some code from by rw [hcd]; exact hka ka (Nat.le_refl _));have HCD := z_ hcd;have dh := qac HXH.o 0;have dk := qac HXK.o 0;simp only [List.getElem?_toArray, List.getElem?_cons_zero] at dh dk;clear hC hc ht hK hkc LE hY2 aV hX1 hX2 hRR hka hcd
 go_enter Tryz.func16, Tryz.ntmps16
 go_upto_region 1 with fail
 rw [← hW1, ← hW2, ← hW3, ← OA, ← JQ, ← hgh];clear hW1 hW2 hW3 hgr hgk OA JQ hgh
 go_wp2_with fail
 refine (qav.calls ka A c hs root Ak ck ks key ⟨#[]⟩ code W3 (Kd.qar HA.o.1 HYW.o) HA.o.2.1 (Kd.qar HKS.o.1 HYW.o) HKS.o.2 HKA.o).mono ?_;rintro e w3 ⟨rfl, hb3⟩;have MM := z_ (qab HXH.o hb3);have Fh := z_ (qab HXK.o hb3);have PF := z_ (qab HXR.o hb3);have HB3 := z_ (qaa HYW.o hb3);clear hb3 HXH HXK HXR HYW HKA dh dk
 by_cases h0 : code = 0
 case neg =>
  as_aux_lemma =>
   have HRF := z_ (show RR = ([], 0, code) from by
    rw [HRR.o];unfold dropR;rw [← HCD.o, if_neg h0])
   have c0 : (code != 0) = true := bne_iff_ne.mpr h0;have fr := qau PF.o 0;have dr := qac PF.o 0;simp only [List.getElem?_toArray, List.getElem?_cons_zero] at dr;clear h0
   go_wp2_with fail
   refine bodyPost_ret (qbR rfl _ _ gr 29 #[.slice none 0 0] (0, 0) _ rfl (qaX (cs := #[.slice none 0 0]) PF.o 0 _ rfl) Tryz.underlying29 rfl zdG) rfl ?_;rw [HRF.o];exact ⟨_, rfl, Kd.qk9 _ _ _ _ _, HB3.o.setCell (p := ⟨gr, 0, none⟩) HGR.o _⟩
 subst h0;have KJ : codeD hs root ks key = 0 := HCD.o.symm;have HDT := z_ (qhn KJ);have kB := z_ KJ;have hne : ((0 : Int) != 0) = false := rfl;obtain ⟨ps, hps⟩ : ∃ ps, ps = (walkR hs root).1 := ⟨_, rfl⟩
 have HWK := z_ (show qdw.f hs root = some ps from by
  rw [hps];exact if_pos ⟨qdD HA.o.2.2, HDT.o.2.2.2.1 root List.mem_cons_self⟩)
 have HPS := z_ (And.intro hps (show Fine ps from by rw [hps]; exact HDT.o.2.2.2.2.1));have dh := qac MM.o 0;simp only [List.getElem?_toArray, List.getElem?_cons_zero] at dh;clear KJ hps HCD
 go_wp2_with fail
 refine (qdw.calls A c hs root ps w3 (Kd.qar HA.o.1 HB3.o) HA.o.2.1 HWK.o).mono ?_;rintro e w4 ⟨v4, rfl, GH, hb4⟩;obtain ⟨A4, c4, rfl, hl4, hc4⟩ := Kd.qa4 GH;have ud := z_ (And.intro hl4 hc4);have OT := z_ (qab MM.o hb4);have Cb := z_ (qab Fh.o hb4);have uE := z_ (qab PF.o hb4);have cB := z_ (qaa HB3.o hb4);obtain ⟨hq, hhq⟩ : ∃ hq, hq = hasAt ps key := ⟨_, rfl⟩
 have hcf := qf6 (fun p => cmpS p.f0 key == 0) 33 #[.pointer (some ⟨gk, 0, none⟩)] (qfA zdO zdO zdO) A4 c4 ps w4 ud.o.2 (fun x W _ hW => ql6 x key gk W (qab Cb.o hW));rw [any_has HPS.o.2.2, ← hhq] at hcf;have HCF := z_ hcf;have HHQ := z_ hhq;clear GH hb4 hl4 hc4 MM Fh PF HB3 HWK dh hhq hcf
 go_wp2_with fail
 refine HCF.o.mono ?_;rintro e w6 ⟨rfl, hb6⟩;have cT := z_ (qab OT.o hb6);have Jl := z_ (qab Cb.o hb6);have iK := z_ (qab uE.o hb6);have MA := z_ (qaa cB.o hb6);have dh := qac cT.o 0;have dk := qac Jl.o 0;simp only [List.getElem?_toArray, List.getElem?_cons_zero] at dh dk;clear hb6 OT uE Cb cB ud HCF
 cases hqq : hq with
 | false =>
  as_aux_lemma =>
   have HRF := z_ (show RR = (hs, root, 5) from by
    rw [HRR.o];unfold dropR;rw [if_pos kB.o, if_neg (by rw [← HPS.o.1, ← HHQ.o, hqq]; decide)])
   clear hqq
   go_wp2_with fail
   refine (qlR w6 A c hs (Kd.qar HA.o.1 MA.o) HA.o.2.1 HDT.o.1 HA.o.2.2).mono ?_;rintro e w7 ⟨v7, rfl, hS, IB⟩;have NA := z_ (qab iK.o IB);have CQ := z_ (qaa MA.o IB);obtain ⟨A7, c7, rfl⟩ := Kd.qeD hS;have Ke := z_ (Kd.qcJ hS MA.o.size);have fr := qau NA.o 0;have dr := qac NA.o 0;simp only [List.getElem?_toArray, List.getElem?_cons_zero] at dr;clear hS IB dh dk
   go_wp2_with fail
   refine bodyPost_ret (qbR rfl _ _ gr 29 #[.slice A7 hs.length c7] (0, 0) _ rfl (qaX (cs := #[.slice none 0 0]) NA.o 0 _ rfl) Tryz.underlying29 rfl zdG) rfl ?_;rw [HRF.o];exact ⟨_, rfl, Kd.qfY Ke.o NA.o qgx 0 _, CQ.o.setCell (p := ⟨gr, 0, none⟩) HGR.o _⟩
 | true =>
  have hsc := ql7 key w6 A c hs (Kd.qar HA.o.1 MA.o) HA.o.2.1 HA.o.2.2 root Ak ck ks (Kd.qar HKS.o.1 MA.o) HKS.o.2 kB.o zcF;have HRF := z_ (show RR = if (qbr hs root (qbx hs (root :: ks)) (dopB true key ⟨#[]⟩) key [⟨key, ⟨#[]⟩⟩]).2.2 = true then ((qbr hs root (qbx hs (root :: ks)) (dopB true key ⟨#[]⟩) key [⟨key, ⟨#[]⟩⟩]).1, (qbr hs root (qbx hs (root :: ks)) (dopB true key ⟨#[]⟩) key [⟨key, ⟨#[]⟩⟩]).2.1, 0) else (hs, root, 7) from by
   rw [HRR.o];unfold dropR;rw [if_pos kB.o, if_pos zcF])
  obtain ⟨CR, hCR⟩ : ∃ CR, CR = qbr hs root (qbx hs (root :: ks)) (dopB true key ⟨#[]⟩) key [⟨key, ⟨#[]⟩⟩] := ⟨_, rfl⟩
  rw [← hCR] at hsc HRF;obtain ⟨N1, r1, k1⟩ := CR;simp only at hsc HRF;have HSC := z_ hsc;clear hsc hCR hqq
  go_wp2_with fail
  refine HSC.o.mono ?_;rintro e w7 ⟨⟨A7, n7, c7, r7, rfl, xd, IB⟩⟩;have Rb := z_ (qab cT.o IB);have NA := z_ (qab iK.o IB);have CQ := z_ (qaa MA.o IB);obtain ⟨g8, bd⟩ : ∃ g8, g8 = w7.heap.size := ⟨_, rfl⟩
  obtain ⟨W8, hU⟩ : ∃ W8, W8 = w7.alloc (Obj.cells #[.slice A7 n7 c7] 29 (0, 0)) := ⟨_, rfl⟩
  have iN : Below w7.heap.size w7 W8 := zbY;have Bd := z_ (show W8.heap[g8]? = some (.cells #[.slice A7 n7 c7] 29 (0, 0)) from by rw [hU, bd]; exact qbz w7 _);have sZ := z_ (qab Rb.o iN);have WE := z_ (qab NA.o iN);have rL := z_ (qaa CQ.o iN);have rj := z_ (show k1 = true → r7 = r1 ∧ Kd.S k80 80 W8 w.heap.size (fun _ => True) (.slice A7 n7 c7) N1 from fun h => ⟨(xd h).1, Kd.qaO (Kd.qcJ (xd h).2 MA.o.size) iN⟩);have d8 := qac Bd.o 0;have Qd := qac sZ.o 0;have fr := qau WE.o 0;have dr := qac WE.o 0;simp only [List.getElem?_toArray, List.getElem?_cons_zero] at d8 Qd dr;clear xd IB iN dh dk HSC
  go_upto_region 7 with fail
  rw [← hU, ← bd];clear hU bd
  cases hkk : k1 with
  | false =>
   as_aux_lemma =>
    have HRG := z_ (show RR = (hs, root, 7) from by rw [HRF.o, hkk, if_neg zdK]);clear hkk fr dr
    go_wp2_with fail
    refine (qlR W8 A c hs (Kd.qar HA.o.1 rL.o) HA.o.2.1 HDT.o.1 HA.o.2.2).mono ?_;rintro e w9 ⟨v9, rfl, hS, NG⟩;have XI := z_ (qab WE.o NG);have KV := z_ (qaa rL.o NG);obtain ⟨A9, c9, rfl⟩ := Kd.qeD hS;have pU := z_ (Kd.qcJ hS rL.o.size);have fr := qau XI.o 0;have dr := qac XI.o 0;simp only [List.getElem?_toArray, List.getElem?_cons_zero] at dr;clear hS NG Qd
    go_wp2_with fail
    refine bodyPost_ret (qbR rfl _ _ gr 29 #[.slice A9 hs.length c9] (0, 0) _ rfl (qaX (cs := #[.slice none 0 0]) XI.o 0 _ rfl) Tryz.underlying29 rfl zdG) rfl ?_;rw [HRG.o];exact ⟨_, rfl, Kd.qfY pU.o XI.o qgx 0 _, KV.o.setCell (p := ⟨gr, 0, none⟩) HGR.o _⟩
  | true =>
   as_aux_lemma =>
    have HRG := z_ (show RR = (N1, r1, 0) from by rw [HRF.o, hkk, if_pos rfl]);have pU := z_ (rj.o hkk);obtain ⟨e7, _⟩ := pU.o;subst e7;clear hkk rj
    go_wp2_with fail
    refine bodyPost_ret (qbR rfl _ _ gr 29 #[.slice A7 n7 c7] (0, 0) _ rfl (qaX (cs := #[.slice none 0 0]) WE.o 0 _ rfl) Tryz.underlying29 rfl zdG) rfl ?_;rw [HRG.o];exact ⟨_, rfl, Kd.qfY pU.o.2 WE.o qgx 0 _, rL.o.setCell (p := ⟨gr, 0, none⟩) HGR.o _⟩
def qa6.l0 : Nat → List Int → Int → Int → Option (Int × List Int)
 | 0, _, _, _ => none
 | k + 1, x0, x1, x5 => if x5 < (x0.length : Int) then (if 0 ≤ x5 then (qa6.l0 k (x0.set (x5 : Int).toNat x1) (wrap64 (x1 + 1)) (wrap64 (x5 + 1))) else (none)) else (some (x1, x0))
def qa6.f (k : Nat) (l0 : List Int) (a1 : Int) : Option (Int × List Int) := qa6.l0 k l0 a1 0
theorem qa6.qbl : ∀ k, (∀ y0 y1 y2, LeO (qa6.l0 k y0 y1 y2) (qa6.l0 (k + 1) y0 y1 y2))
 | 0 => fun _ _ _ r h => by simp [qa6.l0] at h
 | k + 1 => by
  have Q9 := qa6.qbl k
  ·intro y0 y1 y2;unfold qa6.l0;exact zleo_
theorem qa6.calls (k : Nat) (E4 : Nat → Prop) (Z2 : Value) (l0 : List Int) (a1 : Int) (r1 : Int) (r2 : List Int) (w0 w : World) (hB : Below w0.heap.size w0 w) (ho0 : Kd.R (Kd.int .i64) 3 w w0.heap.size E4 Z2 l0) (h : qa6.f k l0 a1 = some (r1, r2)) :
  Calls Tryz.prog 13 #[Z2, .int .i64 a1] w fun e w' => e = .returned (.int .i64 r1) ∧ Kd.R (Kd.int .i64) 3 w' w0.heap.size (fun k_ => (E4 k_ ∨ w.heap.size ≤ k_)) Z2 r2 ∧ Below w0.heap.size w0 w' ∧ Kept w w' (fun k_ => E4 k_) := by
 have T7 := z_ (show Kd.R (Kd.int .i64) 3 w w0.heap.size (fun k_ => (E4 k_ ∨ w.heap.size ≤ k_)) Z2 l0 from Kd.qaU ho0 (fun k_ hk => (.inl hk)));have HK := z_ (Kept.refl w (fun k_ => E4 k_));have HW0 := z_ hB.size;have HB := z_ hB;clear hB;have H : (qa6.l0 k l0 a1 0) = some (r1, r2) := h;clear h;have H' := z_ H;clear H
 go_enter Tryz.func13, Tryz.ntmps13
 go_wp2
 go_loopg [1, 5] k (fun kq v1 v5 w' => ∃ (O2 : List Int) (L0 : Int) (o0 : Int), v1 = .int .i64 L0 ∧ v5 = .int .i64 o0 ∧ Aside0 (qa6.l0 kq O2 L0 o0 = some (r1, r2)) ∧ Aside0 (kq ≤ k) ∧ Aside0 (Kd.R (Kd.int .i64) 3 w' w0.heap.size (fun k_ => (E4 k_ ∨ w.heap.size ≤ k_)) Z2 O2) ∧ Aside0 (Kept w w' (fun k_ => E4 k_)) ∧ Aside0 (Below w0.heap.size w0 w'))
 case atStart => exact ⟨(l0), (a1), (0), zcc, zcc, H', ⟨Nat.le_refl _⟩, ⟨zaK⟩, ⟨zas⟩, ⟨zar⟩⟩
 case round =>
  clear H';obtain ⟨O2, L0, o0, rfl, rfl, HA, I5, I4, HK, HB⟩ := hrel
  cases gk with
  | zero => exact absurd HA.o (by simp [qa6.l0])
  | succ k1 =>
   have H := HA.o;clear HA;simp only [qa6.l0] at H
   by_cases c3 : o0 < (O2.length : Int)
   ·rw [if_pos c3] at H;have Y1 : decide (o0 < (O2.length : Int)) = true := decide_eq_true c3;clear c3
    by_cases c4 : 0 ≤ o0
    ·rw [if_pos c4] at H;have G4 : decide (0 ≤ o0) = true := decide_eq_true c4;clear c4;obtain ⟨za, VJ⟩ : ∃ y_ : List Int, y_ = (O2.set (o0 : Int).toNat L0) := ⟨_, rfl⟩
     replace H : (qa6.l0 k1 za (wrap64 (L0 + 1)) (wrap64 (o0 + 1))) = some (r1, r2) := by first | (rw [VJ]; with_reducible exact H) | (have J1 := (Option.bind_some _ _).symm.trans H; rw [VJ]; with_reducible exact J1) | (have J1 := (Option.bind_some _ _).symm.trans H; with_reducible exact J1) | with_reducible exact H | (rw [VJ]; exact H) | exact H
     have fh := z_ VJ;clear VJ;have H' := z_ H;clear H;obtain ⟨UX, IT, OS⟩ := Kd.qbO I4.o;subst OS;have p5 : 0 ≤ (o0 : Int) := zod_;have q5 : (o0 : Int) < ((O2.length : Int) : Int) := zod_;obtain ⟨We, co5, eo5, gb5, gl5, cl5, GZ⟩ := Kd.qcS I4.o zdM
     (first | cases eo5 | (injection eo5 with O4 en_ ec_; (first | subst O4 | (injection O4 with O4; subst O4)); subst ec_; clear en_))
     have GB5 := z_ gb5;have GG5 := z_ GZ;clear gb5 gl5 GZ;have HMgo5 := z_ (show (E4 We ∨ w.heap.size ≤ We) from (I4.o.1 _ rfl));obtain ⟨hx5_0, hf5_0⟩ := Kd.qc9 0 I4.o (o0 : Int) p5 q5;replace p5 := eq_true p5;replace q5 := eq_true q5;have Xm := Kd.qj9 I4.o (o0 : Int) L0
     go_wp2_with (first | ((with_reducible refine qdB (t := 3) (p := 15) rfl ?_); refine qda (t := 3) (p := 15) (v := ?vo_w8) (w1 := (wr.setCell ⟨We, (o0 : Int).toNat, none⟩ (.int .i64 L0))) ?hg ?ho ?hn ?hr ?_; (case ho => rfl); (case hg => rfl); (case hn => rfl); (case hr => first | (go_simp; done) | (go_simp; rfl)); intro w8 hw; have hg : wr.grownBy w8 (some We) := (by rw [hw]; exact Xm.2); have xG : Kd.R (Kd.int .i64) 3 w8 w0.heap.size (fun k_ => (E4 k_ ∨ w.heap.size ≤ k_)) (.slice (some ⟨We, 0, none⟩) O2.length IT) za := (by rw [hw, fh.o]; exact Xm.1); clear Xm; replace HK := z_ (Kept.qeh (S := (fun k_ => E4 k_)) hg zas (fun k_ e_ => (I4.o.1 k_ e_))); replace I4 := z_ (xG); replace HB := z_ ((by rw [hw]; exact qcd (HB.o) GB5.o : Below w0.heap.size w0 w8)); clear hg hw xG))
     go_roundg k1
     case measure => have := I5.o; omega
     case rel => exact ⟨(za), (wrap64 (L0 + 1)), (wrap64 (o0 + 1)), zcc, zcc, H', ⟨zcY⟩, ⟨zaG⟩, ⟨zas⟩, ⟨zar⟩⟩
    ·rw [if_neg c4] at H;exact absurd H zdN
   ·rw [if_neg c3] at H;have Y1 : decide (o0 < (O2.length : Int)) = false := decide_eq_false c3;clear c3;simp only [Option.some.injEq, Prod.mk.injEq] at H;obtain ⟨rfl, rfl⟩ := H;obtain ⟨bY, UK, uR⟩ := Kd.qbO I4.o;subst uR
    go_wp2
    go_ret
    exact ⟨zaM, zaG, zar, zas⟩
noncomputable def qds : List Int → Int → List Int
 | [], _ => []
 | _ :: xs, m => (m) :: qds xs (m + 1)
theorem qhH (rest : List Int) : ∀ (pre : List Int) (m : Int), 0 ≤ m → m + 1 * (rest.length : Int) ≤ 4611686018427387904 → (pre ++ rest).length ≤ 9223372036854775807 →
  Ev (fun k => qa6.l0 k (pre ++ rest) m ((pre.length : Nat) : Int)) (m + 1 * (rest.length : Int), pre ++ qds rest m) := by
 induction rest with
 | nil =>
  intro pre m h0 h1 hl;refine Ev.succ ?_;simp only [qa6.l0];exact Ev.neg zdN (Ev.is (by simp [qds]))
 | cons x rest ih =>
  intro pre m h0 h1 hl;have hlt : ((pre.length : Nat) : Int) < ((pre ++ x :: rest).length : Int) := zdF;have hwp : ∀ v : Int, wrap64 (((pre.length : Nat) : Int) + 1) = (((pre ++ [v]).length : Nat) : Int) := fun v => zbn
  have hset : ∀ v u : Int, (pre ++ u :: rest).set ((pre.length : Nat) : Int).toNat v = pre ++ v :: rest := fun v u => zbA
  have hrd : ∀ u : Int, rd (pre ++ u :: rest) ((pre.length : Nat) : Int) = u := fun u => by simp [rd, List.getD_eq_getElem?_getD]
  simp only [List.length_cons] at h1;have w1 : wrap64 (m + 1) = m + 1 := (qc0 zdM zdM).trans zdM;have hi := ih (pre ++ [(m)]) (m + 1) zdM zdM zdv;refine Ev.succ ?_;simp only [qa6.l0, w1];refine Ev.pos hlt ?_;refine Ev.pos (show (0 : Int) ≤ ((pre.length : Nat) : Int) from zdM) ?_;simp only [hset, hrd];rw [hwp ((m))];have e3 : pre ++ ((m) : Int) :: rest = (pre ++ [(m)]) ++ rest := zdN;have e4 : (m + 1 + 1 * (rest.length : Int), (pre ++ [(m)]) ++ qds rest (m + 1)) = (m + 1 * (((x :: rest).length : Nat) : Int), pre ++ qds (x :: rest) m) := by
   refine Prod.ext ?_ ?_
   ·simp only [List.length_cons]; omega
   ·simp [qds]
  rw [← e4, e3];exact hi
theorem qjw (l : List Int) (m : Int) (h0 : 0 ≤ m) (h1 : m + 1 * (l.length : Int) ≤ 4611686018427387904) (hl : l.length ≤ 9223372036854775807) : Ev (fun k => qa6.f k l m) (m + 1 * (l.length : Int), qds l m) := by
 unfold qa6.f;have h := qhH l [] m h0 h1 zdv
 simpa using h
def qaW.l0 : Nat → List (S61) → Int → Int → Option (Int × (List (S61)))
 | 0, _, _, _ => none
 | k + 1, x0, x1, x5 => if x5 < (x0.length : Int) then ((qat.f k x1).bind fun GK => (if 0 ≤ x5 then ((some (x0.set (x5 : Int).toNat (⟨GK, (qan x0 x5).f1⟩ : S61) : List (S61))).bind fun lE => ((qat.f k (wrap64 (x1 + 1))).bind fun TG => (qaW.l0 k (lE.set (x5 : Int).toNat (⟨(qan lE x5).f0, TG⟩ : S61)) (wrap64 ((wrap64 (x1 + 1)) + 1)) (wrap64 (x5 + 1))))) else (none))) else (some (x1, x0))
def qaW.f (k : Nat) (l0 : List (S61)) (a1 : Int) : Option (Int × (List (S61))) := qaW.l0 k l0 a1 0
theorem qaW.qbl : ∀ k, (∀ y0 y1 y2, LeO (qaW.l0 k y0 y1 y2) (qaW.l0 (k + 1) y0 y1 y2))
 | 0 => fun _ _ _ r h => by simp [qaW.l0] at h
 | k + 1 => by
  have Q9 := qaW.qbl k
  ·intro y0 y1 y2;unfold qaW.l0;have kC := @qat.mono; exact zleo_
theorem qaW.calls (k : Nat) (E4 : Nat → Prop) (Z2 : Value) (l0 : List (S61)) (a1 : Int) (r1 : Int) (r2 : List (S61)) (w0 w : World) (hB : Below w0.heap.size w0 w) (ho0 : Kd.R k61 61 w w0.heap.size E4 Z2 l0) (h : qaW.f k l0 a1 = some (r1, r2)) :
  Calls Tryz.prog 56 #[Z2, .int .i64 a1] w fun e w' => e = .returned (.int .i64 r1) ∧ Kd.R k61 61 w' w0.heap.size (fun k_ => (E4 k_ ∨ w.heap.size ≤ k_)) Z2 r2 ∧ Below w0.heap.size w0 w' ∧ Kept w w' (fun k_ => E4 k_) := by
 have T7 := z_ (show Kd.R k61 61 w w0.heap.size (fun k_ => (E4 k_ ∨ w.heap.size ≤ k_)) Z2 l0 from Kd.qaU ho0 (fun k_ hk => (.inl hk)));have HK := z_ (Kept.refl w (fun k_ => E4 k_));have HW0 := z_ hB.size;have HB := z_ hB;clear hB;have H : (qaW.l0 k l0 a1 0) = some (r1, r2) := h;clear h;have H' := z_ H;clear H
 go_enter Tryz.func56, Tryz.ntmps56
 go_wp2
 go_loopg [1, 5] k (fun kq v1 v5 w' => ∃ (O2 : List (S61)) (L0 : Int) (o0 : Int), v1 = .int .i64 L0 ∧ v5 = .int .i64 o0 ∧ Aside0 (qaW.l0 kq O2 L0 o0 = some (r1, r2)) ∧ Aside0 (kq ≤ k) ∧ Aside0 (Kd.R k61 61 w' w0.heap.size (fun k_ => (E4 k_ ∨ w.heap.size ≤ k_)) Z2 O2) ∧ Aside0 (Kept w w' (fun k_ => E4 k_)) ∧ Aside0 (Below w0.heap.size w0 w'))
 case atStart => exact ⟨(l0), (a1), (0), zcc, zcc, H', ⟨Nat.le_refl _⟩, ⟨zaK⟩, ⟨zas⟩, ⟨zar⟩⟩
 case round =>
  clear H';obtain ⟨O2, L0, o0, rfl, rfl, HA, I5, I4, HK, HB⟩ := hrel
  cases gk with
  | zero => exact absurd HA.o (by simp [qaW.l0])
  | succ k1 =>
   have H := HA.o;clear HA;simp only [qaW.l0] at H
   by_cases c3 : o0 < (O2.length : Int)
   ·rw [if_pos c3] at H;have Y1 : decide (o0 < (O2.length : Int)) = true := decide_eq_true c3;clear c3;replace H := Option.bind_eq_some_iff.mp H;obtain ⟨GK, CS, H⟩ := H;try dsimp only at H
    have A4 := z_ CS;clear CS
    by_cases c5 : 0 ≤ o0
    ·rw [if_pos c5] at H;have O8 : decide (0 ≤ o0) = true := decide_eq_true c5;clear c5;obtain ⟨lE, RJ⟩ : ∃ y_ : List (S61), y_ = (O2.set (o0 : Int).toNat (⟨GK, (qan O2 o0).f1⟩ : S61)) := ⟨_, rfl⟩
     replace H : ((qat.f k1 (wrap64 (L0 + 1))).bind fun TG => (qaW.l0 k1 (lE.set (o0 : Int).toNat (⟨(qan lE o0).f0, TG⟩ : S61)) (wrap64 ((wrap64 (L0 + 1)) + 1)) (wrap64 (o0 + 1)))) = some (r1, r2) := by first | (rw [RJ]; with_reducible exact H) | (have J1 := (Option.bind_some _ _).symm.trans H; rw [RJ]; with_reducible exact J1) | (have J1 := (Option.bind_some _ _).symm.trans H; with_reducible exact J1) | with_reducible exact H | (rw [RJ]; exact H) | exact H
     have Pf := z_ RJ;clear RJ;replace H := Option.bind_eq_some_iff.mp H;obtain ⟨TG, RT, H⟩ := H;try dsimp only at H
     have A7 := z_ RT;clear RT;obtain ⟨ld, UJ⟩ : ∃ y_ : List (S61), y_ = (lE.set (o0 : Int).toNat (⟨(qan lE o0).f0, TG⟩ : S61)) := ⟨_, rfl⟩
     replace H : (qaW.l0 k1 ld (wrap64 ((wrap64 (L0 + 1)) + 1)) (wrap64 (o0 + 1))) = some (r1, r2) := by first | (rw [UJ]; with_reducible exact H) | (have J1 := (Option.bind_some _ _).symm.trans H; rw [UJ]; with_reducible exact J1) | (have J1 := (Option.bind_some _ _).symm.trans H; with_reducible exact J1) | with_reducible exact H | (rw [UJ]; exact H) | exact H
     have Uf := z_ UJ;clear UJ;have H' := z_ H;clear H;obtain ⟨bY, UK, uR⟩ := Kd.qbO I4.o;subst uR
     go_wp2_with (first | ((with_reducible refine qax (f := 92) rfl ?_); refine qbq (some 15) rfl rfl Tryz.func92 zdG rfl #[.int .i64 L0] rfl zaq ?_; (with_reducible refine (qat.calls k1 L0 GK _ A4.o).mono ?_); rintro e U8 ⟨rfl, hb⟩; refine ⟨_, rfl, ?_⟩; replace I4 := z_ (Kd.qa7 (zad I4.o) hb); replace HK := z_ (Kept.below (S := (fun k_ => E4 k_)) zas hb); replace HB := z_ (qaa zar hb); (try clear hb); have p6 : 0 ≤ (o0 : Int) := zod_; have q6 : (o0 : Int) < ((O2.length : Int) : Int) := zod_; obtain ⟨qF, IT, OS, Ae, fp, cl6, qU⟩ := Kd.qcS I4.o zdM; (first | cases OS | (injection OS with O4 en_ ec_; (first | subst O4 | (injection O4 with O4; subst O4)); subst ec_; clear en_)); have GB6 := z_ Ae; have GG6 := z_ qU; clear Ae fp qU; have Me := z_ (show (E4 qF ∨ w.heap.size ≤ qF) from (I4.o.1 _ rfl)); obtain ⟨ce6, No, hM6, fZ, cd⟩ := Kd.qfB I4.o z61 (o0 : Int) p6 q6; obtain rfl := qes hM6; have ai : U8.cell? ⟨qF, (o0 : Int).toNat * 2, none⟩ = some (.string ((qan O2 o0).f0)) := fZ 0 _ rfl; have hx6_1 : U8.cell? ⟨qF, (o0 : Int).toNat * 2 + 1, none⟩ = some (.string ((qan O2 o0).f1)) := fZ 1 _ rfl; have me : U8.frozen? ⟨qF, (o0 : Int).toNat * 2, none⟩ = false := cd 0; have hf6_1 : U8.frozen? ⟨qF, (o0 : Int).toNat * 2 + 1, none⟩ = false := cd 1; clear No fZ cd hM6; replace p6 := eq_true p6; replace q6 := eq_true q6; have kT := z_ (show Kd.R k61 61 U8 w0.heap.size (fun k_ => (E4 k_ ∨ w.heap.size ≤ k_)) (.slice (some ⟨qF, 0, none⟩) O2.length UK) O2 from (zad I4.o)); obtain ⟨ce11, KY, Ge, uS, PX⟩ := Kd.qfB kT.o z61 (o0 : Int) (zod_) (by have h_ : (o0 : Int) < ((O2.length : Int) : Int) := zod_; first | exact h_ | (have e_ := (Kd.qbb I4.o).1; omega) | simpa using h_); obtain rfl := qes Ge; have Ba := Kd.R_seg kT.o (o0 : Int) (zod_) (by have h_ : (o0 : Int) < ((O2.length : Int) : Int) := zod_; first | exact h_ | (have e_ := (Kd.qbb I4.o).1; omega) | simpa using h_) (seg := [.string GK]) (j := 0) KY uS (show 1 ≤ 2 from zdK) (x' := (⟨GK, (qan O2 o0).f1⟩ : S61)) (qf5 _ _ _ (⟨GK, (qan O2 o0).f1⟩ : S61) ) (fun _ hk => hk); have Zc := uS 0 _ rfl; (try simp only [show (k61).sz = 2 from rfl, Nat.mul_one, Nat.add_zero] at Zc); have Oa := PX 0; (try simp only [show (k61).sz = 2 from rfl, Nat.mul_one, Nat.add_zero] at Oa); clear KY uS PX Ge) | ((with_reducible refine qdB (t := 9) (p := 17) rfl ?_); refine qda (t := 9) (p := 17) (v := ?vo_w12) (w1 := (U8.setCell ⟨qF, (o0 : Int).toNat * 2, none⟩ (.string GK))) ?hg ?ho ?hn ?hr ?_; (case ho => rfl); (case hg => rfl); (case hn => rfl); (case hr => first | (go_simp; done) | (go_simp; rfl)); intro JB hw; have hg : U8.grownBy JB (some qF) := (by rw [hw]; exact Ba.2); have xG : Kd.R k61 61 JB w0.heap.size (fun k_ => (E4 k_ ∨ w.heap.size ≤ k_)) (.slice (some ⟨qF, 0, none⟩) O2.length UK) lE := (by rw [hw, Pf.o]; exact Ba.1); clear Ba; replace HK := z_ (Kept.qeh (S := (fun k_ => E4 k_)) hg zas (fun k_ e_ => (I4.o.1 k_ e_))); replace I4 := z_ (xG); replace HB := z_ ((zcl : Below w0.heap.size w0 JB)); clear hg hw xG) | ((with_reducible refine qax (f := 92) rfl ?_); refine qbq (some 23) rfl rfl Tryz.func92 zdG rfl #[.int .i64 (wrap64 (L0 + 1))] rfl zaq ?_; (with_reducible refine (qat.calls k1 (wrap64 (L0 + 1)) TG _ A7.o).mono ?_); rintro e NE ⟨rfl, hb⟩; refine ⟨_, rfl, ?_⟩; replace I4 := z_ (Kd.qa7 (zad I4.o) hb); replace HK := z_ (Kept.below (S := (fun k_ => E4 k_)) zas hb); replace HB := z_ (qaa zar hb); (try clear hb); have p8 : 0 ≤ (o0 : Int) := zod_; have q8 : (o0 : Int) < ((O2.length : Int) : Int) := zod_; obtain ⟨ce8, Hl, hM8, pa, Tb⟩ := Kd.qfB I4.o z61 (o0 : Int) p8 q8; obtain rfl := qes hM8; have hx8_0 : NE.cell? ⟨qF, (o0 : Int).toNat * 2, none⟩ = some (.string ((qan lE o0).f0)) := pa 0 _ rfl; have hx8_1 : NE.cell? ⟨qF, (o0 : Int).toNat * 2 + 1, none⟩ = some (.string ((qan lE o0).f1)) := pa 1 _ rfl; have hf8_0 : NE.frozen? ⟨qF, (o0 : Int).toNat * 2, none⟩ = false := Tb 0; have hf8_1 : NE.frozen? ⟨qF, (o0 : Int).toNat * 2 + 1, none⟩ = false := Tb 1; clear Hl pa Tb hM8; replace p8 := eq_true p8; replace q8 := eq_true q8; have vR := z_ (show Kd.R k61 61 NE w0.heap.size (fun k_ => (E4 k_ ∨ w.heap.size ≤ k_)) (.slice (some ⟨qF, 0, none⟩) O2.length UK) lE from (zad I4.o)); obtain ⟨ce14, DY, Lh, mT, qY⟩ := Kd.qfB vR.o z61 (o0 : Int) (zod_) (by have h_ : (o0 : Int) < ((O2.length : Int) : Int) := zod_; first | exact h_ | (have e_ := (Kd.qbb I4.o).1; omega) | simpa using h_); obtain rfl := qes Lh; have zb := Kd.R_seg vR.o (o0 : Int) (zod_) (by have h_ : (o0 : Int) < ((O2.length : Int) : Int) := zod_; first | exact h_ | (have e_ := (Kd.qbb I4.o).1; omega) | simpa using h_) (seg := [.string TG]) (j := 1) DY mT (show 2 ≤ 2 from zdK) (x' := (⟨(qan lE o0).f0, TG⟩ : S61)) (qf5 _ _ _ (⟨(qan lE o0).f0, TG⟩ : S61) ) (fun _ hk => hk); have la := mT 1 _ rfl; (try simp only [show (k61).sz = 2 from rfl, Nat.mul_one, Nat.add_zero] at la); have Ea := qY 1; (try simp only [show (k61).sz = 2 from rfl, Nat.mul_one, Nat.add_zero] at Ea); clear DY mT qY Lh) | ((with_reducible refine qdB (t := 9) (p := 25) rfl ?_); refine qda (t := 9) (p := 25) (v := ?vo_w15) (w1 := (NE.setCell ⟨qF, (o0 : Int).toNat * 2 + 1, none⟩ (.string TG))) ?hg ?ho ?hn ?hr ?_; (case ho => rfl); (case hg => rfl); (case hn => rfl); (case hr => first | (go_simp; done) | (go_simp; rfl)); intro bC hw; have hg : NE.grownBy bC (some qF) := (by rw [hw]; exact zb.2); have xG : Kd.R k61 61 bC w0.heap.size (fun k_ => (E4 k_ ∨ w.heap.size ≤ k_)) (.slice (some ⟨qF, 0, none⟩) O2.length UK) ld := (by rw [hw, Uf.o]; exact zb.1); clear zb; replace HK := z_ (Kept.qeh (S := (fun k_ => E4 k_)) hg zas (fun k_ e_ => (I4.o.1 k_ e_))); replace I4 := z_ (xG); replace HB := z_ ((zcl : Below w0.heap.size w0 bC)); clear hg hw xG))
     go_roundg k1
     case measure => have := I5.o; omega
     case rel => exact ⟨(ld), (wrap64 ((wrap64 (L0 + 1)) + 1)), (wrap64 (o0 + 1)), zcc, zcc, H', ⟨zcY⟩, ⟨zaG⟩, ⟨zas⟩, ⟨zar⟩⟩
    ·rw [if_neg c5] at H;exact absurd H zdN
   ·rw [if_neg c3] at H;have Y1 : decide (o0 < (O2.length : Int)) = false := decide_eq_false c3;clear c3;simp only [Option.some.injEq, Prod.mk.injEq] at H;obtain ⟨rfl, rfl⟩ := H;obtain ⟨Ao16, co16, rn⟩ := Kd.qbO I4.o;subst rn
    go_wp2
    go_ret
    exact ⟨zaM, zaG, zar, zas⟩
noncomputable def qcy : List S61 → Int → List S61
 | [], _ => []
 | _ :: xs, m => ⟨mt m, mt (m + 1)⟩ :: qcy xs (m + 2)
theorem qhp (rest : List S61) : ∀ (pre : List S61) (m : Int), 0 ≤ m → m + 2 * (rest.length : Int) ≤ 4611686018427387904 → (pre ++ rest).length ≤ 9223372036854775807 →
  Ev (fun k => qaW.l0 k (pre ++ rest) m ((pre.length : Nat) : Int)) (m + 2 * (rest.length : Int), pre ++ qcy rest m) := by
 induction rest with
 | nil =>
  intro pre m h0 h1 hl;refine Ev.succ ?_;simp only [qaW.l0];exact Ev.neg zdN (Ev.is (by simp [qcy]))
 | cons x rest ih =>
  intro pre m h0 h1 hl;have hlt : ((pre.length : Nat) : Int) < ((pre ++ x :: rest).length : Int) := zdF;have hwp : ∀ v : S61, wrap64 (((pre.length : Nat) : Int) + 1) = (((pre ++ [v]).length : Nat) : Int) := fun v => zbn
  have hset : ∀ v u : S61, (pre ++ u :: rest).set ((pre.length : Nat) : Int).toNat v = pre ++ v :: rest := fun v u => zbA
  have hrd : ∀ u : S61, qan (pre ++ u :: rest) ((pre.length : Nat) : Int) = u := fun u => by simp [qan, List.getD_eq_getElem?_getD]
  simp only [List.length_cons] at h1;have w1 : wrap64 (m + 1) = m + 1 := (qc0 zdM zdM).trans zdM;have w2 : wrap64 ((m + 1) + 1) = m + 2 := (qc0 zdM zdM).trans zdM;have hi := ih (pre ++ [⟨mt m, mt (m + 1)⟩]) (m + 2) zdM zdM zdv;refine Ev.succ ?_;simp only [qaW.l0, w1, w2];refine Ev.pos hlt ?_;refine Ev.bind (qkH zdM) ?_;refine Ev.pos (show (0 : Int) ≤ ((pre.length : Nat) : Int) from zdM) ?_;refine Ev.bindk rfl ?_;refine Ev.bind (qkH zdM) ?_;simp only [hset, hrd];rw [hwp (⟨mt m, mt (m + 1)⟩)];have e3 : pre ++ (⟨mt m, mt (m + 1)⟩ : S61) :: rest = (pre ++ [⟨mt m, mt (m + 1)⟩]) ++ rest := zdN;have e4 : (m + 2 + 2 * (rest.length : Int), (pre ++ [⟨mt m, mt (m + 1)⟩]) ++ qcy rest (m + 2)) = (m + 2 * (((x :: rest).length : Nat) : Int), pre ++ qcy (x :: rest) m) := by
   refine Prod.ext ?_ ?_
   ·simp only [List.length_cons]; omega
   ·simp [qcy]
  rw [← e4, e3];exact hi
theorem qkP (l : List S61) (m : Int) (h0 : 0 ≤ m) (h1 : m + 2 * (l.length : Int) ≤ 4611686018427387904) (hl : l.length ≤ 9223372036854775807) : Ev (fun k => qaW.f k l m) (m + 2 * (l.length : Int), qcy l m) := by
 unfold qaW.f;have h := qhp l [] m h0 h1 zdv
 simpa using h
def qaQ.l0 : Nat → List ByteArray → Int → Int → Option (Int × List ByteArray)
 | 0, _, _, _ => none
 | k + 1, x0, x1, x5 => if x5 < (x0.length : Int) then ((qat.f k x1).bind fun qR => (if 0 ≤ x5 then (qaQ.l0 k (x0.set (x5 : Int).toNat qR) (wrap64 (x1 + 1)) (wrap64 (x5 + 1))) else (none))) else (some (x1, x0))
def qaQ.f (k : Nat) (l0 : List ByteArray) (a1 : Int) : Option (Int × List ByteArray) := qaQ.l0 k l0 a1 0
theorem qaQ.qbl : ∀ k, (∀ y0 y1 y2, LeO (qaQ.l0 k y0 y1 y2) (qaQ.l0 (k + 1) y0 y1 y2))
 | 0 => fun _ _ _ r h => by simp [qaQ.l0] at h
 | k + 1 => by
  have Q9 := qaQ.qbl k
  ·intro y0 y1 y2;unfold qaQ.l0;have kC := @qat.mono; exact zleo_
theorem qaQ.calls (k : Nat) (E4 : Nat → Prop) (Z2 : Value) (l0 : List ByteArray) (a1 : Int) (r1 : Int) (r2 : List ByteArray) (w0 w : World) (hB : Below w0.heap.size w0 w) (ho0 : Kd.R Kd.string 9 w w0.heap.size E4 Z2 l0) (h : qaQ.f k l0 a1 = some (r1, r2)) :
  Calls Tryz.prog 57 #[Z2, .int .i64 a1] w fun e w' => e = .returned (.int .i64 r1) ∧ Kd.R Kd.string 9 w' w0.heap.size (fun k_ => (E4 k_ ∨ w.heap.size ≤ k_)) Z2 r2 ∧ Below w0.heap.size w0 w' ∧ Kept w w' (fun k_ => E4 k_) := by
 have T7 := z_ (show Kd.R Kd.string 9 w w0.heap.size (fun k_ => (E4 k_ ∨ w.heap.size ≤ k_)) Z2 l0 from Kd.qaU ho0 (fun k_ hk => (.inl hk)));have HK := z_ (Kept.refl w (fun k_ => E4 k_));have HW0 := z_ hB.size;have HB := z_ hB;clear hB;have H : (qaQ.l0 k l0 a1 0) = some (r1, r2) := h;clear h;have H' := z_ H;clear H
 go_enter Tryz.func57, Tryz.ntmps57
 go_wp2
 go_loopg [1, 5] k (fun kq v1 v5 w' => ∃ (O2 : List ByteArray) (L0 : Int) (o0 : Int), v1 = .int .i64 L0 ∧ v5 = .int .i64 o0 ∧ Aside0 (qaQ.l0 kq O2 L0 o0 = some (r1, r2)) ∧ Aside0 (kq ≤ k) ∧ Aside0 (Kd.R Kd.string 9 w' w0.heap.size (fun k_ => (E4 k_ ∨ w.heap.size ≤ k_)) Z2 O2) ∧ Aside0 (Kept w w' (fun k_ => E4 k_)) ∧ Aside0 (Below w0.heap.size w0 w'))
 case atStart => exact ⟨(l0), (a1), (0), zcc, zcc, H', ⟨Nat.le_refl _⟩, ⟨zaK⟩, ⟨zas⟩, ⟨zar⟩⟩
 case round =>
  clear H';obtain ⟨O2, L0, o0, rfl, rfl, HA, I5, I4, HK, HB⟩ := hrel
  cases gk with
  | zero => exact absurd HA.o (by simp [qaQ.l0])
  | succ k1 =>
   have H := HA.o;clear HA;simp only [qaQ.l0] at H
   by_cases c3 : o0 < (O2.length : Int)
   ·rw [if_pos c3] at H;have Y1 : decide (o0 < (O2.length : Int)) = true := decide_eq_true c3;clear c3;replace H := Option.bind_eq_some_iff.mp H;obtain ⟨qR, CS, H⟩ := H;try dsimp only at H
    have A4 := z_ CS;clear CS
    by_cases c5 : 0 ≤ o0
    ·rw [if_pos c5] at H;have O8 : decide (0 ≤ o0) = true := decide_eq_true c5;clear c5;obtain ⟨rZ, PJ⟩ : ∃ y_ : List ByteArray, y_ = (O2.set (o0 : Int).toNat qR) := ⟨_, rfl⟩
     replace H : (qaQ.l0 k1 rZ (wrap64 (L0 + 1)) (wrap64 (o0 + 1))) = some (r1, r2) := by first | (rw [PJ]; with_reducible exact H) | (have J1 := (Option.bind_some _ _).symm.trans H; rw [PJ]; with_reducible exact J1) | (have J1 := (Option.bind_some _ _).symm.trans H; with_reducible exact J1) | with_reducible exact H | (rw [PJ]; exact H) | exact H
     have Ag := z_ PJ;clear PJ;have H' := z_ H;clear H;obtain ⟨Ao7, co7, eo7⟩ := Kd.qbO I4.o;subst eo7
     go_wp2_with (first | ((with_reducible refine qax (f := 92) rfl ?_); refine qbq (some 15) rfl rfl Tryz.func92 zdG rfl #[.int .i64 L0] rfl zaq ?_; (with_reducible refine (qat.calls k1 L0 qR _ A4.o).mono ?_); rintro e w8 ⟨rfl, hb⟩; refine ⟨_, rfl, ?_⟩; replace I4 := z_ (Kd.qa7 (zad I4.o) hb); replace HK := z_ (Kept.below (S := (fun k_ => E4 k_)) zas hb); replace HB := z_ (qaa zar hb); (try clear hb); have p6 : 0 ≤ (o0 : Int) := zod_; have q6 : (o0 : Int) < ((O2.length : Int) : Int) := zod_; obtain ⟨qF, IT, OS, Ae, fp, cl6, qU⟩ := Kd.qcS I4.o zdM; (first | cases OS | (injection OS with O4 en_ ec_; (first | subst O4 | (injection O4 with O4; subst O4)); subst ec_; clear en_)); have GB6 := z_ Ae; have GG6 := z_ qU; clear Ae fp qU; have Me := z_ (show (E4 qF ∨ w.heap.size ≤ qF) from (I4.o.1 _ rfl)); obtain ⟨ai, me⟩ := Kd.qc9 (⟨#[]⟩ : ByteArray) I4.o (o0 : Int) p6 q6; replace p6 := eq_true p6; replace q6 := eq_true q6; obtain ⟨hy9_, hz9_⟩ := Kd.qc9 (⟨#[]⟩ : ByteArray) I4.o (o0 : Int) (zod_) (zod_); have Fn := Kd.qj9 I4.o (o0 : Int) qR) | ((with_reducible refine qdB (t := 9) (p := 16) rfl ?_); refine qda (t := 9) (p := 16) (v := ?vo_w10) (w1 := (w8.setCell ⟨qF, (o0 : Int).toNat, none⟩ (.string qR))) ?hg ?ho ?hn ?hr ?_; (case ho => rfl); (case hg => rfl); (case hn => rfl); (case hr => first | (go_simp; done) | (go_simp; rfl)); intro U8 hw; have hg : w8.grownBy U8 (some qF) := (by rw [hw]; exact Fn.2); have xG : Kd.R Kd.string 9 U8 w0.heap.size (fun k_ => (E4 k_ ∨ w.heap.size ≤ k_)) (.slice (some ⟨qF, 0, none⟩) O2.length co7) rZ := (by rw [hw, Ag.o]; exact Fn.1); clear Fn; replace HK := z_ (Kept.qeh (S := (fun k_ => E4 k_)) hg zas (fun k_ e_ => (I4.o.1 k_ e_))); replace I4 := z_ (xG); replace HB := z_ ((zcl : Below w0.heap.size w0 U8)); clear hg hw xG))
     go_roundg k1
     case measure => have := I5.o; omega
     case rel => exact ⟨(rZ), (wrap64 (L0 + 1)), (wrap64 (o0 + 1)), zcc, zcc, H', ⟨zcY⟩, ⟨zaG⟩, ⟨zas⟩, ⟨zar⟩⟩
    ·rw [if_neg c5] at H;exact absurd H zdN
   ·rw [if_neg c3] at H;have Y1 : decide (o0 < (O2.length : Int)) = false := decide_eq_false c3;clear c3;simp only [Option.some.injEq, Prod.mk.injEq] at H;obtain ⟨rfl, rfl⟩ := H;obtain ⟨D7, E7, pQ⟩ := Kd.qbO I4.o;subst pQ
    go_wp2
    go_ret
    exact ⟨zaM, zaG, zar, zas⟩
noncomputable def qb4 : List ByteArray → Int → List ByteArray
 | [], _ => []
 | _ :: xs, m => mt m :: qb4 xs (m + 1)
theorem qgb (rest : List ByteArray) : ∀ (pre : List ByteArray) (m : Int), 0 ≤ m → m + 1 * (rest.length : Int) ≤ 4611686018427387904 → (pre ++ rest).length ≤ 9223372036854775807 →
  Ev (fun k => qaQ.l0 k (pre ++ rest) m ((pre.length : Nat) : Int)) (m + 1 * (rest.length : Int), pre ++ qb4 rest m) := by
 induction rest with
 | nil =>
  intro pre m h0 h1 hl;refine Ev.succ ?_;simp only [qaQ.l0];exact Ev.neg zdN (Ev.is (by simp [qb4]))
 | cons x rest ih =>
  intro pre m h0 h1 hl;have hlt : ((pre.length : Nat) : Int) < ((pre ++ x :: rest).length : Int) := zdF;have hwp : ∀ v : ByteArray, wrap64 (((pre.length : Nat) : Int) + 1) = (((pre ++ [v]).length : Nat) : Int) := fun v => zbn
  have hset : ∀ v u : ByteArray, (pre ++ u :: rest).set ((pre.length : Nat) : Int).toNat v = pre ++ v :: rest := fun v u => zbA
  have hrd : ∀ u : ByteArray, rdOf ByteArray.empty (pre ++ u :: rest) ((pre.length : Nat) : Int) = u := fun u => by simp [rdOf, List.getD_eq_getElem?_getD]
  simp only [List.length_cons] at h1;have w1 : wrap64 (m + 1) = m + 1 := (qc0 zdM zdM).trans zdM;have hi := ih (pre ++ [mt m]) (m + 1) zdM zdM zdv;refine Ev.succ ?_;simp only [qaQ.l0, w1];refine Ev.pos hlt ?_;refine Ev.bind (qkH zdM) ?_;refine Ev.pos (show (0 : Int) ≤ ((pre.length : Nat) : Int) from zdM) ?_;simp only [hset, hrd];rw [hwp (mt m)];have e3 : pre ++ (mt m : ByteArray) :: rest = (pre ++ [mt m]) ++ rest := zdN;have e4 : (m + 1 + 1 * (rest.length : Int), (pre ++ [mt m]) ++ qb4 rest (m + 1)) = (m + 1 * (((x :: rest).length : Nat) : Int), pre ++ qb4 (x :: rest) m) := by
   refine Prod.ext ?_ ?_
   ·simp only [List.length_cons]; omega
   ·simp [qb4]
  rw [← e4, e3];exact hi
theorem qjx (l : List ByteArray) (m : Int) (h0 : 0 ≤ m) (h1 : m + 1 * (l.length : Int) ≤ 4611686018427387904) (hl : l.length ≤ 9223372036854775807) : Ev (fun k => qaQ.f k l m) (m + 1 * (l.length : Int), qb4 l m) := by
 unfold qaQ.f;have h := qgb l [] m h0 h1 zdv
 simpa using h
end Go.Proofs.YtcdokcpiahbejaaGreat.X
