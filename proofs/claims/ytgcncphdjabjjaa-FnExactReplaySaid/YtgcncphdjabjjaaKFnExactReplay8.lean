import Derived.Test.YtgcncphdjabjjaaKFnExactReplay3
import Derived.Test.YtgcncphdjabjjaaKFnExactReplay4
import Derived.Test.YtgcncphdjabjjaaKFnExactReplay6
import Derived.Test.YtgcncphdjabjjaaKFnExactReplay7
namespace Go.Proofs.Ytgcncphdjabjjaa.X
open Go.RowKit Go.Proofs.YtgcncphdjabjjaaW.PrintWords Go.Proofs.YtgcncphdjabjjaaW.PrintLast Go.Proofs.YtgcncphdjabjjaaW.PrintMore
attribute [local go_sem] qaC qaD qaE qay qaz qaN qaO qat qau qaA qaB
set_option linter.unusedVariables false
set_option linter.unusedSimpArgs false
def qb5.f (l0 : List (S76)) (a1 : ByteArray) : Option ((List (S76))) := (qbx.f l0 a1).bind fun bt481 => (if bt481.2 = true then ((qb4.f l0 bt481.1 (wrap64 (bt481.1 + 1))).bind fun t483 => (some t483)) else (some l0))
set_option maxHeartbeats 8000000 in
set_option maxRecDepth 100000 in
theorem qb5.calls (P0_ : Nat → Prop) (u9000_ : Value) (l0 : List (S76)) (a1 : ByteArray) (r : List (S76)) (w0 w : World) (hB : Below w0.heap.size w0 w) (ho0 : Kd.R k76 76 w w0.heap.size P0_ u9000_ l0) (h : qb5.f l0 a1 = some r) :
  Calls Try.prog 93 #[u9000_, .string a1] w fun e w' => ∃ v0_ : Value, e = .returned (v0_) ∧ Kd.R k76 76 w' w0.heap.size (fun k_ => (P0_ k_ ∨ w.heap.size ≤ k_)) v0_ r ∧ Below w0.heap.size w0 w' ∧ Kept w w' (fun k_ => P0_ k_) := by
 have HO0 := Aside0.mk (show Kd.R k76 76 w w0.heap.size (fun k_ => (P0_ k_ ∨ w.heap.size ≤ k_)) u9000_ l0 from Kd.qbs ho0 (fun k_ hk => (.inl hk)))
 have HK := Aside0.mk (Kept.refl w (fun k_ => P0_ k_))
 have HW0 := Aside0.mk hB.size
 have HB := Aside0.mk hB
 clear hB
 have H : ((qbx.f l0 a1).bind fun bt481 => (if bt481.2 = true then ((qb4.f l0 bt481.1 (wrap64 (bt481.1 + 1))).bind fun t483 => (some t483)) else (some l0))) = some r := h
 clear h
 replace H := Option.bind_eq_some_iff.mp H
 obtain ⟨⟨t481, t482⟩, A30, H⟩ := H
 replace H : (if t482 = true then ((qb4.f l0 t481 (wrap64 (t481 + 1))).bind fun t483 => (some t483)) else (some l0)) = some r := H
 have A3 := Aside0.mk A30
 clear A30
 by_cases c4 : t482 = true
 ·subst c4
  have H1 : ((qb4.f l0 t481 (wrap64 (t481 + 1))).bind fun t483 => (some t483)) = some r := by rw [if_pos rfl] at H; exact H
  clear H
  have H := H1
  clear H1
  replace H := Option.bind_eq_some_iff.mp H
  obtain ⟨t483, A50, H⟩ := H
  replace H : (some t483) = some r := H
  have A5 := Aside0.mk A50
  clear A50
  obtain rfl := Option.some.inj H
  obtain ⟨Ao6, co6, eo6⟩ := Kd.qbN HO0.out
  subst eo6
  go_enter Try.func93, Try.ntmps93
  go_wp2_with (first | ((with_reducible refine qav (f := 91) rfl ?_); refine qbd (some 10) rfl rfl Try.func91 (by kernel_rfl) rfl #[.slice Ao6 l0.length co6, .string a1] rfl (by (try simp only [List.map_toArray, List.map_cons, List.map_nil]); first | done | rfl | (simp only [List.length_drop, List.length_take]; rfl)) ?_; (with_reducible refine (qbx.calls _ _ l0 a1 t481 true _ ?side1 ?side2 A3.out).mono ?_); (case side1 => repeat (first | exact (Kd.qaM HO0.out).2.2 | (with_reducible refine Kd.qa6 ?_ _) | (with_reducible refine Kd.qa7 ?_ _) | (with_reducible refine Kd.qbj ?_))); (case side2 => exact (Kd.qaM HO0.out).2.1); rintro e w7 ⟨rfl, hb⟩; refine ⟨_, rfl, ?_⟩; have n0_ := Aside0.mk (Kd.qaR (by (with_reducible repeat (first | apply Kd.qaw | apply Kd.qax | apply Kd.qaI)); exact HO0.out) hb); have n1_ := Aside0.mk (Kept.below (S := (fun k_ => P0_ k_)) (by repeat (first | (with_reducible first | exact HK.out | apply Kept.alloc | apply Kept.drewN | apply Kept.drew) | exact HK.out)) hb); have n2_ := Aside0.mk (qag (by repeat (first | (with_reducible first | exact HB.out | apply qac | apply qaa | apply qab) | exact HB.out)) hb); clear HO0; clear HK; clear HB; have HO0 := n0_; have HK := n1_; have HB := n2_; clear n0_ n1_ n2_; (try clear hb); (try clear hb2); (try clear hk); (try clear hi)) | ((with_reducible refine qav (f := 113) rfl ?_); refine qbd (some 18) rfl rfl Try.func113 (by kernel_rfl) rfl #[.slice Ao6 l0.length co6, .int .i64 t481, .int .i64 (wrap64 (t481 + 1))] rfl (by (try simp only [List.map_toArray, List.map_cons, List.map_nil]); first | done | rfl | (simp only [List.length_drop, List.length_take]; rfl)) ?_; (with_reducible refine (qb4.calls (fun k_ => some k_ = (.slice Ao6 l0.length co6 : Value).ownBlock) (.slice Ao6 l0.length co6) l0 t481 (wrap64 (t481 + 1)) t483 w0 _ ?side1 ?side2 A5.out).mono ?_); (case side1 => repeat (first | (with_reducible first | exact HB.out | apply qac | apply qaa | apply qab) | exact HB.out)); (case side2 => exact Kd.qcF rfl HO0.out); rintro e w8 ⟨v484, rfl, ho0, hb, hkp⟩; refine ⟨_, rfl, ?_⟩; have n0_ := Aside0.mk (Kd.qbs (ok' := fun k_ => (P0_ k_ ∨ w.heap.size ≤ k_)) ho0 (fun k_ hk_ => Or.elim hk_ (fun hs_ => (HO0.out.1 k_ (hs_).symm)) (fun hn_ => (.inr (Nat.le_trans (by first | exact HK.out.1 | exact (show Kept w _ (fun k_ => P0_ k_) from by repeat (first | (with_reducible first | exact HK.out | apply Kept.alloc | apply Kept.drewN | apply Kept.drew) | exact HK.out)).1) hn_))))); have n1_ := Aside0.mk (Kept.qfQ (S := (fun k_ => P0_ k_)) (by repeat (first | (with_reducible first | exact HK.out | apply Kept.alloc | apply Kept.drewN | apply Kept.drew) | exact HK.out)) hkp (fun k_ hs_ => (fun e_ => (HO0.out.1 k_ e_.symm)) hs_)); have n2_ := Aside0.mk (hb); clear HK; clear HB; clear HO0; have HO485 := n0_; have HK := n1_; have HB := n2_; clear n0_ n1_ n2_; (try clear hb); (try clear hkp); (try clear ho0)))
  go_ret
  exact ⟨_, by first | rfl | (simp [qam, qan] <;> rfl) | (simp [*, qam, qan] <;> rfl), by (with_reducible repeat (first | apply Kd.qaw | apply Kd.qax | apply Kd.qaI)); exact HO485.out, by repeat (first | (with_reducible first | exact HB.out | apply qac | apply qaa | apply qab) | exact HB.out), by repeat (first | (with_reducible first | exact HK.out | apply Kept.alloc | apply Kept.drewN | apply Kept.drew) | exact HK.out)⟩
 ·replace c4 := Bool.eq_false_iff.mpr c4
  subst c4
  have H1 : (some l0) = some r := by rw [if_neg (show ¬ (false = true) by decide)] at H; exact H
  clear H
  have H := H1
  clear H1
  obtain rfl := Option.some.inj H
  obtain ⟨Ao9, co9, eo9⟩ := Kd.qbN HO0.out
  subst eo9
  go_enter Try.func93, Try.ntmps93
  go_wp2_with (first | ((with_reducible refine qav (f := 91) rfl ?_); refine qbd (some 10) rfl rfl Try.func91 (by kernel_rfl) rfl #[.slice Ao9 l0.length co9, .string a1] rfl (by (try simp only [List.map_toArray, List.map_cons, List.map_nil]); first | done | rfl | (simp only [List.length_drop, List.length_take]; rfl)) ?_; (with_reducible refine (qbx.calls _ _ l0 a1 t481 false _ ?side1 ?side2 A3.out).mono ?_); (case side1 => repeat (first | exact (Kd.qaM HO0.out).2.2 | (with_reducible refine Kd.qa6 ?_ _) | (with_reducible refine Kd.qa7 ?_ _) | (with_reducible refine Kd.qbj ?_))); (case side2 => exact (Kd.qaM HO0.out).2.1); rintro e w10 ⟨rfl, hb⟩; refine ⟨_, rfl, ?_⟩; have n0_ := Aside0.mk (Kd.qaR (by (with_reducible repeat (first | apply Kd.qaw | apply Kd.qax | apply Kd.qaI)); exact HO0.out) hb); have n1_ := Aside0.mk (Kept.below (S := (fun k_ => P0_ k_)) (by repeat (first | (with_reducible first | exact HK.out | apply Kept.alloc | apply Kept.drewN | apply Kept.drew) | exact HK.out)) hb); have n2_ := Aside0.mk (qag (by repeat (first | (with_reducible first | exact HB.out | apply qac | apply qaa | apply qab) | exact HB.out)) hb); clear HO0; clear HK; clear HB; have HO0 := n0_; have HK := n1_; have HB := n2_; clear n0_ n1_ n2_; (try clear hb); (try clear hb2); (try clear hk); (try clear hi)))
  go_ret
  exact ⟨_, by first | rfl | (simp [qam, qan] <;> rfl) | (simp [*, qam, qan] <;> rfl), by (with_reducible repeat (first | apply Kd.qaw | apply Kd.qax | apply Kd.qaI)); exact HO0.out, by repeat (first | (with_reducible first | exact HB.out | apply qac | apply qaa | apply qab) | exact HB.out), by repeat (first | (with_reducible first | exact HK.out | apply Kept.alloc | apply Kept.drewN | apply Kept.drew) | exact HK.out)⟩
end Go.Proofs.Ytgcncphdjabjjaa.X
namespace Go.Proofs.Ytgcncphdjabjjaa.X
open Go.RowKit Go.Proofs.YtgcncphdjabjjaaW.PrintWords Go.Proofs.YtgcncphdjabjjaaW.PrintLast Go.Proofs.YtgcncphdjabjjaaW.PrintMore
attribute [local go_sem] qaC qaD qaE qay qaz qaN qaO qat qau qaA qaB
set_option linter.unusedVariables false
set_option linter.unusedSimpArgs false
theorem ba_ext {a b : ByteArray} (h : a.toList = b.toList) : a = b := by
 rw [ByteArray.toList_eq, ByteArray.toList_eq] at h
 exact ByteArray.ext (Array.toList_inj.mp h)
theorem qhR (l : List S76) (i : Nat) (h : i < l.length) : qap l (i : Int) = l[i] := by
 unfold qap
 rw [Int.toNat_natCast]
 simp [List.getD_eq_getElem?_getD, h]
theorem qeC {l : List S76} {key : ByteArray} (h : hasAt l key = true) : (l[lowAt l key]'(qdJ h)).f0 = key := by
 have h2 := h
 unfold hasAt at h2
 simp only [Bool.and_eq_true, decide_eq_true_eq] at h2
 rw [qhR l _ h2.1] at h2
 exact ba_ext h2.2
theorem qeU (key : ByteArray) (rest : List S76) : ∀ (pre acc : List S76), (pre ++ rest).length ≤ 1000000 → acc.length ≤ pre.length → Ev (fun k => qbb.l0 k (pre ++ rest) key acc ((pre.length : Nat) : Int)) (acc ++ rest.filter fun p => !decide (p.f0.toList = key.toList)) := by
 induction rest with
 | nil =>
  intro pre acc hl ha
  refine Ev.succ ?_
  simp only [qbb.l0]
  exact Ev.neg (by simp) (Ev.is (by simp))
 | cons x r ih =>
  intro pre acc hl ha
  have hx : qap (pre ++ x :: r) ((pre.length : Nat) : Int) = x := qfh _ pre r x rfl
  have hlt : ((pre.length : Nat) : Int) < ((pre ++ x :: r).length : Int) := by simp; omega
  have hpl : pre.length < 1000000 := by simp at hl; omega
  have e1 : pre ++ x :: r = (pre ++ [x]) ++ r := by simp
  refine Ev.succ ?_
  simp only [qbb.l0, hx, qci (n := pre.length) (by omega)]
  refine Ev.pos hlt (Ev.pos (by omega) ?_)
  rw [qb8 pre x]
  by_cases hk : x.f0.toList = key.toList
  ·refine Ev.pos hk ?_
   have := ih (pre ++ [x]) acc (by rw [← e1]; exact hl) (by simp; omega)
   rw [← e1] at this
   refine Ev.same this ?_
   rw [List.filter_cons]
   simp [hk]
  ·refine Ev.neg hk (Ev.pos (by omega) ?_)
   have := ih (pre ++ [x]) (acc ++ [x]) (by rw [← e1]; exact hl) (by simp; omega)
   rw [← e1] at this
   refine Ev.same this ?_
   rw [List.filter_cons]
   simp [hk]
theorem qhS (l : List S76) (key : ByteArray) (hl : l.length ≤ 1000000) : Ev (fun k => qbb.f k l key) (l.filter fun p => !decide (p.f0.toList = key.toList)) := by
 unfold qbb.f
 have h := qeU key l [] [] hl (Nat.le_refl _)
 simpa using h
theorem qeD {l : List S76} {key : ByteArray} (hr : Rises l) (i : Nat) (hlt : i < l.length) (hk : l[i].f0 = key) : (l.filter fun p => !decide (p.f0.toList = key.toList)) = l.eraseIdx i := by
 have e : l = l.take i ++ l[i] :: l.drop (i + 1) := by
  rw [← List.drop_eq_getElem_cons hlt, List.take_append_drop]
 have f1 : (l.take i).filter (fun p => !decide (p.f0.toList = key.toList)) = l.take i := by
  refine List.filter_eq_self.2 fun x hx => ?_
  obtain ⟨j, hj, rfl⟩ := List.mem_take_iff_getElem.1 hx
  have := qd1 hr hlt (show j < i by omega)
  rw [hk] at this
  simp only [Bool.not_eq_true', decide_eq_false_iff_not]
  intro he
  rw [he, qdD] at this
  cases this
 have f2 : (l.drop (i + 1)).filter (fun p => !decide (p.f0.toList = key.toList)) = l.drop (i + 1) := by
  refine List.filter_eq_self.2 fun x hx => ?_
  obtain ⟨j, hj, rfl⟩ := List.mem_drop_iff_getElem.1 hx
  have := qd1 hr (show i + 1 + j < l.length by omega) (show i < i + 1 + j by omega)
  rw [hk] at this
  simp only [Bool.not_eq_true', decide_eq_false_iff_not]
  intro he
  rw [he, qdD] at this
  cases this
 rw [List.eraseIdx_eq_take_drop_succ]
 conv => lhs; rw [e]
 rw [List.filter_append, List.filter_cons, f1, f2, hk]
 simp
theorem qeE {l : List S76} {key : ByteArray} (hr : Rises l) (h : hasAt l key = true) : (l.filter fun p => !decide (p.f0.toList = key.toList)) = l.eraseIdx (lowAt l key) := qeD hr _ (qdJ h) (qeC h)
def dropP (l : List S76) (key : ByteArray) : List S76 := if hasAt l key = true then l.eraseIdx (lowAt l key) else l
theorem qhT {l : List S76} (key : ByteArray) (h : Rises l) (hl : l.length ≤ 1000000) : qb5.f l key = some (dropP l key) := by
 unfold qb5.f dropP
 rw [qgv key h hl, Option.bind_some]
 cases hh : hasAt l key with
 | false => simp
 | true =>
  have hlt := qdJ hh
  rw [if_pos rfl, if_pos rfl]
  unfold qb4.f
  rw [if_pos ⟨by simp only; omega, by simp only; omega, by rw [qbR (by simp only; omega) (by simp only; omega)]⟩, Option.bind_some]
  simp
theorem qdn (l : List S76) (hl : l.length ≤ 1000000) : qa1.f l = some l := by
 unfold qa1.f
 rw [if_pos (by omega)]
end Go.Proofs.Ytgcncphdjabjjaa.X
namespace Go.Proofs.Ytgcncphdjabjjaa.X
open Go.RowKit Go.Proofs.YtgcncphdjabjjaaW.PrintWords Go.Proofs.YtgcncphdjabjjaaW.PrintLast Go.Proofs.YtgcncphdjabjjaaW.PrintMore
attribute [local go_sem] qaC qaD qaE qay qaz qaN qaO qat qau qaA qaB
set_option linter.unusedVariables false
set_option linter.unusedSimpArgs false
def qbv.f (a0_0 : ByteArray) (a0_1 : ByteArray) (a0_2 : ByteArray) (a0_3 : Bool) (a0_4 : Bool) : Option (Bool) := (qbH.f a0_0).bind fun t463 => (if t463 = true then (if (a0_1.size : Int) ≤ 90 then (if (a0_2.size : Int) ≤ 90 then (if a0_3 = true then (if a0_4 = true then (some true) else (some (a0_2.toList == ([] : List UInt8)))) else (if a0_4 = true then (if a0_1.toList = ([] : List UInt8) then (some true) else (some false)) else (some false))) else (some false)) else (some false)) else (some false))
set_option maxHeartbeats 8000000 in
set_option maxRecDepth 100000 in
theorem qbv.calls (a0_0 : ByteArray) (a0_1 : ByteArray) (a0_2 : ByteArray) (a0_3 : Bool) (a0_4 : Bool) (r : Bool) (w : World) (h : qbv.f a0_0 a0_1 a0_2 a0_3 a0_4 = some r) :
  Calls Try.prog 68 #[.agg #[.string a0_0, .string a0_1, .string a0_2, .bool a0_3, .bool a0_4]] w fun e w' => e = .returned (.bool r) ∧ Below w.heap.size w w' := by
 have hu82 := Try.underlying82
 have HB := Aside0.mk (Below.refl w.heap.size w)
 have H : ((qbH.f a0_0).bind fun t463 => (if t463 = true then (if (a0_1.size : Int) ≤ 90 then (if (a0_2.size : Int) ≤ 90 then (if a0_3 = true then (if a0_4 = true then (some true) else (some (a0_2.toList == ([] : List UInt8)))) else (if a0_4 = true then (if a0_1.toList = ([] : List UInt8) then (some true) else (some false)) else (some false))) else (some false)) else (some false)) else (some false))) = some r := h
 clear h
 replace H := Option.bind_eq_some_iff.mp H
 obtain ⟨t463, A20, H⟩ := H
 replace H : (if t463 = true then (if (a0_1.size : Int) ≤ 90 then (if (a0_2.size : Int) ≤ 90 then (if a0_3 = true then (if a0_4 = true then (some true) else (some (a0_2.toList == ([] : List UInt8)))) else (if a0_4 = true then (if a0_1.toList = ([] : List UInt8) then (some true) else (some false)) else (some false))) else (some false)) else (some false)) else (some false)) = some r := H
 have A2 := Aside0.mk A20
 clear A20
 by_cases c3 : t463 = true
 ·subst c3
  have H1 : (if (a0_1.size : Int) ≤ 90 then (if (a0_2.size : Int) ≤ 90 then (if a0_3 = true then (if a0_4 = true then (some true) else (some (a0_2.toList == ([] : List UInt8)))) else (if a0_4 = true then (if a0_1.toList = ([] : List UInt8) then (some true) else (some false)) else (some false))) else (some false)) else (some false)) = some r := by rw [if_pos rfl] at H; exact H
  clear H
  have H := H1
  clear H1
  by_cases c4 : (a0_1.size : Int) ≤ 90
  ·rw [if_pos c4] at H
   have c4b0 : decide ((a0_1.size : Int) ≤ 90) = true := decide_eq_true c4
   have c4b1 : decide (a0_1.size ≤ 90) = true := decide_eq_true (by omega)
   clear c4
   by_cases c5 : (a0_2.size : Int) ≤ 90
   ·rw [if_pos c5] at H
    have c5b0 : decide ((a0_2.size : Int) ≤ 90) = true := decide_eq_true c5
    have c5b1 : decide (a0_2.size ≤ 90) = true := decide_eq_true (by omega)
    clear c5
    by_cases c6 : a0_3 = true
    ·subst c6
     have H1 : (if a0_4 = true then (some true) else (some (a0_2.toList == ([] : List UInt8)))) = some r := by rw [if_pos rfl] at H; exact H
     clear H
     have H := H1
     clear H1
     by_cases c7 : a0_4 = true
     ·subst c7
      have H1 : (some true) = some r := by rw [if_pos rfl] at H; exact H
      clear H
      have H := H1
      clear H1
      obtain rfl := Option.some.inj H
      go_enter Try.func68, Try.ntmps68
      go_wp2_with (first | ((with_reducible refine qaH (N := 1) rfl ?_); (try (refine qbt (by rfl) ?_; dsimp only)); refine qaF ?hg (N := 1) ?hd (cs := #[.string a0_0, .string a0_1, .string a0_2, .bool true, .bool true]) (t := 82) ?hr ?_; (case hd => rfl); (case hg => rfl); (case hr => first | (go_simp; done) | (go_simp; rfl)); intro gb462 hg w8 hbox hb; have n0_ := Aside0.mk (qag (by repeat (first | (with_reducible first | exact HB.out | apply qac | apply qaa | apply qab) | exact HB.out)) hb); have n1_ := Aside0.mk (hbox); have n2_ := Aside0.mk ((by rw [hg]; exact (qak (by repeat (first | (with_reducible first | exact HB.out | apply qac | apply qaa | apply qab) | exact HB.out))) : w.heap.size ≤ gb462)); have n3_ := Aside0.mk ((by rw [hg]; exact (qak (by repeat (first | (with_reducible first | exact HB.out | apply qac | apply qaa | apply qab) | exact HB.out))) : w.heap.size ≤ gb462)); clear HB; have HB := n0_; have BK462 := n1_; have GW462 := n2_; have GE462 := n3_; clear n0_ n1_ n2_ n3_; clear hb hbox hg; have hcz9_0 : w8.cell? ⟨gb462, 0, none⟩ = some (.string a0_0) := (qad BK462.out 0).trans rfl; have hcz9_1 : w8.cell? ⟨gb462, 1, none⟩ = some (.string a0_1) := (qad BK462.out 1).trans rfl; have hcz9_2 : w8.cell? ⟨gb462, 2, none⟩ = some (.string a0_2) := (qad BK462.out 2).trans rfl; have hcz9_3 : w8.cell? ⟨gb462, 3, none⟩ = some (.bool true) := (qad BK462.out 3).trans rfl; have hcz9_4 : w8.cell? ⟨gb462, 4, none⟩ = some (.bool true) := (qad BK462.out 4).trans rfl; have hfz9_0 := qae BK462.out 0; have hfz9_1 := qae BK462.out 1; have hfz9_2 := qae BK462.out 2; have hfz9_3 := qae BK462.out 3; have hfz9_4 := qae BK462.out 4) | ((with_reducible refine qav (f := 96) rfl ?_); refine qbd (some 5) rfl rfl Try.func96 (by kernel_rfl) rfl #[.string a0_0] rfl (by (try simp only [List.map_toArray, List.map_cons, List.map_nil]); first | done | rfl | (simp only [List.length_drop, List.length_take]; rfl)) ?_; (with_reducible refine (qbH.calls a0_0 true _ A2.out).mono ?_); rintro e w' ⟨rfl, ⟨nd, rfl⟩⟩; refine ⟨_, rfl, ?_⟩))
      go_ret
      exact ⟨by first | rfl | (simp [qam, qan] <;> rfl) | (simp [*, qam, qan] <;> rfl), by repeat (first | (with_reducible first | exact HB.out | apply qac | apply qaa | apply qab | refine qah ?_ GE462.out) | exact HB.out)⟩
     ·replace c7 := Bool.eq_false_iff.mpr c7
      subst c7
      have H1 : (some (a0_2.toList == ([] : List UInt8))) = some r := by rw [if_neg (show ¬ (false = true) by decide)] at H; exact H
      clear H
      have H := H1
      clear H1
      obtain rfl := Option.some.inj H
      go_enter Try.func68, Try.ntmps68
      go_wp2_with (first | ((with_reducible refine qaH (N := 1) rfl ?_); (try (refine qbt (by rfl) ?_; dsimp only)); refine qaF ?hg (N := 1) ?hd (cs := #[.string a0_0, .string a0_1, .string a0_2, .bool true, .bool false]) (t := 82) ?hr ?_; (case hd => rfl); (case hg => rfl); (case hr => first | (go_simp; done) | (go_simp; rfl)); intro gb462 hg w10 hbox hb; have n0_ := Aside0.mk (qag (by repeat (first | (with_reducible first | exact HB.out | apply qac | apply qaa | apply qab) | exact HB.out)) hb); have n1_ := Aside0.mk (hbox); have n2_ := Aside0.mk ((by rw [hg]; exact (qak (by repeat (first | (with_reducible first | exact HB.out | apply qac | apply qaa | apply qab) | exact HB.out))) : w.heap.size ≤ gb462)); have n3_ := Aside0.mk ((by rw [hg]; exact (qak (by repeat (first | (with_reducible first | exact HB.out | apply qac | apply qaa | apply qab) | exact HB.out))) : w.heap.size ≤ gb462)); clear HB; have HB := n0_; have BK462 := n1_; have GW462 := n2_; have GE462 := n3_; clear n0_ n1_ n2_ n3_; clear hb hbox hg; have hcz11_0 : w10.cell? ⟨gb462, 0, none⟩ = some (.string a0_0) := (qad BK462.out 0).trans rfl; have hcz11_1 : w10.cell? ⟨gb462, 1, none⟩ = some (.string a0_1) := (qad BK462.out 1).trans rfl; have hcz11_2 : w10.cell? ⟨gb462, 2, none⟩ = some (.string a0_2) := (qad BK462.out 2).trans rfl; have hcz11_3 : w10.cell? ⟨gb462, 3, none⟩ = some (.bool true) := (qad BK462.out 3).trans rfl; have hcz11_4 : w10.cell? ⟨gb462, 4, none⟩ = some (.bool false) := (qad BK462.out 4).trans rfl; have hfz11_0 := qae BK462.out 0; have hfz11_1 := qae BK462.out 1; have hfz11_2 := qae BK462.out 2; have hfz11_3 := qae BK462.out 3; have hfz11_4 := qae BK462.out 4) | ((with_reducible refine qav (f := 96) rfl ?_); refine qbd (some 5) rfl rfl Try.func96 (by kernel_rfl) rfl #[.string a0_0] rfl (by (try simp only [List.map_toArray, List.map_cons, List.map_nil]); first | done | rfl | (simp only [List.length_drop, List.length_take]; rfl)) ?_; (with_reducible refine (qbH.calls a0_0 true _ A2.out).mono ?_); rintro e w' ⟨rfl, ⟨nd, rfl⟩⟩; refine ⟨_, rfl, ?_⟩))
      go_ret
      exact ⟨by first | rfl | (simp [qam, qan] <;> rfl) | (simp [*, qam, qan] <;> rfl), by repeat (first | (with_reducible first | exact HB.out | apply qac | apply qaa | apply qab | refine qah ?_ GE462.out) | exact HB.out)⟩
    ·replace c6 := Bool.eq_false_iff.mpr c6
     subst c6
     have H1 : (if a0_4 = true then (if a0_1.toList = ([] : List UInt8) then (some true) else (some false)) else (some false)) = some r := by rw [if_neg (show ¬ (false = true) by decide)] at H; exact H
     clear H
     have H := H1
     clear H1
     by_cases c12 : a0_4 = true
     ·subst c12
      have H1 : (if a0_1.toList = ([] : List UInt8) then (some true) else (some false)) = some r := by rw [if_pos rfl] at H; exact H
      clear H
      have H := H1
      clear H1
      by_cases c13 : a0_1.toList = ([] : List UInt8)
      ·rw [if_pos c13] at H
       have c13b0 : (a0_1.toList == ([] : List UInt8)) = true := beq_iff_eq.mpr c13
       have c13b1 : (a0_1.toList != ([] : List UInt8)) = false := bne_eq_false_iff_eq.mpr c13
       clear c13
       obtain rfl := Option.some.inj H
       go_enter Try.func68, Try.ntmps68
       go_wp2_with (first | ((with_reducible refine qaH (N := 1) rfl ?_); (try (refine qbt (by rfl) ?_; dsimp only)); refine qaF ?hg (N := 1) ?hd (cs := #[.string a0_0, .string a0_1, .string a0_2, .bool false, .bool true]) (t := 82) ?hr ?_; (case hd => rfl); (case hg => rfl); (case hr => first | (go_simp; done) | (go_simp; rfl)); intro gb462 hg w14 hbox hb; have n0_ := Aside0.mk (qag (by repeat (first | (with_reducible first | exact HB.out | apply qac | apply qaa | apply qab) | exact HB.out)) hb); have n1_ := Aside0.mk (hbox); have n2_ := Aside0.mk ((by rw [hg]; exact (qak (by repeat (first | (with_reducible first | exact HB.out | apply qac | apply qaa | apply qab) | exact HB.out))) : w.heap.size ≤ gb462)); have n3_ := Aside0.mk ((by rw [hg]; exact (qak (by repeat (first | (with_reducible first | exact HB.out | apply qac | apply qaa | apply qab) | exact HB.out))) : w.heap.size ≤ gb462)); clear HB; have HB := n0_; have BK462 := n1_; have GW462 := n2_; have GE462 := n3_; clear n0_ n1_ n2_ n3_; clear hb hbox hg; have hcz15_0 : w14.cell? ⟨gb462, 0, none⟩ = some (.string a0_0) := (qad BK462.out 0).trans rfl; have hcz15_1 : w14.cell? ⟨gb462, 1, none⟩ = some (.string a0_1) := (qad BK462.out 1).trans rfl; have hcz15_2 : w14.cell? ⟨gb462, 2, none⟩ = some (.string a0_2) := (qad BK462.out 2).trans rfl; have hcz15_3 : w14.cell? ⟨gb462, 3, none⟩ = some (.bool false) := (qad BK462.out 3).trans rfl; have hcz15_4 : w14.cell? ⟨gb462, 4, none⟩ = some (.bool true) := (qad BK462.out 4).trans rfl; have hfz15_0 := qae BK462.out 0; have hfz15_1 := qae BK462.out 1; have hfz15_2 := qae BK462.out 2; have hfz15_3 := qae BK462.out 3; have hfz15_4 := qae BK462.out 4) | ((with_reducible refine qav (f := 96) rfl ?_); refine qbd (some 5) rfl rfl Try.func96 (by kernel_rfl) rfl #[.string a0_0] rfl (by (try simp only [List.map_toArray, List.map_cons, List.map_nil]); first | done | rfl | (simp only [List.length_drop, List.length_take]; rfl)) ?_; (with_reducible refine (qbH.calls a0_0 true _ A2.out).mono ?_); rintro e w' ⟨rfl, ⟨nd, rfl⟩⟩; refine ⟨_, rfl, ?_⟩))
       go_ret
       exact ⟨by first | rfl | (simp [qam, qan] <;> rfl) | (simp [*, qam, qan] <;> rfl), by repeat (first | (with_reducible first | exact HB.out | apply qac | apply qaa | apply qab | refine qah ?_ GE462.out) | exact HB.out)⟩
      ·rw [if_neg c13] at H
       have c13b0 : (a0_1.toList == ([] : List UInt8)) = false := beq_eq_false_iff_ne.mpr c13
       have c13b1 : (a0_1.toList != ([] : List UInt8)) = true := bne_iff_ne.mpr c13
       obtain rfl := Option.some.inj H
       go_enter Try.func68, Try.ntmps68
       go_wp2_with (first | ((with_reducible refine qaH (N := 1) rfl ?_); (try (refine qbt (by rfl) ?_; dsimp only)); refine qaF ?hg (N := 1) ?hd (cs := #[.string a0_0, .string a0_1, .string a0_2, .bool false, .bool true]) (t := 82) ?hr ?_; (case hd => rfl); (case hg => rfl); (case hr => first | (go_simp; done) | (go_simp; rfl)); intro gb462 hg w16 hbox hb; have n0_ := Aside0.mk (qag (by repeat (first | (with_reducible first | exact HB.out | apply qac | apply qaa | apply qab) | exact HB.out)) hb); have n1_ := Aside0.mk (hbox); have n2_ := Aside0.mk ((by rw [hg]; exact (qak (by repeat (first | (with_reducible first | exact HB.out | apply qac | apply qaa | apply qab) | exact HB.out))) : w.heap.size ≤ gb462)); have n3_ := Aside0.mk ((by rw [hg]; exact (qak (by repeat (first | (with_reducible first | exact HB.out | apply qac | apply qaa | apply qab) | exact HB.out))) : w.heap.size ≤ gb462)); clear HB; have HB := n0_; have BK462 := n1_; have GW462 := n2_; have GE462 := n3_; clear n0_ n1_ n2_ n3_; clear hb hbox hg; have hcz17_0 : w16.cell? ⟨gb462, 0, none⟩ = some (.string a0_0) := (qad BK462.out 0).trans rfl; have hcz17_1 : w16.cell? ⟨gb462, 1, none⟩ = some (.string a0_1) := (qad BK462.out 1).trans rfl; have hcz17_2 : w16.cell? ⟨gb462, 2, none⟩ = some (.string a0_2) := (qad BK462.out 2).trans rfl; have hcz17_3 : w16.cell? ⟨gb462, 3, none⟩ = some (.bool false) := (qad BK462.out 3).trans rfl; have hcz17_4 : w16.cell? ⟨gb462, 4, none⟩ = some (.bool true) := (qad BK462.out 4).trans rfl; have hfz17_0 := qae BK462.out 0; have hfz17_1 := qae BK462.out 1; have hfz17_2 := qae BK462.out 2; have hfz17_3 := qae BK462.out 3; have hfz17_4 := qae BK462.out 4) | ((with_reducible refine qav (f := 96) rfl ?_); refine qbd (some 5) rfl rfl Try.func96 (by kernel_rfl) rfl #[.string a0_0] rfl (by (try simp only [List.map_toArray, List.map_cons, List.map_nil]); first | done | rfl | (simp only [List.length_drop, List.length_take]; rfl)) ?_; (with_reducible refine (qbH.calls a0_0 true _ A2.out).mono ?_); rintro e w' ⟨rfl, ⟨nd, rfl⟩⟩; refine ⟨_, rfl, ?_⟩))
       go_ret
       exact ⟨by first | rfl | (simp [qam, qan] <;> rfl) | (simp [*, qam, qan] <;> rfl), by repeat (first | (with_reducible first | exact HB.out | apply qac | apply qaa | apply qab | refine qah ?_ GE462.out) | exact HB.out)⟩
     ·replace c12 := Bool.eq_false_iff.mpr c12
      subst c12
      have H1 : (some false) = some r := by rw [if_neg (show ¬ (false = true) by decide)] at H; exact H
      clear H
      have H := H1
      clear H1
      obtain rfl := Option.some.inj H
      go_enter Try.func68, Try.ntmps68
      go_wp2_with (first | ((with_reducible refine qaH (N := 1) rfl ?_); (try (refine qbt (by rfl) ?_; dsimp only)); refine qaF ?hg (N := 1) ?hd (cs := #[.string a0_0, .string a0_1, .string a0_2, .bool false, .bool false]) (t := 82) ?hr ?_; (case hd => rfl); (case hg => rfl); (case hr => first | (go_simp; done) | (go_simp; rfl)); intro gb462 hg w18 hbox hb; have n0_ := Aside0.mk (qag (by repeat (first | (with_reducible first | exact HB.out | apply qac | apply qaa | apply qab) | exact HB.out)) hb); have n1_ := Aside0.mk (hbox); have n2_ := Aside0.mk ((by rw [hg]; exact (qak (by repeat (first | (with_reducible first | exact HB.out | apply qac | apply qaa | apply qab) | exact HB.out))) : w.heap.size ≤ gb462)); have n3_ := Aside0.mk ((by rw [hg]; exact (qak (by repeat (first | (with_reducible first | exact HB.out | apply qac | apply qaa | apply qab) | exact HB.out))) : w.heap.size ≤ gb462)); clear HB; have HB := n0_; have BK462 := n1_; have GW462 := n2_; have GE462 := n3_; clear n0_ n1_ n2_ n3_; clear hb hbox hg; have hcz19_0 : w18.cell? ⟨gb462, 0, none⟩ = some (.string a0_0) := (qad BK462.out 0).trans rfl; have hcz19_1 : w18.cell? ⟨gb462, 1, none⟩ = some (.string a0_1) := (qad BK462.out 1).trans rfl; have hcz19_2 : w18.cell? ⟨gb462, 2, none⟩ = some (.string a0_2) := (qad BK462.out 2).trans rfl; have hcz19_3 : w18.cell? ⟨gb462, 3, none⟩ = some (.bool false) := (qad BK462.out 3).trans rfl; have hcz19_4 : w18.cell? ⟨gb462, 4, none⟩ = some (.bool false) := (qad BK462.out 4).trans rfl; have hfz19_0 := qae BK462.out 0; have hfz19_1 := qae BK462.out 1; have hfz19_2 := qae BK462.out 2; have hfz19_3 := qae BK462.out 3; have hfz19_4 := qae BK462.out 4) | ((with_reducible refine qav (f := 96) rfl ?_); refine qbd (some 5) rfl rfl Try.func96 (by kernel_rfl) rfl #[.string a0_0] rfl (by (try simp only [List.map_toArray, List.map_cons, List.map_nil]); first | done | rfl | (simp only [List.length_drop, List.length_take]; rfl)) ?_; (with_reducible refine (qbH.calls a0_0 true _ A2.out).mono ?_); rintro e w' ⟨rfl, ⟨nd, rfl⟩⟩; refine ⟨_, rfl, ?_⟩))
      go_ret
      exact ⟨by first | rfl | (simp [qam, qan] <;> rfl) | (simp [*, qam, qan] <;> rfl), by repeat (first | (with_reducible first | exact HB.out | apply qac | apply qaa | apply qab | refine qah ?_ GE462.out) | exact HB.out)⟩
   ·rw [if_neg c5] at H
    have c5b0 : decide ((a0_2.size : Int) ≤ 90) = false := decide_eq_false c5
    have c5b1 : decide (a0_2.size ≤ 90) = false := decide_eq_false (by omega)
    clear c5
    obtain rfl := Option.some.inj H
    go_enter Try.func68, Try.ntmps68
    go_wp2_with (first | ((with_reducible refine qaH (N := 1) rfl ?_); (try (refine qbt (by rfl) ?_; dsimp only)); refine qaF ?hg (N := 1) ?hd (cs := #[.string a0_0, .string a0_1, .string a0_2, .bool a0_3, .bool a0_4]) (t := 82) ?hr ?_; (case hd => rfl); (case hg => rfl); (case hr => first | (go_simp; done) | (go_simp; rfl)); intro gb462 hg w20 hbox hb; have n0_ := Aside0.mk (qag (by repeat (first | (with_reducible first | exact HB.out | apply qac | apply qaa | apply qab) | exact HB.out)) hb); have n1_ := Aside0.mk (hbox); have n2_ := Aside0.mk ((by rw [hg]; exact (qak (by repeat (first | (with_reducible first | exact HB.out | apply qac | apply qaa | apply qab) | exact HB.out))) : w.heap.size ≤ gb462)); have n3_ := Aside0.mk ((by rw [hg]; exact (qak (by repeat (first | (with_reducible first | exact HB.out | apply qac | apply qaa | apply qab) | exact HB.out))) : w.heap.size ≤ gb462)); clear HB; have HB := n0_; have BK462 := n1_; have GW462 := n2_; have GE462 := n3_; clear n0_ n1_ n2_ n3_; clear hb hbox hg; have hcz21_0 : w20.cell? ⟨gb462, 0, none⟩ = some (.string a0_0) := (qad BK462.out 0).trans rfl; have hcz21_1 : w20.cell? ⟨gb462, 1, none⟩ = some (.string a0_1) := (qad BK462.out 1).trans rfl; have hcz21_2 : w20.cell? ⟨gb462, 2, none⟩ = some (.string a0_2) := (qad BK462.out 2).trans rfl; have hcz21_3 : w20.cell? ⟨gb462, 3, none⟩ = some (.bool a0_3) := (qad BK462.out 3).trans rfl; have hcz21_4 : w20.cell? ⟨gb462, 4, none⟩ = some (.bool a0_4) := (qad BK462.out 4).trans rfl; have hfz21_0 := qae BK462.out 0; have hfz21_1 := qae BK462.out 1; have hfz21_2 := qae BK462.out 2; have hfz21_3 := qae BK462.out 3; have hfz21_4 := qae BK462.out 4) | ((with_reducible refine qav (f := 96) rfl ?_); refine qbd (some 5) rfl rfl Try.func96 (by kernel_rfl) rfl #[.string a0_0] rfl (by (try simp only [List.map_toArray, List.map_cons, List.map_nil]); first | done | rfl | (simp only [List.length_drop, List.length_take]; rfl)) ?_; (with_reducible refine (qbH.calls a0_0 true _ A2.out).mono ?_); rintro e w' ⟨rfl, ⟨nd, rfl⟩⟩; refine ⟨_, rfl, ?_⟩))
    go_ret
    exact ⟨by first | rfl | (simp [qam, qan] <;> rfl) | (simp [*, qam, qan] <;> rfl), by repeat (first | (with_reducible first | exact HB.out | apply qac | apply qaa | apply qab | refine qah ?_ GE462.out) | exact HB.out)⟩
  ·rw [if_neg c4] at H
   have c4b0 : decide ((a0_1.size : Int) ≤ 90) = false := decide_eq_false c4
   have c4b1 : decide (a0_1.size ≤ 90) = false := decide_eq_false (by omega)
   clear c4
   obtain rfl := Option.some.inj H
   go_enter Try.func68, Try.ntmps68
   go_wp2_with (first | ((with_reducible refine qaH (N := 1) rfl ?_); (try (refine qbt (by rfl) ?_; dsimp only)); refine qaF ?hg (N := 1) ?hd (cs := #[.string a0_0, .string a0_1, .string a0_2, .bool a0_3, .bool a0_4]) (t := 82) ?hr ?_; (case hd => rfl); (case hg => rfl); (case hr => first | (go_simp; done) | (go_simp; rfl)); intro gb462 hg w22 hbox hb; have n0_ := Aside0.mk (qag (by repeat (first | (with_reducible first | exact HB.out | apply qac | apply qaa | apply qab) | exact HB.out)) hb); have n1_ := Aside0.mk (hbox); have n2_ := Aside0.mk ((by rw [hg]; exact (qak (by repeat (first | (with_reducible first | exact HB.out | apply qac | apply qaa | apply qab) | exact HB.out))) : w.heap.size ≤ gb462)); have n3_ := Aside0.mk ((by rw [hg]; exact (qak (by repeat (first | (with_reducible first | exact HB.out | apply qac | apply qaa | apply qab) | exact HB.out))) : w.heap.size ≤ gb462)); clear HB; have HB := n0_; have BK462 := n1_; have GW462 := n2_; have GE462 := n3_; clear n0_ n1_ n2_ n3_; clear hb hbox hg; have hcz23_0 : w22.cell? ⟨gb462, 0, none⟩ = some (.string a0_0) := (qad BK462.out 0).trans rfl; have hcz23_1 : w22.cell? ⟨gb462, 1, none⟩ = some (.string a0_1) := (qad BK462.out 1).trans rfl; have hcz23_2 : w22.cell? ⟨gb462, 2, none⟩ = some (.string a0_2) := (qad BK462.out 2).trans rfl; have hcz23_3 : w22.cell? ⟨gb462, 3, none⟩ = some (.bool a0_3) := (qad BK462.out 3).trans rfl; have hcz23_4 : w22.cell? ⟨gb462, 4, none⟩ = some (.bool a0_4) := (qad BK462.out 4).trans rfl; have hfz23_0 := qae BK462.out 0; have hfz23_1 := qae BK462.out 1; have hfz23_2 := qae BK462.out 2; have hfz23_3 := qae BK462.out 3; have hfz23_4 := qae BK462.out 4) | ((with_reducible refine qav (f := 96) rfl ?_); refine qbd (some 5) rfl rfl Try.func96 (by kernel_rfl) rfl #[.string a0_0] rfl (by (try simp only [List.map_toArray, List.map_cons, List.map_nil]); first | done | rfl | (simp only [List.length_drop, List.length_take]; rfl)) ?_; (with_reducible refine (qbH.calls a0_0 true _ A2.out).mono ?_); rintro e w' ⟨rfl, ⟨nd, rfl⟩⟩; refine ⟨_, rfl, ?_⟩))
   go_ret
   exact ⟨by first | rfl | (simp [qam, qan] <;> rfl) | (simp [*, qam, qan] <;> rfl), by repeat (first | (with_reducible first | exact HB.out | apply qac | apply qaa | apply qab | refine qah ?_ GE462.out) | exact HB.out)⟩
 ·replace c3 := Bool.eq_false_iff.mpr c3
  subst c3
  have H1 : (some false) = some r := by rw [if_neg (show ¬ (false = true) by decide)] at H; exact H
  clear H
  have H := H1
  clear H1
  obtain rfl := Option.some.inj H
  go_enter Try.func68, Try.ntmps68
  go_wp2_with (first | ((with_reducible refine qaH (N := 1) rfl ?_); (try (refine qbt (by rfl) ?_; dsimp only)); refine qaF ?hg (N := 1) ?hd (cs := #[.string a0_0, .string a0_1, .string a0_2, .bool a0_3, .bool a0_4]) (t := 82) ?hr ?_; (case hd => rfl); (case hg => rfl); (case hr => first | (go_simp; done) | (go_simp; rfl)); intro gb462 hg w24 hbox hb; have n0_ := Aside0.mk (qag (by repeat (first | (with_reducible first | exact HB.out | apply qac | apply qaa | apply qab) | exact HB.out)) hb); have n1_ := Aside0.mk (hbox); have n2_ := Aside0.mk ((by rw [hg]; exact (qak (by repeat (first | (with_reducible first | exact HB.out | apply qac | apply qaa | apply qab) | exact HB.out))) : w.heap.size ≤ gb462)); have n3_ := Aside0.mk ((by rw [hg]; exact (qak (by repeat (first | (with_reducible first | exact HB.out | apply qac | apply qaa | apply qab) | exact HB.out))) : w.heap.size ≤ gb462)); clear HB; have HB := n0_; have BK462 := n1_; have GW462 := n2_; have GE462 := n3_; clear n0_ n1_ n2_ n3_; clear hb hbox hg; have hcz25_0 : w24.cell? ⟨gb462, 0, none⟩ = some (.string a0_0) := (qad BK462.out 0).trans rfl; have hcz25_1 : w24.cell? ⟨gb462, 1, none⟩ = some (.string a0_1) := (qad BK462.out 1).trans rfl; have hcz25_2 : w24.cell? ⟨gb462, 2, none⟩ = some (.string a0_2) := (qad BK462.out 2).trans rfl; have hcz25_3 : w24.cell? ⟨gb462, 3, none⟩ = some (.bool a0_3) := (qad BK462.out 3).trans rfl; have hcz25_4 : w24.cell? ⟨gb462, 4, none⟩ = some (.bool a0_4) := (qad BK462.out 4).trans rfl; have hfz25_0 := qae BK462.out 0; have hfz25_1 := qae BK462.out 1; have hfz25_2 := qae BK462.out 2; have hfz25_3 := qae BK462.out 3; have hfz25_4 := qae BK462.out 4) | ((with_reducible refine qav (f := 96) rfl ?_); refine qbd (some 5) rfl rfl Try.func96 (by kernel_rfl) rfl #[.string a0_0] rfl (by (try simp only [List.map_toArray, List.map_cons, List.map_nil]); first | done | rfl | (simp only [List.length_drop, List.length_take]; rfl)) ?_; (with_reducible refine (qbH.calls a0_0 false _ A2.out).mono ?_); rintro e w' ⟨rfl, ⟨nd, rfl⟩⟩; refine ⟨_, rfl, ?_⟩))
  go_ret
  exact ⟨by first | rfl | (simp [qam, qan] <;> rfl) | (simp [*, qam, qan] <;> rfl), by repeat (first | (with_reducible first | exact HB.out | apply qac | apply qaa | apply qab | refine qah ?_ GE462.out) | exact HB.out)⟩
end Go.Proofs.Ytgcncphdjabjjaa.X
namespace Go.Proofs.Ytgcncphdjabjjaa.X
open Go.RowKit Go.Proofs.YtgcncphdjabjjaaW.PrintWords Go.Proofs.YtgcncphdjabjjaaW.PrintLast Go.Proofs.YtgcncphdjabjjaaW.PrintMore
attribute [local go_sem] qaC qaD qaE qay qaz qaN qaO qat qau qaA qaB
set_option linter.unusedVariables false
set_option linter.unusedSimpArgs false
def qbU (d : S82) : Bool := keyB d.f0 && (decide (d.f1.size ≤ 90) && (decide (d.f2.size ≤ 90) && (if d.f3 = true then (d.f4 || d.f2.toList == ([] : List UInt8)) else (d.f4 && d.f1.toList == ([] : List UInt8)))))
theorem qf1 (d : S82) : qbv.f d.f0 d.f1 d.f2 d.f3 d.f4 = some (qbU d) := by
 unfold qbv.f qbU
 rw [qgQ, Option.bind_some]
 have e1 : ((d.f1.size : Int) ≤ 90) = (d.f1.size ≤ 90) := propext (by omega)
 have e2 : ((d.f2.size : Int) ≤ 90) = (d.f2.size ≤ 90) := propext (by omega)
 simp only [e1, e2]
 by_cases h1 : d.f1.size ≤ 90 <;> by_cases h2 : d.f2.size ≤ 90 <;> cases h0 : keyB d.f0 <;> cases h3 : d.f3 <;> cases h4 : d.f4 <;> simp [h1, h2] <;> (by_cases h5 : d.f1.toList = ([] : List UInt8) <;> simp [h5])
end Go.Proofs.Ytgcncphdjabjjaa.X
