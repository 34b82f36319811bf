import Derived.Test.YtonfmdgklgdgfaaKFnExactPairsUnder2
import Derived.LoopTactic
import Derived.WalkSpells
import Derived.Outline
import Derived.Deep.QuietTactic
import Derived.BigQuiet
import Derived.Below
namespace Go.Proofs.Ytonfmdgklgdgfaa.X
open Go.RowKit Go.Proofs.YtonfmdgklgdgfaaW.PrintWords Go.Proofs.YtonfmdgklgdgfaaW.PrintLast Go.Proofs.YtonfmdgklgdgfaaW.PrintMore
attribute [local go_sem] xbin_geq xbin_leq xbin_gtr max2_int min2_int max_two min_two max_three min_three max_four min_four
set_option linter.unusedVariables false
set_option linter.unusedSimpArgs false
theorem filter_none {α : Type} {p : α → Bool} {l : List α} (h : l.any p = false) : (l.filter fun x => !p x) = l := by
  refine List.filter_eq_self.2 fun x hx => ?_
  have := List.any_eq_false.1 h x hx
  simpa using this
theorem firstAt_some {α : Type} {p : α → Bool} {l : List α} (h : l.any p = true) : ∃ i : Nat, firstAt p l = (i : Int) ∧ ∃ hi : i < l.length, p l[i] = true ∧ ∀ j (hj : j < l.length), j < i → p l[j] = false := by
  refine ⟨l.findIdx p, ?_, ?_⟩
  · unfold firstAt
    rw [if_pos h]
  · have hlt : l.findIdx p < l.length := List.findIdx_lt_length.2 (by simpa using h)
    exact ⟨hlt, List.findIdx_getElem (w := hlt), fun j hj hji => by simpa using List.not_of_lt_findIdx hji⟩
set_option maxHeartbeats 8000000 in
set_option maxRecDepth 100000 in
theorem deleteFunc_Pair (p : S65 → Bool) (gf : Nat) (lb : Array Value) (eg : ∀ args w, (callFunc gf args).run Try.prog w = .ok (.enter gf args) w) (P0_ : Nat → Prop) (u9000_ : Value) (l0 : List S65) (w0 w : World) (hB : Below w0.heap.size w0 w) (ho0 : Kd.R k65 65 w w0.heap.size P0_ u9000_ l0)
    (hp : ∀ (x : S65) (W : World), x ∈ l0 → Kept w W P0_ → Calls Try.prog gf (#[.agg #[.string x.f0, .string x.f1]] ++ lb) W fun e W' => e = .returned (.bool (p x)) ∧ Below W.heap.size W W') :
    Calls Try.prog 72 #[u9000_, .func (.func gf) #[] lb] w fun e w' => ∃ v0_ : Value, e = .returned v0_ ∧ Kd.R k65 65 w' w0.heap.size (fun k_ => (P0_ k_ ∨ w.heap.size ≤ k_)) v0_ (l0.filter fun x => !p x) ∧ Below w0.heap.size w0 w' ∧ Kept w w' (fun k_ => P0_ k_) := by
  have hu := Try.underlying65
  obtain ⟨A0, c0, rfl, hc0, hC⟩ := Kd.R_reads ho0
  have HC := Aside0.mk (indexFunc_Pair p gf lb eg A0 c0 l0 w hC (fun x W hx hW => hp x W hx (Kept.of_below hW _)))
  have HO := Aside0.mk ho0
  have HP := Aside0.mk hp
  have HBB := Aside0.mk hB
  cases ha : l0.any p with
  | false =>
    have h1 : firstAt p l0 = -1 := by unfold firstAt; rw [if_neg (by rw [ha]; decide)]
    rw [h1] at HC
    rw [filter_none ha]
    clear ha h1 ho0 hB hp hC
    go_enter Try.func72, Try.ntmps72
    go_wp2_with fail
    refine HC.out.mono ?_
    rintro e w1 ⟨rfl, hb1⟩
    go_wp2_with fail
    go_ret
    exact ⟨_, rfl, Kd.R_mono (Kd.R_below HO.out hb1) (fun _ hk => .inl hk), below_step HBB.out hb1, Kept.of_below hb1 _⟩
  | true =>
    obtain ⟨i0, hi0, hlt0, hpi, hpn⟩ := firstAt_some ha
    rw [hi0] at HC
    obtain ⟨g, c, hv, _, hgl, cells, hcells⟩ := Kd.R_form ho0 (by omega)
    injection hv with h1 _ h2
    subst h1; subst h2
    obtain ⟨_, hbg, _, hcc, hc63, hok⟩ := R_cap ho0
    obtain ⟨n, hn⟩ : ∃ n, n = l0.length := ⟨_, rfl⟩
    have hz1 : ((i0 : Int) == -1) = false := beq_eq_false_iff_ne.2 (by omega)
    have HF0 := Aside0.mk (show l0.take i0 = (l0.take (i0 + 1)).filter fun x => !p x from by
      rw [List.take_succ_eq_append_getElem hlt0, List.filter_append]
      have : (l0.take i0).filter (fun x => !p x) = l0.take i0 := List.filter_eq_self.2 fun x hx => by
        obtain ⟨j, hj, rfl⟩ := List.mem_take_iff_getElem.1 hx
        simp [hpn j (by omega) (by omega)]
      rw [this]
      simp [hpi])
    clear ha hi0 hpi hpn ho0 hB hp hC hcells cells hc0
    rw [← hn] at hlt0 HC HO hcc ⊢
    have HN := Aside0.mk hn
    clear hn
    go_enter Try.func72, Try.ntmps72
    go_wp2_with fail
    refine HC.out.mono ?_
    rintro e w1 ⟨rfl, hb1⟩
    have HO1 := Aside0.mk (Kd.R_mono (ok' := fun k_ => (P0_ k_ ∨ w.heap.size ≤ k_)) (Kd.R_below HO.out hb1) (fun _ hk => .inl hk))
    have HB1 := Aside0.mk (below_step HBB.out hb1)
    have HK1 := Aside0.mk (Kept.of_below hb1 (fun k_ => P0_ k_))
    clear HO HC hb1
    go_wp2_with fail
    go_loopw [5, 6] (fun v5 v6 wr => ∃ (i j : Nat) (ys : List S65), i < j ∧ j ≤ n ∧ v5 = .int .i64 i ∧ v6 = .int .i64 j ∧ Aside0 (ys.length = n) ∧ Aside0 (ys.take i = (l0.take j).filter fun x => !p x) ∧ Aside0 (ys.drop j = l0.drop j) ∧ Aside0 (Kd.R k65 65 wr w0.heap.size (fun k_ => (P0_ k_ ∨ w.heap.size ≤ k_)) (.slice (some ⟨g, 0, none⟩) n c0) ys) ∧ Aside0 (Below w0.heap.size w0 wr) ∧ Aside0 (Kept w wr (fun k_ => P0_ k_))) (fun _ v6 _ => n - (intOf v6).toNat)
    case atStart => exact ⟨i0, i0 + 1, l0, by omega, by omega, rfl, by go_num, ⟨HN.out.symm⟩, HF0, ⟨rfl⟩, HO1, HB1, HK1⟩
    case round =>
      clear HO1 HB1 HK1 HF0 w1 hz1
      obtain ⟨i, j, ys, hij, hjn, rfl, rfl, HL, HT, HD, HO, HB, HK⟩ := hrel
      by_cases hlt : j < n
      · have c1 : decide ((j : Int) < (n : Int)) = true := decide_eq_true (by omega)
        have hCy := (Kd.R_reads' HO.out).2.2
        obtain ⟨ad1, e1, hx0, hx1⟩ := at_T65 hCy (j : Int) (by omega) (by rw [HL.out]; omega)
        cases e1
        obtain ⟨x, hx⟩ : ∃ x, x = l0[j]'(by rw [← HN.out]; omega) := ⟨_, rfl⟩
        have hjl : j < ys.length := by rw [HL.out]; omega
        have hxy : rd_T65 ys (j : Int) = x := by
          have e2 : ys[j] = l0[j]'(by rw [← HN.out]; omega) := by
            have h0 := congrArg (fun l => l[0]?) HD.out
            simp only [List.getElem?_drop, Nat.add_zero] at h0
            rw [List.getElem?_eq_getElem hjl, List.getElem?_eq_getElem (by rw [← HN.out]; omega)] at h0
            exact Option.some.inj h0
          rw [hx, ← e2]
          unfold rd_T65
          rw [Int.toNat_natCast]
          simp [List.getD_eq_getElem?_getD, hjl]
        rw [hxy, Int.toNat_natCast, add_plain] at hx0 hx1
        have hmem : x ∈ l0 := by rw [hx]; exact List.getElem_mem _
        have hpx := fun W hW => HP.out x W hmem hW
        have HPX := Aside0.mk hpx
        have HX := Aside0.mk hx
        have p1 : 0 ≤ (j : Int) := by omega
        have q1 : (j : Int) < (n : Int) := by omega
        have r0 : 0 ≤ (i : Int) := by omega
        have r1 : (i : Int) < (n : Int) := by omega
        clear hxy hx hmem hpx hCy hjl
        cases hpb : p x with
        | true =>
          have HPB := Aside0.mk hpb
          clear hpb
          go_wp2_with fail
          refine (HPX.out _ (HK.out.alloc _)).mono ?_
          rintro e w2 ⟨rfl, hb2⟩
          rw [HPB.out]
          have HO2 := Aside0.mk (Kd.R_below (Kd.R_alloc HO.out _) hb2)
          have HB2 := Aside0.mk (below_step (below_alloc HB.out _) hb2)
          have HK2 := Aside0.mk (Kept.below (Kept.alloc HK.out _) hb2)
          clear hb2
          go_wp2_with fail
          go_roundw
          case rel => exact ⟨i, j + 1, ys, by omega, by omega, rfl, by go_num, HL, ⟨by
            rw [HT.out, List.take_succ_eq_append_getElem (by rw [← HN.out]; omega), List.filter_append, ← HX.out]
            simp [HPB.out]⟩, ⟨by
            have h0 := congrArg (fun l => l.drop 1) HD.out
            simpa [List.drop_drop] using h0⟩, HO2, HB2, HK2⟩
          case measure => simp [intOf]; omega
        | false =>
          have HPB := Aside0.mk hpb
          clear hpb
          go_wp2_with fail
          refine (HPX.out _ (HK.out.alloc _)).mono ?_
          rintro e w2 ⟨rfl, hb2⟩
          rw [HPB.out]
          have HO2 := Aside0.mk (Kd.R_below (Kd.R_alloc HO.out _) hb2)
          have HB2 := Aside0.mk (below_step (below_alloc HB.out _) hb2)
          have HK2 := Aside0.mk (Kept.below (Kept.alloc HK.out _) hb2)
          have hnb := blk_below (blk_new wr (.cells #[.string x.f0, .string x.f1] 65 (0, 0))) hb2
          have hv0 : w2.cell? ⟨wr.heap.size, 0, none⟩ = some (.string x.f0) := blk_cell hnb 0
          have hv1 : w2.cell? ⟨wr.heap.size, 1, none⟩ = some (.string x.f1) := blk_cell hnb 1
          have hci : i * 2 + 1 < c0 * 2 := by omega
          obtain ⟨ua, ha⟩ := Option.isSome_iff_exists.1 ((R_there HO2.out (i * 2)).1 (by show i * 2 < c0 * 2; omega))
          obtain ⟨ub, hb⟩ := Option.isSome_iff_exists.1 ((R_there HO2.out (i * 2 + 1)).1 (by show i * 2 + 1 < c0 * 2; omega))
          have hfa := (R_there HO2.out (i * 2)).2
          have hfb := (R_there HO2.out (i * 2 + 1)).2
          clear hb2 hnb
          go_wp2_with fail
          refine ⟨⟨i + 1, j + 1, ys.set i x, by omega, by omega, by go_num, by go_num, ⟨by rw [List.length_set]; exact HL.out⟩, ⟨?_⟩, ⟨?_⟩, ⟨?_⟩, ⟨?_⟩, ⟨?_⟩⟩, by simp [intOf]; omega⟩
          · rw [List.take_succ_eq_append_getElem (by rw [List.length_set, HL.out]; omega), List.take_set_of_le (Nat.le_refl _), List.getElem_set_self, HT.out, List.take_succ_eq_append_getElem (by rw [← HN.out]; omega), List.filter_append, ← HX.out]
            simp [HPB.out]
          · rw [List.drop_set_of_lt (by omega)]
            have h0 := congrArg (fun l => l.drop 1) HD.out
            simpa [List.drop_drop] using h0
          · exact R_setel (by decide) HO2.out i (by omega) x [.string x.f0, .string x.f1] (k65_mkM _ _ _ x)
          · exact (HB2.out.setCell (p := ⟨g, i * 2, none⟩) hbg _).setCell (p := ⟨g, i * 2 + 1, none⟩) hbg _
          · exact (HK2.out.setCell (p := ⟨g, i * 2, none⟩) (.inl hok) _).setCell (p := ⟨g, i * 2 + 1, none⟩) (.inl hok) _
      · have he : j = n := by omega
        have c1 : decide ((j : Int) < (n : Int)) = false := decide_eq_false (by omega)
        have hT2 : ys.take i = l0.filter fun x => !p x := by rw [HT.out, he, HN.out, List.take_length]
        have hRt := Kd.R_take (m := i) HO.out (by rw [HL.out]; omega)
        rw [hT2] at hRt
        obtain ⟨w2, hr2, ho2, hg2⟩ := R_clear (P := Try.prog) hRt 37 0 (.agg #[.string ⟨#[]⟩, .string ⟨#[]⟩]) Try.underlying37 Try.zeroValue65 rfl (by decide) (n - i) (c0 - i) (by omega) (by omega)
        have hr3 : ∀ ty, (Builtin.clear_ #[37] ty #[.slice (some ⟨g, i * 2, none⟩) (n - i) (c0 - i)]).run Try.prog wr = .ok (.tuple #[]) w2 := fun ty => hr2
        have HO2 := Aside0.mk ho2
        have HG2 := Aside0.mk hg2
        have q1 : ¬ (c0 = i) := by omega
        have q2 : i ≤ n := by omega
        have q3 : i ≤ c0 := by omega
        have q4 : (i : Int) ≤ (n : Int) := by omega
        have q5 : (i : Int) ≤ (c0 : Int) := by omega
        clear hr2 ho2 hg2 hT2 hRt he
        go_wp2_with fail
        go_ret
        exact ⟨_, rfl, HO2.out, HB.out.grown HG2.out HB.out.size (fun k hk => by injection hk with hk; subst hk; exact hbg), Kept.of_grown HG2.out HK.out (fun k hk => by injection hk with hk; subst hk; exact .inl hok)⟩
end Go.Proofs.Ytonfmdgklgdgfaa.X
namespace Go.Proofs.Ytonfmdgklgdgfaa.X
open Go.RowKit Go.Proofs.YtonfmdgklgdgfaaW.PrintWords Go.Proofs.YtonfmdgklgdgfaaW.PrintLast Go.Proofs.YtonfmdgklgdgfaaW.PrintMore
attribute [local go_sem] xbin_geq xbin_leq xbin_gtr max2_int min2_int max_two min_two max_three min_three max_four min_four
set_option linter.unusedVariables false
set_option linter.unusedSimpArgs false
theorem any_eq_of {α : Type} {l : List α} {f g : α → Bool} (h : ∀ x, x ∈ l → f x = g x) : l.any f = l.any g := by
  induction l with
  | nil => rfl
  | cons a l ih => simp only [List.any_cons]; rw [h a List.mem_cons_self, ih fun x hx => h x (List.mem_cons_of_mem _ hx)]
theorem Ev.list {α β : Type} {l : List α} {g : Nat → α → Option β} {v : α → β} (h : ∀ x, x ∈ l → Ev (fun k => g k x) (v x)) : ∃ K, ∀ k, K ≤ k → ∀ x, x ∈ l → g k x = some (v x) := by
  induction l with
  | nil => exact ⟨0, fun k _ x hx => (by cases hx)⟩
  | cons a l ih =>
    obtain ⟨K1, h1⟩ := ih fun x hx => h x (List.mem_cons_of_mem _ hx)
    obtain ⟨K2, h2⟩ := h a List.mem_cons_self
    refine ⟨K1 + K2, fun k hk x hx => ?_⟩
    rcases List.mem_cons.1 hx with rfl | hx
    · exact h2 k (by omega)
    · exact h1 k (by omega) x hx
theorem Ev.any {α : Type} {l : List α} {g : Nat → α → Option Bool} {v : α → Bool} (h : ∀ x, x ∈ l → Ev (fun k => g k x) (v x)) : Ev (fun k => if (l.all fun x => (g k x).isSome) = true then some (l.any fun x => (g k x).getD false) else none) (l.any v) := by
  obtain ⟨K, hK⟩ := Ev.list h
  refine ⟨K, fun k hk => ?_⟩
  show (if (l.all fun x => (g k x).isSome) = true then some (l.any fun x => (g k x).getD false) else none) = some (l.any v)
  rw [if_pos (List.all_eq_true.2 fun x hx => by rw [hK k hk x hx]; rfl)]
  exact congrArg some (any_eq_of fun x hx => by rw [hK k hk x hx]; rfl)
theorem enters_here {P : Program} {f : FuncId} {fn : Func} {c : Code} (hf : P.funcs[f]? = some fn) (hname : (fn.name == "runtime.NumGoroutine") = false) (hb : fn.body = some c) (args : Array Value) (w : World) : (callFunc f args).run P w = .ok (.enter f args) w := by
  have h1 : fn.name ≠ "runtime.NumGoroutine" := by simpa using hname
  simp [callFunc, hf, h1, hb, mark]
end Go.Proofs.Ytonfmdgklgdgfaa.X
namespace Go.Proofs.Ytonfmdgklgdgfaa.X
open Go.RowKit Go.Proofs.YtonfmdgklgdgfaaW.PrintWords Go.Proofs.YtonfmdgklgdgfaaW.PrintLast Go.Proofs.YtonfmdgklgdgfaaW.PrintMore
attribute [local go_sem] xbin_geq xbin_leq xbin_gtr max2_int min2_int max_two min_two max_three min_three max_four min_four
set_option linter.unusedVariables false
set_option linter.unusedSimpArgs false
structure Later (w : World) where
  val : World
  below : Below w.heap.size w val
instance Later.here (w : World) : Inhabited (Later w) := ⟨⟨w, Below.refl _ _⟩⟩
theorem Later.cell {w : World} (p : Later w) {a : Addr} {v : Value} (h : w.cell? a = some v) : p.val.cell? a = some v := pw_cell_below p.below h
theorem wp_region_later {P : Program} {id : Nat} {Q : Exit → Act → World → Prop} {a : Act} {w : World} {l : List Oper} (hm : P.follows .mixedOrders = true) (hB : Region.lexB .any l.toArray = true)
    (h : wpQuiet P l.toArray (fun w' => ∃ p : Later w.drew, w' = p.val) (fun a' => ∀ w', (∃ p : Later w.drew, w' = p.val) → Q .normal a' w') l a) : (Code.region id l.toArray true).wp P Q a w :=
  wp_region_quiet (C := fun w' => ∃ p : Later w.drew, w' = p.val) hm hB ⟨⟨w.drew, Below.refl _ _⟩, rfl⟩ (by simpa using h)
theorem Calls.later_of {P : Program} {f : FuncId} {args : Array Value} {w : World} {p : Later w} {v : Value}
    (h : Calls P f args p.val fun e w' => e = .returned v ∧ Below p.val.heap.size p.val w') : Calls P f args p.val fun e w'' => e = .returned v ∧ ∃ q : Later w, w'' = q.val :=
  h.mono fun _ _ ⟨he, hb⟩ => ⟨he, ⟨_, below_step p.below hb⟩, rfl⟩
end Go.Proofs.Ytonfmdgklgdgfaa.X
namespace Go.Proofs.Ytonfmdgklgdgfaa.X
open Go.RowKit Go.Proofs.YtonfmdgklgdgfaaW.PrintWords Go.Proofs.YtonfmdgklgdgfaaW.PrintLast Go.Proofs.YtonfmdgklgdgfaaW.PrintMore
attribute [local go_sem] xbin_geq xbin_leq xbin_gtr max2_int min2_int max_two min_two max_three min_three max_four min_four
set_option linter.unusedVariables false
set_option linter.unusedSimpArgs false
def impl_within.f (a0 : Int) (a1 : Int) (a2 : Int) : Option (Bool) := if a0 ≥ a1 then (some (decide (a0 ≤ a2))) else (some false)
set_option maxHeartbeats 8000000 in
set_option maxRecDepth 100000 in
theorem impl_within.calls (a0 : Int) (a1 : Int) (a2 : Int) (r : Bool) (w : World) (h : impl_within.f a0 a1 a2 = some r) :
  Calls Try.prog 49 #[.int .i64 a0, .int .i64 a1, .int .i64 a2] w fun e w' => e = .returned (.bool r) ∧ Drawn0 w w' := by
 have H : (if a0 ≥ a1 then (some (decide (a0 ≤ a2))) else (some false)) = some r := h
 clear h
 by_cases c4 : a0 ≥ a1
 ·rw [if_pos c4] at H
  have c4b0 : decide (a1 ≤ a0) = true := decide_eq_true c4
  clear c4
  obtain rfl := Option.some.inj H
  go_enter Try.func49, Try.ntmps49
  go_wp2
  go_ret
  exact ⟨by first | rfl | (simp; done) | (simp [*]; done), by repeat (first | exact Drawn0.refl _ | apply Drawn0.step)⟩
 ·rw [if_neg c4] at H
  have c4b0 : decide (a1 ≤ a0) = false := decide_eq_false c4
  clear c4
  obtain rfl := Option.some.inj H
  go_enter Try.func49, Try.ntmps49
  go_wp2
  go_ret
  exact ⟨by first | rfl | (simp; done) | (simp [*]; done), by repeat (first | exact Drawn0.refl _ | apply Drawn0.step)⟩
end Go.Proofs.Ytonfmdgklgdgfaa.X
namespace Go.Proofs.Ytonfmdgklgdgfaa.X
open Go.RowKit Go.Proofs.YtonfmdgklgdgfaaW.PrintWords Go.Proofs.YtonfmdgklgdgfaaW.PrintLast Go.Proofs.YtonfmdgklgdgfaaW.PrintMore
attribute [local go_sem] xbin_geq xbin_leq xbin_gtr max2_int min2_int max_two min_two max_three min_three max_four min_four
set_option linter.unusedVariables false
set_option linter.unusedSimpArgs false
def impl_keyOK.f (a0 : ByteArray) : Option (Bool) := (impl_within.f (a0.size : Int) 1 30).bind fun t194 => (some t194)
set_option maxHeartbeats 8000000 in
set_option maxRecDepth 100000 in
theorem impl_keyOK.calls (a0 : ByteArray) (r : Bool) (w : World) (h : impl_keyOK.f a0 = some r) :
  Calls Try.prog 92 #[.string a0] w fun e w' => e = .returned (.bool r) ∧ Drawn0 w w' := by
 have H : ((impl_within.f (a0.size : Int) 1 30).bind fun t194 => (some t194)) = some r := h
 clear h
 replace H := Option.bind_eq_some_iff.mp H
 obtain ⟨t194, A20, H⟩ := H
 replace H : (some t194) = some r := H
 have A2 := Aside0.mk A20
 clear A20
 obtain rfl := Option.some.inj H
 go_enter Try.func92, Try.ntmps92
 go_wp2_with (first | ((with_reducible refine gate_callee (f := 49) rfl ?_); refine goesL_ (some 5) rfl rfl Try.func49 (by kernel_rfl) rfl #[.int .i64 (a0.size : Int), .int .i64 1, .int .i64 30] rfl (by (try simp only [List.map_toArray, List.map_cons, List.map_nil]); first | done | rfl | (simp only [List.length_drop, List.length_take]; rfl)) ?_; (with_reducible refine (impl_within.calls (a0.size : Int) 1 30 t194 _ A2.out).mono ?_); rintro e w' ⟨rfl, ⟨nd, rfl⟩⟩; refine ⟨_, rfl, ?_⟩))
 go_ret
 exact ⟨by first | rfl | (simp; done) | (simp [*]; done), by repeat (first | exact Drawn0.refl _ | apply Drawn0.step)⟩
end Go.Proofs.Ytonfmdgklgdgfaa.X
namespace Go.Proofs.Ytonfmdgklgdgfaa.X
open Go.RowKit Go.Proofs.YtonfmdgklgdgfaaW.PrintWords Go.Proofs.YtonfmdgklgdgfaaW.PrintLast Go.Proofs.YtonfmdgklgdgfaaW.PrintMore
attribute [local go_sem] xbin_geq xbin_leq xbin_gtr max2_int min2_int max_two min_two max_three min_three max_four min_four
set_option linter.unusedVariables false
set_option linter.unusedSimpArgs false
def impl_pairOK.f (a0_0 : ByteArray) (a0_1 : ByteArray) : Option (Bool) := (impl_keyOK.f a0_0).bind fun t196 => (if t196 = true then (some (decide ((a0_1.size : Int) ≤ 90))) else (some false))
set_option maxHeartbeats 8000000 in
set_option maxRecDepth 100000 in
theorem impl_pairOK.calls (a0_0 : ByteArray) (a0_1 : ByteArray) (r : Bool) (w : World) (h : impl_pairOK.f a0_0 a0_1 = some r) :
  Calls Try.prog 84 #[.agg #[.string a0_0, .string a0_1]] w fun e w' => e = .returned (.bool r) ∧ Below w.heap.size w w' := by
 have hu65 := Try.underlying65
 have HB := Aside0.mk (Below.refl w.heap.size w)
 have H : ((impl_keyOK.f a0_0).bind fun t196 => (if t196 = true then (some (decide ((a0_1.size : Int) ≤ 90))) else (some false))) = some r := h
 clear h
 replace H := Option.bind_eq_some_iff.mp H
 obtain ⟨t196, A20, H⟩ := H
 replace H : (if t196 = true then (some (decide ((a0_1.size : Int) ≤ 90))) else (some false)) = some r := H
 have A2 := Aside0.mk A20
 clear A20
 by_cases c3 : t196 = true
 ·subst c3
  have H1 : (some (decide ((a0_1.size : Int) ≤ 90))) = some r := by rw [if_pos rfl] at H; exact H
  clear H
  have H := H1
  clear H1
  obtain rfl := Option.some.inj H
  go_enter Try.func84, Try.ntmps84
  go_wp2_with (first | ((with_reducible refine gate_dst (N := 1) rfl ?_); (try (refine gate_guard (by rfl) ?_; dsimp only)); refine box_event ?hg (N := 1) ?hd (cs := #[.string a0_0, .string a0_1]) (t := 65) ?hr ?_; (case hd => rfl); (case hg => rfl); (case hr => first | (go_simp; done) | (go_simp; rfl)); intro gb195 hg w4 hbox hb; have n0_ := Aside0.mk (below_step (by repeat (first | (with_reducible first | exact HB.out | apply below_alloc | apply pw_below_drewN | apply below_drew1) | exact HB.out)) hb); have n1_ := Aside0.mk (hbox); have n2_ := Aside0.mk ((by rw [hg]; exact (below_size (by repeat (first | (with_reducible first | exact HB.out | apply below_alloc | apply pw_below_drewN | apply below_drew1) | exact HB.out))) : w.heap.size ≤ gb195)); have n3_ := Aside0.mk ((by rw [hg]; exact (below_size (by repeat (first | (with_reducible first | exact HB.out | apply below_alloc | apply pw_below_drewN | apply below_drew1) | exact HB.out))) : w.heap.size ≤ gb195)); clear HB; have HB := n0_; have BK195 := n1_; have GW195 := n2_; have GE195 := n3_; clear n0_ n1_ n2_ n3_; clear hb hbox hg; have hcz5_0 : w4.cell? ⟨gb195, 0, none⟩ = some (.string a0_0) := (blk_cell BK195.out 0).trans rfl; have hcz5_1 : w4.cell? ⟨gb195, 1, none⟩ = some (.string a0_1) := (blk_cell BK195.out 1).trans rfl; have hfz5_0 := blk_frozen BK195.out 0; have hfz5_1 := blk_frozen BK195.out 1) | ((with_reducible refine gate_callee (f := 92) rfl ?_); refine goesL_ (some 5) rfl rfl Try.func92 (by kernel_rfl) rfl #[.string a0_0] rfl (by (try simp only [List.map_toArray, List.map_cons, List.map_nil]); first | done | rfl | (simp only [List.length_drop, List.length_take]; rfl)) ?_; (with_reducible refine (impl_keyOK.calls a0_0 true _ A2.out).mono ?_); rintro e w' ⟨rfl, ⟨nd, rfl⟩⟩; refine ⟨_, rfl, ?_⟩))
  go_ret
  exact ⟨by first | rfl | (simp [errW_none, errW_some] <;> rfl) | (simp [*, errW_none, errW_some] <;> rfl), by repeat (first | (with_reducible first | exact HB.out | apply below_alloc | apply pw_below_drewN | apply below_drew1 | refine below_set ?_ GE195.out) | exact HB.out)⟩
 ·replace c3 := Bool.eq_false_iff.mpr c3
  subst c3
  have H1 : (some false) = some r := by rw [if_neg (show ¬ (false = true) by decide)] at H; exact H
  clear H
  have H := H1
  clear H1
  obtain rfl := Option.some.inj H
  go_enter Try.func84, Try.ntmps84
  go_wp2_with (first | ((with_reducible refine gate_dst (N := 1) rfl ?_); (try (refine gate_guard (by rfl) ?_; dsimp only)); refine box_event ?hg (N := 1) ?hd (cs := #[.string a0_0, .string a0_1]) (t := 65) ?hr ?_; (case hd => rfl); (case hg => rfl); (case hr => first | (go_simp; done) | (go_simp; rfl)); intro gb195 hg w6 hbox hb; have n0_ := Aside0.mk (below_step (by repeat (first | (with_reducible first | exact HB.out | apply below_alloc | apply pw_below_drewN | apply below_drew1) | exact HB.out)) hb); have n1_ := Aside0.mk (hbox); have n2_ := Aside0.mk ((by rw [hg]; exact (below_size (by repeat (first | (with_reducible first | exact HB.out | apply below_alloc | apply pw_below_drewN | apply below_drew1) | exact HB.out))) : w.heap.size ≤ gb195)); have n3_ := Aside0.mk ((by rw [hg]; exact (below_size (by repeat (first | (with_reducible first | exact HB.out | apply below_alloc | apply pw_below_drewN | apply below_drew1) | exact HB.out))) : w.heap.size ≤ gb195)); clear HB; have HB := n0_; have BK195 := n1_; have GW195 := n2_; have GE195 := n3_; clear n0_ n1_ n2_ n3_; clear hb hbox hg; have hcz7_0 : w6.cell? ⟨gb195, 0, none⟩ = some (.string a0_0) := (blk_cell BK195.out 0).trans rfl; have hcz7_1 : w6.cell? ⟨gb195, 1, none⟩ = some (.string a0_1) := (blk_cell BK195.out 1).trans rfl; have hfz7_0 := blk_frozen BK195.out 0; have hfz7_1 := blk_frozen BK195.out 1) | ((with_reducible refine gate_callee (f := 92) rfl ?_); refine goesL_ (some 5) rfl rfl Try.func92 (by kernel_rfl) rfl #[.string a0_0] rfl (by (try simp only [List.map_toArray, List.map_cons, List.map_nil]); first | done | rfl | (simp only [List.length_drop, List.length_take]; rfl)) ?_; (with_reducible refine (impl_keyOK.calls a0_0 false _ A2.out).mono ?_); rintro e w' ⟨rfl, ⟨nd, rfl⟩⟩; refine ⟨_, rfl, ?_⟩))
  go_ret
  exact ⟨by first | rfl | (simp [errW_none, errW_some] <;> rfl) | (simp [*, errW_none, errW_some] <;> rfl), by repeat (first | (with_reducible first | exact HB.out | apply below_alloc | apply pw_below_drewN | apply below_drew1 | refine below_set ?_ GE195.out) | exact HB.out)⟩
end Go.Proofs.Ytonfmdgklgdgfaa.X
