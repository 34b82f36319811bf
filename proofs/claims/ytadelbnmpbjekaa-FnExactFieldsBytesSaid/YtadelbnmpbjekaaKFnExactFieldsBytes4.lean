import Derived.Test.YtadelbnmpbjekaaKFnExactFieldsBytes2
import Derived.Test.YtadelbnmpbjekaaKFnExactFieldsBytes3
import Derived.LoopTactic
import Derived.WalkSpells
import Derived.Lib.ConvBytes
import Derived.BigQuiet
import Derived.Deep.RegionHeld3
namespace Go.Proofs.Ytadelbnmpbjekaa.X
open Go.RowKit Go.Proofs.YtadelbnmpbjekaaW.PrintWords Go.Proofs.YtadelbnmpbjekaaW.PrintLast Go.Proofs.YtadelbnmpbjekaaW.PrintMore
attribute [local go_sem] xbin_geq xbin_leq xbin_gtr max2_int min2_int max_two min_two max_three min_three max_four min_four
set_option linter.unusedVariables false
set_option linter.unusedSimpArgs false
theorem any_eq_of {α : Type} {l : List α} {f g : α → Bool} (h : ∀ x, x ∈ l → f x = g x) : l.any f = l.any g := by
  induction l with
  | nil => rfl
  | cons a l ih => simp only [List.any_cons]; rw [h a List.mem_cons_self, ih fun x hx => h x (List.mem_cons_of_mem _ hx)]
theorem Ev.list {α β : Type} {l : List α} {g : Nat → α → Option β} {v : α → β} (h : ∀ x, x ∈ l → Ev (fun k => g k x) (v x)) : ∃ K, ∀ k, K ≤ k → ∀ x, x ∈ l → g k x = some (v x) := by
  induction l with
  | nil => exact ⟨0, fun k _ x hx => (by cases hx)⟩
  | cons a l ih =>
    obtain ⟨K1, h1⟩ := ih fun x hx => h x (List.mem_cons_of_mem _ hx)
    obtain ⟨K2, h2⟩ := h a List.mem_cons_self
    refine ⟨K1 + K2, fun k hk x hx => ?_⟩
    rcases List.mem_cons.1 hx with rfl | hx
    · exact h2 k (by omega)
    · exact h1 k (by omega) x hx
theorem Ev.any {α : Type} {l : List α} {g : Nat → α → Option Bool} {v : α → Bool} (h : ∀ x, x ∈ l → Ev (fun k => g k x) (v x)) : Ev (fun k => if (l.all fun x => (g k x).isSome) = true then some (l.any fun x => (g k x).getD false) else none) (l.any v) := by
  obtain ⟨K, hK⟩ := Ev.list h
  refine ⟨K, fun k hk => ?_⟩
  show (if (l.all fun x => (g k x).isSome) = true then some (l.any fun x => (g k x).getD false) else none) = some (l.any v)
  rw [if_pos (List.all_eq_true.2 fun x hx => by rw [hK k hk x hx]; rfl)]
  exact congrArg some (any_eq_of fun x hx => by rw [hK k hk x hx]; rfl)
theorem enters_here {P : Program} {f : FuncId} {fn : Func} {c : Code} (hf : P.funcs[f]? = some fn) (hname : (fn.name == "runtime.NumGoroutine") = false) (hb : fn.body = some c) (args : Array Value) (w : World) : (callFunc f args).run P w = .ok (.enter f args) w := by
  have h1 : fn.name ≠ "runtime.NumGoroutine" := by simpa using hname
  simp [callFunc, hf, h1, hb, mark]
end Go.Proofs.Ytadelbnmpbjekaa.X
namespace Go.Proofs.Ytadelbnmpbjekaa.X
open Go.RowKit Go.Proofs.YtadelbnmpbjekaaW.PrintWords Go.Proofs.YtadelbnmpbjekaaW.PrintLast Go.Proofs.YtadelbnmpbjekaaW.PrintMore
attribute [local go_sem] xbin_geq xbin_leq xbin_gtr max2_int min2_int max_two min_two max_three min_three max_four min_four
set_option linter.unusedVariables false
set_option linter.unusedSimpArgs false
def impl_FieldsBytes_1.f (a0 : ByteArray) : Option (Bool) := some (decide ((a0.size : Int) > 300))
set_option maxHeartbeats 8000000 in
set_option maxRecDepth 100000 in
theorem impl_FieldsBytes_1.calls (a0 : ByteArray) (r : Bool) (w : World) (h : impl_FieldsBytes_1.f a0 = some r) :
  Calls Try.prog 15 #[.string a0] w fun e w' => e = .returned (.bool r) ∧ Drawn0 w w' := by
 have H : (some (decide ((a0.size : Int) > 300))) = some r := h
 clear h
 obtain rfl := Option.some.inj H
 go_enter Try.func15, Try.ntmps15
 go_wp2
 go_ret
 exact ⟨by first | rfl | (simp; done) | (simp [*]; done), by repeat (first | exact Drawn0.refl _ | apply Drawn0.step)⟩
end Go.Proofs.Ytadelbnmpbjekaa.X
namespace Go.Proofs.Ytadelbnmpbjekaa.X
open Go.RowKit Go.Proofs.YtadelbnmpbjekaaW.PrintWords Go.Proofs.YtadelbnmpbjekaaW.PrintLast Go.Proofs.YtadelbnmpbjekaaW.PrintMore
attribute [local go_sem] xbin_geq xbin_leq xbin_gtr max2_int min2_int max_two min_two max_three min_three max_four min_four
set_option linter.unusedVariables false
set_option linter.unusedSimpArgs false
def longB (t : ByteArray) : Bool := decide (300 < t.size)
def fieldsR (l : List ByteArray) : List Int × Int := if 4096 < l.length then ([], 2) else if 200 < l.length then ([], 6) else if l.any longB = true then ([], 4) else (bytesOf (fieldsT l), 0)
set_option maxHeartbeats 4000000 in
set_option maxRecDepth 100000 in
theorem implFieldsBytes_at (A0 : Option Addr) (c0 : Nat) (l : List ByteArray) (R : List Int) (code : Int) (w : World) (hr0 : Kd.C Kd.string w A0 l.length l) (hc0 : l.length ≤ c0) (h : fieldsR l = (R, code)) :
    Calls Try.prog 7 #[.slice A0 l.length c0] w fun e w' => ∃ v : Value, e = .returned (.tuple #[v, .int .i64 code]) ∧ BR w' w.heap.size (fun _ => True) v R ∧ Below w.heap.size w w' := by
  have HR := Aside0.mk hr0
  have HH := Aside0.mk h
  clear hr0 h
  by_cases h1 : 4096 < l.length
  · have c1 : decide (4096 < (l.length : Int)) = true := decide_eq_true (by omega)
    have hh := HH.out
    unfold fieldsR at hh
    rw [if_pos h1] at hh
    obtain ⟨rfl, rfl⟩ := Prod.mk.inj hh
    clear hh HH
    go_enter Try.func7, Try.ntmps7
    go_wp2_with fail
    go_ret2
    exact ⟨_, rfl, BR.nil, Below.refl _ _⟩
  · have c1 : decide (4096 < (l.length : Int)) = false := decide_eq_false (by omega)
    by_cases h2 : 200 < l.length
    · have c2 : decide (200 < (l.length : Int)) = true := decide_eq_true (by omega)
      have hh := HH.out
      unfold fieldsR at hh
      rw [if_neg h1, if_pos h2] at hh
      obtain ⟨rfl, rfl⟩ := Prod.mk.inj hh
      clear hh HH
      go_enter Try.func7, Try.ntmps7
      go_wp2_with fail
      go_ret2
      exact ⟨_, rfl, BR.nil, Below.refl _ _⟩
    · have c2 : decide (200 < (l.length : Int)) = false := decide_eq_false (by omega)
      have HC := Aside0.mk (containsFunc_Str longB 15 #[] (enters_here Try.func15 (by kernel_rfl) rfl) A0 c0 l w HR.out fun x W hx _ => by
        refine (impl_FieldsBytes_1.calls x (longB x) W (by unfold impl_FieldsBytes_1.f longB; exact congrArg some (decide_eq_decide.2 (by omega)))).mono ?_
        rintro e W' ⟨rfl, hb⟩
        exact ⟨rfl, by first | exact hb | exact hb.below⟩)
      cases h3 : l.any longB with
      | true =>
        have hh := HH.out
        unfold fieldsR at hh
        rw [if_neg h1, if_neg h2, if_pos h3] at hh
        obtain ⟨rfl, rfl⟩ := Prod.mk.inj hh
        rw [h3] at HC
        clear hh HH
        go_enter Try.func7, Try.ntmps7
        go_wp2_with fail
        refine HC.out.mono ?_
        rintro e w1 ⟨rfl, hb1⟩
        go_wp2_with fail
        go_ret2
        exact ⟨_, rfl, BR.nil, hb1⟩
      | false =>
        have hh := HH.out
        unfold fieldsR at hh
        rw [if_neg h1, if_neg h2, if_neg (by rw [h3]; decide)] at hh
        obtain ⟨rfl, rfl⟩ := Prod.mk.inj hh
        rw [h3] at HC
        have hsm : ∀ t, t ∈ l → t.size ≤ 1000000 := fun t ht => by
          have h4 := List.any_eq_false.1 h3 t ht
          unfold longB at h4
          simp only [decide_eq_true_eq] at h4
          omega
        have hf : impl_fields.f l = some (fieldsT l) := by
          unfold impl_fields.f
          rw [if_pos ⟨by omega, hsm⟩]
        have hsz := fieldsFrom_size l (strOfNums [(l.length : Int) % 256]) hsm
        have hs2 : (fieldsT l).size ≤ 4611686018427387904 := by
          show (fieldsFrom (strOfNums [(l.length : Int) % 256]) l).size ≤ _
          have : (strOfNums [(l.length : Int) % 256]).size = 1 := rfl
          omega
        have HF := Aside0.mk hf
        have HS := Aside0.mk hs2
        have kb := fun W => print_bytes (P := Try.prog) 9 24 5 Try.underlying9 Try.underlying24 Try.underlying5 (fieldsT l) W
        clear hh HH hsm hf hsz hs2
        go_enter Try.func7, Try.ntmps7
        go_wp2_with fail
        refine HC.out.mono ?_
        rintro e w1 ⟨rfl, hb1⟩
        have HB1 := Aside0.mk hb1
        go_wp2_with fail
        refine (impl_fields.calls A0 c0 l _ w1 (Kd.C_below HR.out HB1.out) hc0 HF.out).mono ?_
        rintro e w2 ⟨rfl, hb2⟩
        have HB2 := Aside0.mk (below_step HB1.out hb2)
        go_wp2_with fail
        go_ret2
        exact ⟨_, rfl, BR.lower (BR.of_bytes (fieldsT l) HS.out) HB2.out.size, bytes_below HB2.out HB2.out.size _ _⟩
end Go.Proofs.Ytadelbnmpbjekaa.X
namespace Go.Proofs.Ytadelbnmpbjekaa.X
open Go.RowKit Go.Proofs.YtadelbnmpbjekaaW.PrintWords Go.Proofs.YtadelbnmpbjekaaW.PrintLast Go.Proofs.YtadelbnmpbjekaaW.PrintMore
attribute [local go_sem] xbin_geq xbin_leq xbin_gtr max2_int min2_int max_two min_two max_three min_three max_four min_four
set_option linter.unusedVariables false
set_option linter.unusedSimpArgs false
def spec_l01Number.l0 : Nat → Int → List Int → Int → Option (List Int)
 | 0, _, _, _ => none
 | k + 1, x0, x5, x6 => if x6 ≥ 0 then (if 0 ≤ (IntKind.u64.wrap (wrap64 (8 * x6))) then (if x5.length < 140737488355328 then (spec_l01Number.l0 k x0 (x5 ++ [(shr .i64 x0 (IntKind.u64.wrap (wrap64 (8 * x6)))) % 256]) (wrap64 (x6 - 1))) else (none)) else (none)) else (some x5)
def spec_l01Number.f (k : Nat) (a0 : Int) (a1 : Int) : Option (List Int) := spec_l01Number.l0 k a0 (([] : List Int)) (wrap64 (a1 - 1))
theorem spec_l01Number.mono_l : ∀ k, (∀ y0 y1 y2, LeO (spec_l01Number.l0 k y0 y1 y2) (spec_l01Number.l0 (k + 1) y0 y1 y2))
 | 0 => fun _ _ _ r h => by simp [spec_l01Number.l0] at h
 | k + 1 => by
  have ih0 := spec_l01Number.mono_l k
  ·intro y0 y1 y2
   unfold spec_l01Number.l0
   repeat' first
   | (with_reducible exact ih0 _ _ _)
   | (with_reducible exact LeO.refl _)
   | (with_reducible exact LeO.none _)
   | (with_reducible refine LeO.ite ?_ ?_)
   | (with_reducible refine LeO.bind ?_ (fun _ => ?_))
   | exact ih0 _ _ _
   | exact LeO.none _
   | refine LeO.ite ?_ ?_
   | refine LeO.bind ?_ (fun _ => ?_)
theorem spec_l01Number.mono : ∀ a0 a1 k, LeO (spec_l01Number.f k a0 a1) (spec_l01Number.f (k + 1) a0 a1) := by
 intro a0 a1 k
 have ih0 := spec_l01Number.mono_l k
 unfold spec_l01Number.f
 repeat' first
   | (with_reducible exact ih0 _ _ _)
   | (with_reducible exact LeO.refl _)
   | (with_reducible exact LeO.none _)
   | (with_reducible refine LeO.ite ?_ ?_)
   | (with_reducible refine LeO.bind ?_ (fun _ => ?_))
   | exact ih0 _ _ _
   | exact LeO.none _
   | refine LeO.ite ?_ ?_
   | refine LeO.bind ?_ (fun _ => ?_)
set_option maxHeartbeats 8000000 in
set_option maxRecDepth 100000 in
theorem spec_l01Number.calls (k : Nat) (a0 : Int) (a1 : Int) (r : List Int) (w : World) (h : spec_l01Number.f k a0 a1 = some r) :
  Calls Try.prog 18 #[.int .i64 a0, .int .i64 a1] w fun e w' => ∃ v0_ : Value, e = .returned (v0_) ∧ Kd.R (Kd.int .u8) 5 w' w.heap.size (fun _ => True) v0_ r ∧ Below w.heap.size w w' := by
 have HB := Aside0.mk (Below.refl w.heap.size w)
 have H : (spec_l01Number.l0 k a0 (([] : List Int)) (wrap64 (a1 - 1))) = some r := h
 clear h
 obtain ⟨y102, hy102⟩ : ∃ y_ : List Int, y_ = (([] : List Int)) := ⟨_, rfl⟩
 replace H : (spec_l01Number.l0 k a0 y102 (wrap64 (a1 - 1))) = some r := by first | (rw [hy102]; with_reducible exact H) | (have H2_ := (Option.bind_some _ _).symm.trans H; rw [hy102]; with_reducible exact H2_) | (have H2_ := (Option.bind_some _ _).symm.trans H; with_reducible exact H2_) | with_reducible exact H | (rw [hy102]; exact H) | exact H
 have Ny102 := Aside0.mk hy102
 clear hy102
 have H' := Aside0.mk H
 clear H
 go_enter Try.func18, Try.ntmps18
 go_wp2_with (first | ((with_reducible refine gate_dst (N := 7) rfl ?_); refine Kd.R_lit (Kd.int .u8) _ 5 ?hg (N := 7) ?hd (xs := ([] : List Int)) (inner := []) (ok := fun _ => True) (okp := fun _ => True) ?hr ?hp (fun _ hk => hk) trivial (Below.refl _ _) (Nat.le_refl _) (by simp) ?_; (case hd => rfl); (case hg => rfl); (case hr => first | (go_simp; done) | (go_simp; rfl)); (case hp => exact (Reps.none _ _)); intro v103 w3 ho4 hb hg_ hnew_; clear hg_ hnew_; (first | rw [← Ny102.out] at ho4 | (simp only [Int.reduceToNat] at ho4; rw [← Ny102.out] at ho4)); have n0_ := Aside0.mk (Kd.R_lower ho4 (below_size (by repeat (first | (with_reducible first | exact HB.out | apply below_alloc | apply pw_below_drewN | apply below_drew1) | exact HB.out)))); have n1_ := Aside0.mk (below_step (by repeat (first | (with_reducible first | exact HB.out | apply below_alloc | apply pw_below_drewN | apply below_drew1) | exact HB.out)) hb); clear HB; have HO104 := n0_; have HB := n1_; clear n0_ n1_; clear hb ho4))
 go_loopg [5, 6] k (fun kq v5 v6 w' => ∃ (x5_1 : List Int) (x6_1 : Int), v6 = .int .i64 x6_1 ∧ Aside0 (spec_l01Number.l0 kq a0 x5_1 x6_1 = some r) ∧ Aside0 (kq ≤ k) ∧ Aside0 (Kd.R (Kd.int .u8) 5 w' w.heap.size (fun _ => True) v5 x5_1) ∧ Aside0 (Below w.heap.size w w'))
 case atStart => exact ⟨(y102), (wrap64 (a1 - 1)), (by first | rfl | (simp; done) | (simp [*]; done)), H', ⟨Nat.le_refl _⟩, ⟨by (with_reducible repeat (first | apply Kd.R_alloc | apply Kd.R_drewN | apply Kd.R_drew)); exact HO104.out⟩, ⟨by repeat (first | (with_reducible first | exact HB.out | apply below_alloc | apply pw_below_drewN | apply below_drew1) | exact HB.out)⟩⟩
 case round =>
  clear H'
  try clear c1
  try clear p2
  obtain ⟨x5_1, x6_1, rfl, HA, HK1, HO_5, HB⟩ := hrel
  cases gk with
  | zero => exact absurd HA.out (by simp [spec_l01Number.l0])
  | succ k1 =>
   have H := HA.out
   clear HA
   simp only [spec_l01Number.l0] at H
   by_cases c5 : x6_1 ≥ 0
   ·rw [if_pos c5] at H
    have c5b0 : decide (0 ≤ x6_1) = true := decide_eq_true c5
    clear c5
    obtain ⟨ji6, hji6⟩ : ∃ j_ : Int, (IntKind.u64.wrap (wrap64 (8 * x6_1))) = j_ := ⟨_, rfl⟩
    replace H : (if 0 ≤ (ji6) then (if x5_1.length < 140737488355328 then (spec_l01Number.l0 k1 a0 (x5_1 ++ [(shr .i64 a0 (ji6)) % 256]) (wrap64 (x6_1 - 1))) else (none)) else (none)) = some r := by first | (rw [hji6] at H; exact H) | (simp only [hji6] at H ⊢; exact H)
    by_cases c7 : 0 ≤ (ji6)
    ·rw [if_pos c7] at H
     have c7b0 := eq_true c7
     have c7b1 : decide (0 ≤ (ji6)) = true := decide_eq_true c7
     clear c7
     obtain ⟨ji8, hji8⟩ : ∃ j_ : Int, (shr .i64 a0 (ji6)) = j_ := ⟨_, rfl⟩
     replace H : (if x5_1.length < 140737488355328 then (spec_l01Number.l0 k1 a0 (x5_1 ++ [(ji8) % 256]) (wrap64 (x6_1 - 1))) else (none)) = some r := by first | (rw [hji8] at H; exact H) | (simp only [hji8] at H ⊢; exact H)
     have hji8_ : (a0 / 2 ^ min (ji6).toNat 64) = ji8 := hji8
     have hji8z : (ji6) ≤ 64 → (a0 / 2 ^ (ji6).toNat) = ji8 := shr_small hji8
     by_cases c9 : x5_1.length < 140737488355328
     ·rw [if_pos c9] at H
      have LMc9 := Aside0.mk c9
      clear c9
      obtain ⟨y105, hy105⟩ : ∃ y_ : List Int, y_ = (x5_1 ++ [(ji8) % 256]) := ⟨_, rfl⟩
      replace H : (spec_l01Number.l0 k1 a0 y105 (wrap64 (x6_1 - 1))) = some r := by first | (rw [hy105]; with_reducible exact H) | (have H2_ := (Option.bind_some _ _).symm.trans H; rw [hy105]; with_reducible exact H2_) | (have H2_ := (Option.bind_some _ _).symm.trans H; with_reducible exact H2_) | with_reducible exact H | (rw [hy105]; exact H) | exact H
      have Ny105 := Aside0.mk hy105
      clear hy105
      have H' := Aside0.mk H
      clear H
      go_wp2_with (first | ((with_reducible refine gate_builtin (b := .append) (xs := #[.tmp 14, .tmp 21]) rfl ?_); at_builtin; refine Kd.R_append (Kd.int .u8) (w0 := w) w.heap.size rfl (.tmp 14) (.tmp 21) 24 5 (.int .u8 0) 1 rfl Try.underlying24 info5 rfl (by decide) (by omega) u5 x5_1 ((ji8) % 256) [.int .u8 ((ji8) % 256)] (fun _ => True) (fun _ => False) rfl rfl ?aP (fun _ hk => hk.elim) ?aF ?aO ?aB ?aS ?aL ?_; (case aP => exact rfl); (case aB => exact (by repeat (first | (with_reducible first | exact HB.out | apply below_alloc | apply pw_below_drewN | apply below_drew1) | exact HB.out))); (case aF => exact (fun _ _ => trivial)); (case aO => exact (by (with_reducible repeat (first | apply Kd.R_alloc | apply Kd.R_drewN | apply Kd.R_drew)); exact HO_5.out)); (case aS => exact (below_size (by repeat (first | (with_reducible first | exact HB.out | apply below_alloc | apply pw_below_drewN | apply below_drew1) | exact HB.out)))); (case aL => have := LMc9.out; omega); intro v106 w10 ho hb hg hat; rw [← Ny105.out] at ho; have n0_ := Aside0.mk (hb); have n1_ := Aside0.mk (ho); clear HB; clear HO_5; have HB := n0_; have HO107 := n1_; clear n0_ n1_; clear ho hb hg hat))
      go_roundg k1
      case measure => have := HK1.out; omega
      case rel => exact ⟨(y105), (wrap64 (x6_1 - 1)), (by first | rfl | (simp; done) | (simp [*]; done)), H', ⟨by have := HK1.out; omega⟩, ⟨by (with_reducible repeat (first | apply Kd.R_alloc | apply Kd.R_drewN | apply Kd.R_drew)); exact HO107.out⟩, ⟨by repeat (first | (with_reducible first | exact HB.out | apply below_alloc | apply pw_below_drewN | apply below_drew1) | exact HB.out)⟩⟩
     ·rw [if_neg c9] at H
      exact absurd H (by simp)
    ·rw [if_neg c7] at H
     exact absurd H (by simp)
   ·rw [if_neg c5] at H
    have c5b0 : decide (0 ≤ x6_1) = false := decide_eq_false c5
    clear c5
    obtain rfl := Option.some.inj H
    go_wp2
    go_ret
    exact ⟨_, by first | rfl | (simp [errW_none, errW_some] <;> rfl) | (simp [*, errW_none, errW_some] <;> rfl), by (with_reducible repeat (first | apply Kd.R_alloc | apply Kd.R_drewN | apply Kd.R_drew)); exact HO_5.out, by repeat (first | (with_reducible first | exact HB.out | apply below_alloc | apply pw_below_drewN | apply below_drew1) | exact HB.out)⟩
end Go.Proofs.Ytadelbnmpbjekaa.X
namespace Go.Proofs.Ytadelbnmpbjekaa.X
open Go.RowKit Go.Proofs.YtadelbnmpbjekaaW.PrintWords Go.Proofs.YtadelbnmpbjekaaW.PrintLast Go.Proofs.YtadelbnmpbjekaaW.PrintMore
attribute [local go_sem] xbin_geq xbin_leq xbin_gtr max2_int min2_int max_two min_two max_three min_three max_four min_four
set_option linter.unusedVariables false
set_option linter.unusedSimpArgs false
set_option maxRecDepth 100000
theorem byte_shr8 (n : Int) (h0 : 0 ≤ n) (h1 : n ≤ 1000000) : (shr .i64 n (IntKind.u64.wrap (wrap64 (8 * 1)))) % 256 = n / 256 % 256 ∧ (shr .i64 n (IntKind.u64.wrap (wrap64 (8 * 0)))) % 256 = n % 256 := by
  have e1 : IntKind.u64.wrap (wrap64 (8 * 1)) = 8 := by decide +kernel
  have e2 : IntKind.u64.wrap (wrap64 (8 * 0)) = 0 := by decide +kernel
  rw [e1, e2]
  exact ⟨rfl, congrArg (· % 256) (Int.ediv_one n)⟩
theorem numT_bytes (n : Int) : bytesOf (numT n) = [n / 256 % 256, n % 256] := by
  unfold numT strOfNums bytesOf
  simp
  omega
theorem l01Number_two (n : Int) (h0 : 0 ≤ n) (h1 : n ≤ 1000000) : Ev (fun k => spec_l01Number.f k n 2) (bytesOf (numT n)) := by
  unfold spec_l01Number.f
  obtain ⟨e1, e2⟩ := byte_shr8 n h0 h1
  rw [wrap_id (x := 2 - 1) (by omega) (by omega)]
  refine Ev.succ ?_
  simp only [spec_l01Number.l0]
  refine Ev.pos (by omega) (Ev.pos (by decide +kernel) (Ev.pos (by simp) ?_))
  rw [wrap_id (x := 2 - 1 - 1) (by omega) (by omega)]
  refine Ev.succ ?_
  simp only [spec_l01Number.l0]
  refine Ev.pos (by omega) (Ev.pos (by decide +kernel) (Ev.pos (by simp) ?_))
  rw [wrap_id (x := 2 - 1 - 1 - 1) (by omega) (by omega)]
  refine Ev.succ ?_
  simp only [spec_l01Number.l0]
  refine Ev.neg (by omega) (Ev.is ?_)
  rw [numT_bytes, show (2 - 1 : Int) = 1 from rfl, show (1 - 1 : Int) = 0 from rfl, e1, e2]
  rfl
section
variable {P : Program} {ops : Array Oper} {o : Oper} {a : Act} {Q : Exit → Act → World → Prop} {Kc : Act → World → Prop}
theorem R_append_str_step {w0 W : World} (base : Nat) (hw : Region.wanted o (yielded ops a.tmps) = true) (s x : Operand) (t u e : TypeId)
    (ho : o.op = .call { callee := .builtin .append, args := #[s, x], argTypes := #[t, u] })
    (ht : P.underlying t = some (.slice e)) (hu : P.underlying u = some .string) (hinfo : (P.info? e).map (fun i => (i.zero, i.size, i.bytes)) = some (some (.int .u8 0), 1, 1))
    (v : Value) (xs : List Int) (y : ByteArray) (hs : a.eval s = v) (hx : a.eval x = .string y)
    (HO : (Kd.int .u8).R e W base (fun _ => True) v xs) (HB : Below base w0 W) (hbase : base ≤ W.heap.size) (hl : xs.length + y.size ≤ 140737488355328)
    (h : ∀ v1 w1, (Kd.int .u8).R e w1 base (fun _ => True) v1 (xs ++ bytesOf y) → Below base w0 w1 → W.grownBy w1 v.ownBlock → Kc (a.put o.dst v1) w1) :
    if Region.wanted o (yielded ops a.tmps) = true then Oper.wp P o a W Kc Q else Kc (a.put o.dst undef) W := by
  obtain ⟨i0, hi, hzz⟩ := Option.map_eq_some_iff.1 hinfo
  simp only [Prod.mk.injEq] at hzz
  obtain ⟨hz0, hz1, hz2⟩ := hzz
  have HO2 := Kd.own_of_R HO
  obtain ⟨v1, w1, hr, hown, hg, _⟩ := Lib.run_append_own_string (P := P) W base t u o.type e i0 ht hu hi hz0 hz1 hz2 v xs.length _ HO2 y (by simp only [maxLen]; omega) hl hbase
  have hl2 : (xs ++ bytesOf y).length = xs.length + y.size := by rw [List.length_append, bytesOf_length]
  have hc : encs (Value.int .u8) (xs ++ bytesOf y) = encs (Value.int .u8) xs ++ Lib.strCells y := by
    rw [encs_append]
    congr 1
    simp [encs, bytesOf, Lib.strCells]
  have hR : (Kd.int .u8).R e w1 base (fun _ => True) v1 (xs ++ bytesOf y) := Kd.R_of_own (by rw [hl2, hc]; exact hown) (fun _ _ => trivial)
  have hK := h v1 w1 hR (HB.grown hg hbase (own_base HO2)) hg
  rw [if_pos hw]
  unfold Oper.wp
  simp [execOp, ho, resolve, invoke, builtin, hs, hx, hr, Result.andThen]
  exact hK
end
theorem bytesOf_append (a b : ByteArray) : bytesOf (a ++ b) = bytesOf a ++ bytesOf b := by
  unfold bytesOf
  rw [ByteArray.data_append, Array.toList_append, List.map_append]
def spec_l01Fields.f (l0 : List ByteArray) : Option (List Int) := if l0.length ≤ 1000000 ∧ (∀ t, t ∈ l0 → t.size ≤ 1000000) then some (bytesOf (fieldsT l0)) else none
set_option maxHeartbeats 4000000 in
theorem spec_l01Fields.calls (A0 : Option Addr) (c0 : Nat) (l0 : List ByteArray) (r : List Int) (w : World) (hr0 : Kd.C Kd.string w A0 l0.length l0) (hc0 : l0.length ≤ c0) (h : spec_l01Fields.f l0 = some r) :
    Calls Try.prog 13 #[.slice A0 l0.length c0] w fun e w' => ∃ v0_ : Value, e = .returned (v0_) ∧ Kd.R (Kd.int .u8) 5 w' w.heap.size (fun _ => True) v0_ r ∧ Below w.heap.size w w' := by
  unfold spec_l01Fields.f at h
  by_cases hs : l0.length ≤ 1000000 ∧ (∀ t, t ∈ l0 → t.size ≤ 1000000)
  · rw [if_pos hs] at h
    obtain rfl := Option.some.inj h
    obtain ⟨hs1, hs2⟩ := hs
    have HS := Aside0.mk hs2
    have HR := Aside0.mk hr0
    have HB0 := Aside0.mk (Below.refl w.heap.size w)
    clear hr0 h hs2
    have hb0 : (l0.length : Int) % 256 = (l0.length : Int) % 256 := rfl
    go_enter Try.func13, Try.ntmps13
    go_wp2_with fail
    have hl0 : Kd.R (Kd.int .u8) 5 (w.alloc (.cells #[.int .u8 ((l0.length : Int) % 256)] 5 (0, 0))) w.heap.size (fun _ => True) (.slice (some ⟨w.heap.size, 0, none⟩) 1 1) (bytesOf (fieldsFrom (strOfNums [(l0.length : Int) % 256]) (l0.take 0))) := by
      have e : bytesOf (fieldsFrom (strOfNums [(l0.length : Int) % 256]) (l0.take 0)) = [(l0.length : Int) % 256] := by
        rw [List.take_zero]
        show bytesOf (strOfNums [(l0.length : Int) % 256]) = _
        simp [bytesOf, strOfNums]
        omega
      rw [e]
      exact Kd.R_of_own (own_lit w w.heap.size 5 .u8 [(l0.length : Int) % 256] (Nat.le_refl _) (by simp)) (fun _ _ => trivial)
    have HL0 := Aside0.mk hl0
    clear hl0
    go_loopw [3, 4] (fun v3 v4 wr => ∃ k : Nat, k ≤ l0.length ∧ v4 = .int .i64 k ∧ Aside0 (Kd.R (Kd.int .u8) 5 wr w.heap.size (fun _ => True) v3 (bytesOf (fieldsFrom (strOfNums [(l0.length : Int) % 256]) (l0.take k)))) ∧ Aside0 (Below w.heap.size w wr)) (fun v3 v4 _ => l0.length - (intOf v4).toNat)
    case atStart => exact ⟨0, Nat.zero_le _, rfl, HL0, ⟨(Below.refl _ w).alloc (Nat.le_refl _) _⟩⟩
    case round =>
      clear HB0 HL0
      obtain ⟨k, hk, rfl, HI, HB⟩ := hrel
      have hfs := fieldsFrom_size (l0.take k) (strOfNums [(l0.length : Int) % 256]) fun t ht => HS.out t (List.mem_of_mem_take ht)
      rw [List.length_take] at hfs
      have ha1 : (strOfNums [(l0.length : Int) % 256]).size = 1 := rfl
      rw [ha1] at hfs
      by_cases hlt : k < l0.length
      · have c1 : decide ((k : Int) < (l0.length : Int)) = true := decide_eq_true (by omega)
        have p1 : 0 ≤ (k : Int) := by omega
        have q1 : (k : Int) < (l0.length : Int) := by omega
        obtain ⟨ad, e, hx⟩ := Kd.at_string HR.out (k : Int) p1 q1
        cases e
        have et : rdOf ByteArray.empty l0 (k : Int) = l0[k] := by unfold rdOf; rw [Int.toNat_natCast]; simp [List.getD_eq_getElem?_getD, hlt]
        rw [et, Int.toNat_natCast] at hx
        have htk : l0.take (k + 1) = l0.take k ++ [l0[k]] := List.take_succ_eq_append_getElem hlt
        have hts := HS.out l0[k] (List.getElem_mem hlt)
        clear et
        generalize l0[k] = t at hx htk hts
        obtain ⟨K, hK⟩ := l01Number_two (t.size : Int) (by omega) (by omega)
        have hK2 := Aside0.mk (hK K (Nat.le_refl _))
        clear hK
        have HX := Aside0.mk hx
        replace hx := pw_cell_below HB.out hx
        have HTK := Aside0.mk htk
        have HFS := Aside0.mk hfs
        clear htk hfs
        replace p1 := eq_true p1
        replace q1 := eq_true q1
        go_wp2_with fail
        go_region_held3 (fun w' => w'.cell? (ad.add k) = some (.string t)) (assumption)
          (first
            | (go_at_call 18; refine (spec_l01Number.calls K _ _ _ _ hK2.out).mono ?_; rintro e w2 ⟨v21, rfl, ho2, hb2⟩; have HB2 := (show Aside0 (Below w.heap.size w w2) from by first | exact Aside0.mk (below_step HB.out hb2) | exact Aside0.mk (below_step (below_drew HB.out) hb2)); have HI2 := (by first | exact Aside0.mk (Kd.R_below HI.out hb2) | exact Aside0.mk (Kd.R_below (Kd.R_drew HI.out) hb2)); obtain ⟨A21, c21, rfl, hle21, hC21⟩ := Kd.R_reads ho2; have HC21 := Aside0.mk hC21; have hx2 : w2.cell? (ad.add k) = some (.string t) := pw_cell_below HB2.out HX.out; clear hb2 ho2 hC21; dsimp only)
            | (refine Kd.R_append_rows_step (Kd.int .u8) (w0 := w) w.heap.size (by rfl) (.tmp 15) (.tmp 21) 24 5 (.int .u8 0) 1 (by rfl) Try.underlying24 info5 rfl (by decide) (by decide) _ _ _ _ _ _ (fun _ => True) (fun _ => False) (by rfl) (by rfl) HI2.out HC21.out (fun _ _ h => h) (fun _ h => h.elim) (fun _ _ => trivial) HB2.out HB2.out.size (by have := HFS.out; rw [bytesOf_length, bytesOf_length, numT_size]; omega) ?_; intro v22 w3 ho3 hb3 hg3 hat3; have HB3 := Aside0.mk hb3; have HI3 := Aside0.mk ho3; have hx3 : w3.cell? (ad.add k) = some (.string t) := pw_cell_below HB3.out HX.out; clear hb3 ho3 hg3 hat3)
            | (refine R_append_str_step (w0 := w) w.heap.size (by rfl) (.tmp 22) (.tmp 26) 24 9 5 (by rfl) Try.underlying24 Try.underlying9 info5 _ _ t (by rfl) (by rfl) HI3.out HB3.out HB3.out.size (by have := HFS.out; rw [List.length_append, bytesOf_length, bytesOf_length, numT_size]; omega) ?_; intro v27 w4 ho4 hb4 hg4; have HB4 := Aside0.mk hb4; have HI4 := Aside0.mk ho4; have hx4 : w4.cell? (ad.add k) = some (.string t) := pw_cell_below HB4.out HX.out; clear hb4 ho4 hg4)
            | fail)
        go_wp2_with fail
        refine ⟨⟨k + 1, by omega, rfl, ⟨?_⟩, ⟨HB4.out⟩⟩, by simp [intOf]; omega⟩
        have e : bytesOf (fieldsFrom (strOfNums [(l0.length : Int) % 256]) (l0.take (k + 1))) = bytesOf (fieldsFrom (strOfNums [(l0.length : Int) % 256]) (l0.take k)) ++ bytesOf (numT (t.size : Int)) ++ bytesOf t := by
          rw [HTK.out, fieldsFrom_snoc, bytesOf_append, bytesOf_append, List.append_assoc]
        rw [e]
        exact HI4.out
      · have e : k = l0.length := by omega
        have c1 : decide ((k : Int) < (l0.length : Int)) = false := decide_eq_false (by omega)
        have e9 : l0.take k = l0 := by rw [e, List.take_length]
        rw [e9] at HI
        go_wp2_with fail
        go_ret
        exact ⟨_, rfl, HI.out, HB.out⟩
  · rw [if_neg hs] at h
    cases h
end Go.Proofs.Ytadelbnmpbjekaa.X
