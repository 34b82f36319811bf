import Derived.Test.YtddommgeaoknbaaKFnDisk3
import Derived.Test.YtddommgeaoknbaaKFnDisk5
import Derived.Test.YtddommgeaoknbaaKFnDisk6
import Derived.Test.YtddommgeaoknbaaKFnDisk7
import Derived.Test.YtddommgeaoknbaaKFnDisk8
import Derived.Test.YtddommgeaoknbaaKFnDisk9
import Derived.Test.YtddommgeaoknbaaKFnDisk10
import Derived.Test.YtddommgeaoknbaaKFnDisk11
import Derived.Test.YtddommgeaoknbaaKFnDisk12
import Derived.Test.YtddommgeaoknbaaKFnDisk13
import Derived.Test.YtddommgeaoknbaaKFnDisk14
import Derived.Test.YtddommgeaoknbaaKFnDisk15
import Derived.Test.YtddommgeaoknbaaKFnDisk16
import Derived.Test.YtddommgeaoknbaaKFnDisk17
import Derived.Test.YtddommgeaoknbaaKFnDisk18
import Derived.Test.YtddommgeaoknbaaKFnDisk19
import Derived.Test.YtddommgeaoknbaaKFnDisk20
import Derived.Test.YtddommgeaoknbaaKFnDisk21
import Derived.Test.YtddommgeaoknbaaRows
import Derived.WalkKit
import Derived.ProofKit
import Derived.OpenShut
import Derived.ShutString
import Derived.ChangeOld
import Derived.Below
import Derived.SizedLaws
namespace Go.Proofs.Ytddommgeaoknbaa.X
open Go.RowKit Go.Proofs.YtddommgeaoknbaaW.PrintWords Go.Proofs.YtddommgeaoknbaaW.PrintLast Go.Proofs.YtddommgeaoknbaaW.PrintMore
attribute [local go_sem] xbin_geq xbin_leq xbin_gtr max2_int min2_int max_two min_two max_three min_three max_four min_four
set_option linter.unusedVariables false
set_option linter.unusedSimpArgs false
def inB (x a b : Int) : Bool := decide (a ≤ x) && decide (x ≤ b)
theorem spec_in (x a b : Int) : spec_l01In.f x a b = some (inB x a b) := by
  unfold spec_l01In.f inB
  by_cases h : a ≤ x <;> simp [h]
theorem inB_is {x a b : Int} : inB x a b = true ↔ a ≤ x ∧ x ≤ b := by simp [inB]
theorem rdQ_at (l : List S54) (pre rest : List S54) (x : S54) (h : l = pre ++ x :: rest) : rd_T54 l ((pre.length : Nat) : Int) = x := by
  rw [h]; unfold rd_T54; rw [Int.toNat_natCast]; exact getD_mid pre x rest _
theorem rdS_at (l : List ByteArray) (pre rest : List ByteArray) (x : ByteArray) (h : l = pre ++ x :: rest) : rdOf ByteArray.empty l ((pre.length : Nat) : Int) = x := by
  rw [h]; unfold rdOf; rw [Int.toNat_natCast]; exact getD_mid pre x rest _
theorem spec_diskOK_cache (n : Nat) (hn : 1 ≤ n ∧ n ≤ 80) (s : List ByteArray) (a : Bool) (q : List Int) (rest : List S54) : ∀ pre : List S54, (pre ++ rest).length ≤ 500 → Ev (fun k => spec_DiskOK.l1 k (n : Int) ((pre.length : Nat) : Int) s (pre ++ rest) a q) (rest.all (pendB n)) := by
  induction rest with
  | nil =>
    intro pre hl
    refine Ev.succ ?_
    simp only [spec_DiskOK.l1]
    exact Ev.neg (by simp) (Ev.is rfl)
  | cons x r ih =>
    intro pre hl
    have hx := rdQ_at (pre ++ x :: r) pre r x rfl
    have hlt : ((pre.length : Nat) : Int) < ((pre ++ x :: r).length : Int) := by simp; omega
    have hpl : pre.length < 1000000 := by simp at hl; omega
    have e1 : pre ++ x :: r = (pre ++ [x]) ++ r := by simp
    refine Ev.succ ?_
    simp only [spec_DiskOK.l1, hx, wrap_at (n := pre.length) (by omega), wrap_id (x := (n : Int) - 1) (by omega) (by omega)]
    refine Ev.pos hlt (Ev.pos (by omega) (Ev.bindk (spec_in _ _ _) ?_))
    rw [List.all_cons]
    cases hb : inB x.f0 0 ((n : Int) - 1) with
    | false =>
      have hp : pendB n x = false := by
        unfold pendB
        rw [decide_eq_false (fun h => by have := inB_is.2 h; rw [hb] at this; cases this)]
        rfl
      exact Ev.neg (by simp) (Ev.is (by rw [hp]; rfl))
    | true =>
      have hp : pendB n x = decide (x.f1.size ≤ 420) := by
        unfold pendB
        rw [decide_eq_true (inB_is.1 hb)]
        rfl
      refine Ev.pos rfl ?_
      by_cases h4 : (x.f1.size : Int) > 420
      · exact Ev.pos h4 (Ev.is (by rw [hp, decide_eq_false (by omega)]; rfl))
      · refine Ev.neg h4 ?_
        rw [hp, decide_eq_true (by omega), Bool.true_and, len_snoc pre x]
        have := ih (pre ++ [x]) (by rw [← e1]; exact hl)
        rw [← e1] at this
        exact this
theorem spec_diskOK_sectors (n : Nat) (hn : 1 ≤ n ∧ n ≤ 80) (c : List S54) (hc : c.length ≤ 500) (a : Bool) (q : List Int) (rest : List ByteArray) : ∀ pre : List ByteArray, (pre ++ rest).length = n → Ev (fun k => spec_DiskOK.l0 k (n : Int) ((pre.length : Nat) : Int) (pre ++ rest) c a q) ((rest.all fun t => decide (t.size ≤ 420)) && c.all (pendB n)) := by
  induction rest with
  | nil =>
    intro pre hl
    refine Ev.succ ?_
    simp only [spec_DiskOK.l0]
    simp only [List.append_nil] at hl
    refine Ev.neg (by omega) ?_
    have := spec_diskOK_cache n hn (pre ++ []) a q c [] (by simpa using hc)
    simpa using this
  | cons x r ih =>
    intro pre hl
    have hx := rdS_at (pre ++ x :: r) pre r x rfl
    have hlt : ((pre.length : Nat) : Int) < ((pre ++ x :: r).length : Int) := by simp; omega
    have hpl : pre.length < 1000000 := by simp at hl; omega
    have e1 : pre ++ x :: r = (pre ++ [x]) ++ r := by simp
    refine Ev.succ ?_
    simp only [spec_DiskOK.l0, hx, wrap_at (n := pre.length) (by omega)]
    refine Ev.pos (by rw [← hl]; exact hlt) (Ev.pos (by omega) (Ev.pos hlt ?_))
    rw [List.all_cons]
    by_cases h4 : (x.size : Int) > 420
    · exact Ev.pos h4 (Ev.is (by rw [decide_eq_false (by omega)]; rfl))
    · refine Ev.neg h4 ?_
      rw [decide_eq_true (by omega), Bool.true_and, len_snoc pre x]
      have := ih (pre ++ [x]) (by rw [← e1]; exact hl)
      rw [← e1] at this
      exact this
theorem spec_diskOK (s : List ByteArray) (c : List S54) (a : Bool) (q : List Int) : Ev (fun k => spec_DiskOK.f k s c a q) (diskB s c a q) := by
  have hf : ∀ n : Int, diskB s c a q = false → Ev (fun k => spec_DiskOK.j0 k n true s c a q) (diskB s c a q) := by
    intro n h
    refine Ev.succ ?_
    simp only [spec_DiskOK.j0]
    exact Ev.pos (by trivial) (Ev.is (by rw [h]))
  unfold spec_DiskOK.f
  refine Ev.bindk (spec_in _ _ _) ?_
  cases hb : inB (s.length : Int) 1 80 with
  | false =>
    refine Ev.neg (by simp) (hf _ ?_)
    unfold diskB
    rw [decide_eq_false (fun h => by have := inB_is.2 (show (1 : Int) ≤ (s.length : Int) ∧ (s.length : Int) ≤ 80 by omega); rw [hb] at this; cases this)]
    rfl
  | true =>
    have hn := inB_is.1 hb
    have hn2 : 1 ≤ s.length ∧ s.length ≤ 80 := by omega
    refine Ev.pos rfl ?_
    by_cases h2 : (c.length : Int) > 500
    · refine Ev.pos h2 (hf _ ?_)
      unfold diskB
      rw [decide_eq_false (show ¬ c.length ≤ 500 by omega)]
      simp
    · refine Ev.neg h2 ?_
      by_cases h3 : (q.length : Int) > 500
      · refine Ev.pos h3 (hf _ ?_)
        unfold diskB
        rw [decide_eq_false (show ¬ q.length ≤ 500 by omega)]
        simp
      · refine Ev.neg h3 ?_
        have hgo : (a || decide (q.length = 0)) = true → Ev (fun k => spec_DiskOK.j0 k (s.length : Int) false s c a q) (diskB s c a q) := by
          intro h
          refine Ev.succ ?_
          simp only [spec_DiskOK.j0]
          refine Ev.neg (by simp) ?_
          have := spec_diskOK_sectors s.length hn2 c (by omega) a q s [] rfl
          refine Ev.same (by simpa using this) ?_
          unfold diskB
          rw [decide_eq_true hn2, decide_eq_true (show c.length ≤ 500 by omega), decide_eq_true (show q.length ≤ 500 by omega), h]
          simp
        cases ha : a with
        | true =>
          rw [ha] at hgo
          exact Ev.pos rfl (hgo rfl)
        | false =>
          rw [ha] at hgo
          refine Ev.neg (by simp) ?_
          by_cases h4 : (q.length : Int) > 0
          · rw [decide_eq_true h4]
            rw [ha] at hf
            refine hf _ ?_
            unfold diskB
            rw [Bool.false_or, decide_eq_false (show ¬ q.length = 0 by omega)]
            simp
          · rw [decide_eq_false h4]
            exact hgo (by rw [Bool.false_or, decide_eq_true (show q.length = 0 by omega)])
def crashR (s : List ByteArray) (c : List S54) (a : Bool) (q : List Int) (l : List Int) : List ByteArray × List S54 × Bool × List Int × Int :=
  if 4096 < l.length then ([], [], false, [], 2) else if diskB s c a q = true then (settleL (keepB l) c 0 s, [], false, [], 0) else ([], [], false, [], 1)
def syncR (s : List ByteArray) (c : List S54) (a : Bool) (q : List Int) : List ByteArray × List S54 × Bool × List Int × Bool × Int :=
  if diskB s c a q = true then (if a = true then (settleL (keepB q) c 0 s, [], false, [], false, 0) else (settleL (fun _ => true) c 0 s, [], false, q, true, 0)) else ([], [], false, [], false, 1)
theorem impl_crash (s : List ByteArray) (c : List S54) (a : Bool) (q : List Int) (l : List Int) : Ev (fun _ => impl_DiskCrash.f s c a q l) (crashR s c a q l) := by
  refine Ev.is ?_
  unfold impl_DiskCrash.f crashR
  split
  · rfl
  · split <;> rfl
theorem impl_sync (s : List ByteArray) (c : List S54) (a : Bool) (q : List Int) : Ev (fun _ => impl_DiskSync.f s c a q) (syncR s c a q) := by
  refine Ev.is ?_
  unfold impl_DiskSync.f syncR
  split
  · split <;> rfl
  · rfl
theorem rd_pend {c : List S54} {i : Nat} (h : i < c.length) : rd_T54 c (i : Int) = c[i] := by
  unfold rd_T54
  rw [Int.toNat_natCast]
  simp [List.getD_eq_getElem?_getD, h]
theorem wrap_up {i : Nat} (h : i ≤ 1000000) : wrap64 ((i : Int) + 1) = ((i + 1 : Nat) : Int) := by
  rw [wrap_id (by omega) (by omega)]
  omega
theorem spec_crash_loop (s : List ByteArray) (c : List S54) (a : Bool) (q l : List Int) (c2 : List S54) (a2 : Bool) (q2 : List Int) (hl : c.length ≤ 500) (n : Nat) : ∀ (i : Nat) (ys : List ByteArray), i + n = c.length → ys.length = s.length → (∀ p, p ∈ c → 0 ≤ p.f0 ∧ p.f0 < (s.length : Int)) →
    Ev (fun k => spec_l02Crash.l0 k l (i : Int) s c a q ys c2 a2 q2) (settleL (keepB l) (c.drop i) i ys, [], false, []) := by
  induction n with
  | zero =>
    intro i ys hi hy hin
    refine Ev.succ ?_
    simp only [spec_l02Crash.l0]
    refine Ev.neg (by omega) (Ev.is ?_)
    rw [List.drop_eq_nil_of_le (by omega), settleL]
  | succ n ih =>
    intro i ys hi hy hin
    have hlt : i < c.length := by omega
    have hx := hin c[i] (List.getElem_mem _)
    refine Ev.succ ?_
    simp only [spec_l02Crash.l0]
    rw [List.drop_eq_getElem_cons hlt, settleL, rd_pend hlt, wrap_up (by omega)]
    refine Ev.pos (by omega) ?_
    have hn : keepB l i = false → Ev (fun k => spec_l02Crash.l0 k l ((i + 1 : Nat) : Int) s c a q ys c2 a2 q2) (settleL (keepB l) (c.drop (i + 1)) (i + 1) (if keepB l i = true then ys.set (c[i]).f0.toNat (c[i]).f1 else ys), [], false, []) := by
      intro h
      rw [h, if_neg (by simp)]
      exact ih (i + 1) ys (by omega) hy hin
    by_cases h1 : (i : Int) < (l.length : Int)
    · refine Ev.pos h1 (Ev.pos (by omega) ?_)
      by_cases h2 : rd l (i : Int) = 0
      · exact Ev.pos h2 (hn (by unfold keepB; rw [h2]; simp))
      · refine Ev.neg h2 (Ev.pos hx.1 (Ev.pos (by rw [hy]; exact hx.2) ?_))
        rw [if_pos (by unfold keepB; rw [decide_eq_true h1]; simpa using h2)]
        exact ih (i + 1) _ (by omega) (by rw [List.length_set]; exact hy) hin
    · exact Ev.neg h1 (hn (by unfold keepB; rw [decide_eq_false h1]; rfl))
theorem spec_sync_loop (s : List ByteArray) (c : List S54) (a : Bool) (q : List Int) (c2 : List S54) (a2 : Bool) (q2 : List Int) (hl : c.length ≤ 500) (n : Nat) : ∀ (i : Nat) (ys : List ByteArray), i + n = c.length → ys.length = s.length → (∀ p, p ∈ c → 0 ≤ p.f0 ∧ p.f0 < (s.length : Int)) →
    Ev (fun k => spec_l02Sync.l0 k (i : Int) s c a q ys c2 a2 q2) (settleL (fun _ => true) (c.drop i) i ys, [], a2, q2, true) := by
  induction n with
  | zero =>
    intro i ys hi hy hin
    refine Ev.succ ?_
    simp only [spec_l02Sync.l0]
    refine Ev.neg (by omega) (Ev.is ?_)
    rw [List.drop_eq_nil_of_le (by omega), settleL]
  | succ n ih =>
    intro i ys hi hy hin
    have hlt : i < c.length := by omega
    have hx := hin c[i] (List.getElem_mem _)
    refine Ev.succ ?_
    simp only [spec_l02Sync.l0]
    rw [List.drop_eq_getElem_cons hlt, settleL, rd_pend hlt, wrap_up (by omega), if_pos rfl]
    exact Ev.pos (by omega) (Ev.pos (by omega) (Ev.pos hx.1 (Ev.pos (by rw [hy]; exact hx.2) (ih (i + 1) _ (by omega) (by rw [List.length_set]; exact hy) hin))))
theorem disk_in {s : List ByteArray} {c : List S54} {a : Bool} {q : List Int} (h : diskB s c a q = true) : ∀ p, p ∈ c → 0 ≤ p.f0 ∧ p.f0 < (s.length : Int) := fun p hp => by
  have h1 := List.all_eq_true.1 (diskB_len h).2.2.2 p hp
  unfold pendB at h1
  simp only [Bool.and_eq_true, decide_eq_true_eq] at h1
  omega
theorem spec_crash_f {s : List ByteArray} {c : List S54} {a : Bool} {q : List Int} (l : List Int) (h : diskB s c a q = true) : Ev (fun k => spec_l02Crash.f k s c a q l) (settleL (keepB l) c 0 s, [], false, []) := by
  have hl := diskB_len h
  unfold spec_l02Crash.f
  refine Ev.bindk (spec_own a (by omega) (by omega) (by omega)) ?_
  exact spec_crash_loop s c a q l c a q (by omega) c.length 0 s (by omega) rfl (disk_in h)
theorem spec_crash (s : List ByteArray) (c : List S54) (a : Bool) (q : List Int) (l : List Int) : Ev (fun k => spec_DiskCrash.f k s c a q l) (crashR s c a q l) := by
  unfold spec_DiskCrash.f crashR
  by_cases h1 : (l.length : Int) > 4096
  · exact Ev.pos h1 (Ev.is (by rw [if_pos (by omega)]))
  · refine Ev.neg h1 (Ev.bind (spec_diskOK s c a q) (Ev.same ?_ (if_neg (by omega)).symm))
    cases hd : diskB s c a q with
    | false => exact Ev.neg (by simp) (Ev.is (by simp))
    | true => exact Ev.pos rfl (Ev.bind (spec_crash_f l hd) (Ev.is (by simp)))
theorem byte_is {code : List Int} {n seed : Int} (h : SrcFits code n seed) (hn : n < 1000000000000) : ∃ b sd, spec_l00Src_byte.f code n seed = some (b, n + 1, sd) ∧ 0 ≤ b ∧ b < 256 ∧ SrcFits code (n + 1) sd := by
  obtain ⟨hc, h0, h1, s0, s1⟩ := h
  unfold spec_l00Src_byte.f
  rw [if_pos ⟨hc, h0, h1, s0, s1⟩]
  unfold byteF
  by_cases a : n + 1 ≤ (code.length : Int)
  · rw [if_pos a]
    have hb : 0 ≤ rd code n ∧ rd code n < 256 := by
      have e : rd code n = code[n.toNat]'(by omega) := by unfold rd; simp [List.getD_eq_getElem?_getD, show n.toNat < code.length by omega]
      rw [e]
      exact hc _ (List.getElem_mem _)
    have e1 : Int.tmod (seed * 31 + rd code n + 7) 2147483648 = (seed * 31 + rd code n + 7) % 2147483648 := Int.tmod_eq_emod_of_nonneg (by omega)
    exact ⟨_, _, rfl, hb.1, hb.2, hc, by omega, by omega, by rw [e1]; omega, by rw [e1]; omega⟩
  · rw [if_neg a]
    by_cases b : 3000 < n + 1
    · rw [if_pos b]
      exact ⟨_, _, rfl, by omega, by omega, hc, by omega, by omega, s0, s1⟩
    · rw [if_neg b]
      have e1 : Int.tmod (seed * 1103515245 + 12345) 2147483648 = (seed * 1103515245 + 12345) % 2147483648 := Int.tmod_eq_emod_of_nonneg (by omega)
      have e2 : Int.tdiv (Int.tmod (seed * 1103515245 + 12345) 2147483648) 65536 = (Int.tmod (seed * 1103515245 + 12345) 2147483648) / 65536 := Int.tdiv_eq_ediv_of_nonneg (by rw [e1]; omega)
      have e3 : Int.tmod (Int.tdiv (Int.tmod (seed * 1103515245 + 12345) 2147483648) 65536) 256 = (seed * 1103515245 + 12345) % 2147483648 / 65536 % 256 := by rw [e2, e1]; exact Int.tmod_eq_emod_of_nonneg (by omega)
      exact ⟨_, _, rfl, by rw [e3]; omega, by rw [e3]; omega, hc, by omega, by omega, by rw [e1]; omega, by rw [e1]; omega⟩
theorem next_is {code : List Int} {n seed : Int} (h : SrcFits code n seed) (hn : n < 1000000000000) (m : Int) (hm : m ≤ 256) : ∃ r n' sd, spec_l00Src_next.f code n seed m = some (r, n', sd) ∧ 0 ≤ r ∧ (r = 0 ∨ r < m) ∧ n ≤ n' ∧ n' ≤ n + 1 ∧ SrcFits code n' sd := by
  unfold spec_l00Src_next.f
  by_cases a : m ≤ 1
  · rw [if_pos a]
    exact ⟨_, _, _, rfl, by omega, .inl rfl, by omega, by omega, h⟩
  · rw [if_neg a, if_pos (by omega)]
    obtain ⟨b, sd, e, b0, b1, hf⟩ := byte_is h hn
    rw [e, Option.bind_some, if_neg (by omega)]
    have e1 : Int.tmod b m = b % m := Int.tmod_eq_emod_of_nonneg (by omega)
    exact ⟨Int.tmod b m, n + 1, sd, rfl, by rw [e1]; exact Int.emod_nonneg _ (by omega), .inr (by rw [e1]; exact Int.emod_lt_of_pos _ (by omega)), by omega, by omega, hf⟩
theorem src_start {code : List Int} (h : ∀ c, c ∈ code → 0 ≤ c ∧ c < 256) : spec_l00Source.f code = some (code, 0, (code.length : Int) % 1000) ∧ SrcFits code 0 ((code.length : Int) % 1000) := ⟨rfl, h, by omega, by omega, by omega, by omega⟩
theorem chance_is {code : List Int} {n seed : Int} (h : SrcFits code n seed) (hn : n < 1000000000000) (m : Int) (hm : m ≤ 256) : ∃ b n' sd, spec_l00Src_chance.f code n seed m = some (b, n', sd) ∧ n ≤ n' ∧ n' ≤ n + 1 ∧ SrcFits code n' sd := by
  unfold spec_l00Src_chance.f
  obtain ⟨r, n', sd, e, _, _, h1, h2, hf⟩ := next_is h hn m hm
  rw [e, Option.bind_some]
  exact ⟨_, _, _, rfl, h1, h2, hf⟩
theorem pick_is {code : List Int} {n seed : Int} (h : SrcFits code n seed) (hn : n < 1000000000000) (l : List ByteArray) (hl : 0 < l.length ∧ l.length ≤ 256) : ∃ t n' sd, spec_l00Src_pick.f code n seed l = some (t, n', sd) ∧ t ∈ l ∧ n ≤ n' ∧ n' ≤ n + 1 ∧ SrcFits code n' sd := by
  unfold spec_l00Src_pick.f
  obtain ⟨r, n', sd, e, r0, r1, h1, h2, hf⟩ := next_is h hn (l.length : Int) (by omega)
  rw [if_neg (by omega), e, Option.bind_some, if_pos r0, if_pos (show r < (l.length : Int) by omega)]
  refine ⟨_, _, _, rfl, ?_, h1, h2, hf⟩
  have e2 : rdOf ByteArray.empty l r = l[r.toNat]'(by omega) := by unfold rdOf; simp [List.getD_eq_getElem?_getD, show r.toNat < l.length by omega]
  show rdOf ByteArray.empty l r ∈ l
  rw [e2]
  exact List.getElem_mem _
theorem keeps_loop (code : List Int) : ∀ (i : Nat) (out : List Int) (n seed : Int), SrcFits code n seed → n + i < 1000000000000 → out.length + i ≤ 100 → ∃ l n' sd, Ev (fun k => spec_l00Src_keeps.l0 k out (i : Int) code n seed) (l, n', sd) ∧ l.length = out.length + i ∧ n ≤ n' ∧ n' ≤ n + i ∧ SrcFits code n' sd := by
  intro i
  induction i with
  | zero =>
    intro out n seed h hn hl
    refine ⟨out, n, seed, Ev.succ ?_, by omega, by omega, by omega, h⟩
    simp only [spec_l00Src_keeps.l0]
    exact Ev.neg (by omega) (Ev.is rfl)
  | succ i ih =>
    intro out n seed h hn hl
    obtain ⟨r, n1, s1, e, _, _, h1, h2, hf⟩ := next_is h (by omega) 2 (by omega)
    obtain ⟨l, n', sd, hE, hl2, h3, h4, hf2⟩ := ih (out ++ [r]) n1 s1 hf (by omega) (by simp; omega)
    refine ⟨l, n', sd, Ev.succ ?_, by rw [hl2]; simp; omega, by omega, by omega, hf2⟩
    simp only [spec_l00Src_keeps.l0]
    refine Ev.pos (by omega) ?_
    rw [e]
    refine Ev.bindk rfl (Ev.pos (by omega) ?_)
    rw [show wrap64 (((i + 1 : Nat) : Int) - 1) = (i : Int) from by unfold wrap64; omega]
    exact hE
theorem keeps_is {code : List Int} {n seed : Int} (h : SrcFits code n seed) (hn : n + 20 < 1000000000000) : ∃ l n' sd, Ev (fun k => spec_l00Src_keeps.f k code n seed) (l, n', sd) ∧ l.length ≤ 11 ∧ n ≤ n' ∧ n' ≤ n + 12 ∧ SrcFits code n' sd := by
  obtain ⟨r, n1, s1, e, r0, r1, h1, h2, hf⟩ := next_is h (by omega) 12 (by omega)
  obtain ⟨i, rfl⟩ : ∃ i : Nat, r = (i : Int) := ⟨r.toNat, by omega⟩
  obtain ⟨l, n', sd, hE, hl2, h3, h4, hf2⟩ := keeps_loop code i [] n1 s1 hf (by omega) (by simp; omega)
  refine ⟨l, n', sd, ?_, by rw [hl2]; simp; omega, by omega, by omega, hf2⟩
  unfold spec_l00Src_keeps.f
  rw [e]
  exact Ev.bindk rfl hE
theorem keepsOf_is {code : List Int} (h : ∀ c, c ∈ code → 0 ≤ c ∧ c < 256) : ∃ l, l.length ≤ 11 ∧ Ev (fun k => spec_KeepsOf.f k code) l := by
  obtain ⟨e, hf⟩ := src_start h
  obtain ⟨l, n', sd, hE, hl, _⟩ := keeps_is hf (by omega)
  refine ⟨l, hl, ?_⟩
  unfold spec_KeepsOf.f
  rw [e]
  exact Ev.bindk rfl (Ev.bind hE (Ev.is rfl))
theorem settle_size (st : Nat → Bool) (c : List S54) : ∀ (i : Nat) (s : List ByteArray), (∀ t, t ∈ s → t.size ≤ 420) → (∀ p, p ∈ c → p.f1.size ≤ 420) → ∀ t, t ∈ settleL st c i s → t.size ≤ 420 := by
  induction c with
  | nil => intro i s hs _ t ht; exact hs t (by simpa [settleL] using ht)
  | cons p c ih =>
    intro i s hs hc t ht
    rw [settleL] at ht
    refine ih (i + 1) _ ?_ (fun q hq => hc q (List.mem_cons_of_mem _ hq)) t ht
    intro t ht
    split at ht
    · rcases List.mem_or_eq_of_mem_set ht with h | h
      · exact hs t h
      · rw [h]; exact hc p List.mem_cons_self
    · exact hs t ht
theorem diskB_parts {s : List ByteArray} {c : List S54} {a : Bool} {q : List Int} : diskB s c a q = true ↔ ((1 ≤ s.length ∧ s.length ≤ 80) ∧ c.length ≤ 500 ∧ q.length ≤ 500 ∧ (a = true ∨ q.length = 0) ∧ (∀ t, t ∈ s → t.size ≤ 420) ∧ ∀ p, p ∈ c → pendB s.length p = true) := by
  unfold diskB
  simp only [Bool.and_eq_true, decide_eq_true_eq, List.all_eq_true, Bool.or_eq_true]
theorem settle_disk {s : List ByteArray} {c : List S54} {a a' : Bool} {q q' : List Int} (st : Nat → Bool) (h : diskB s c a q = true) (hq : q'.length ≤ 500) (ha : a' = true ∨ q'.length = 0) : diskB (settleL st c 0 s) [] a' q' = true := by
  obtain ⟨h1, h2, h3, h4, h5, h6⟩ := diskB_parts.1 h
  refine diskB_parts.2 ⟨by rw [settleL_len]; exact h1, by simp, hq, ha, settle_size st c 0 s h5 (fun p hp => ?_), fun p hp => (by cases hp)⟩
  have := h6 p hp
  unfold pendB at this
  simp only [Bool.and_eq_true, decide_eq_true_eq] at this
  exact this.2
theorem sync_draw {s : List ByteArray} {c : List S54} {a : Bool} {q : List Int} (h : diskB s c a q = true) : ∃ s' q' a' b, Ev (fun k => spec_l02Sync.f k s c a q) (s', [], a', q', b) ∧ diskB s' [] a' q' = true := by
  have hl := diskB_len h
  cases a with
  | true =>
    refine ⟨settleL (keepB q) c 0 s, [], false, false, ?_, settle_disk _ h (by simp) (.inr rfl)⟩
    unfold spec_l02Sync.f
    exact Ev.pos rfl (Ev.bind (spec_crash_f q h) (Ev.is rfl))
  | false =>
    refine ⟨settleL (fun _ => true) c 0 s, q, false, true, ?_, settle_disk _ h hl.2.2.1 (by have := (diskB_parts.1 h).2.2.2.1; exact this)⟩
    unfold spec_l02Sync.f
    exact Ev.neg (by simp) (Ev.bindk (spec_own false (by omega) (by omega) (by omega)) (spec_sync_loop s c false q c false q (by omega) c.length 0 s (by omega) rfl (disk_in h)))
theorem write_draw {s : List ByteArray} {c : List S54} {a : Bool} {q : List Int} {k : Int} {t : ByteArray} (h : diskB s c a q = true) (hc : c.length < 500) (hk : 0 ≤ k ∧ k < (s.length : Int)) (ht : t.size ≤ 420) : spec_l02Write.f s c a q k t = some (s, c ++ [⟨k, t⟩], a, q) ∧ diskB s (c ++ [⟨k, t⟩]) a q = true := by
  obtain ⟨h1, h2, h3, h4, h5, h6⟩ := diskB_parts.1 h
  refine ⟨?_, diskB_parts.2 ⟨h1, by simp; omega, h3, h4, h5, fun p hp => ?_⟩⟩
  · unfold spec_l02Write.f
    rw [Option.bind_some, if_pos (by simp; omega), Option.bind_some, if_pos (by simp; omega)]
    simp
  · rcases List.mem_append.1 hp with hp | hp
    · exact h6 p hp
    · rw [List.mem_singleton.1 hp]
      unfold pendB
      simp only [Bool.and_eq_true, decide_eq_true_eq]
      omega
theorem arm_draw {s : List ByteArray} {c : List S54} {a : Bool} {q l : List Int} (h : diskB s c a q = true) (hl : l.length ≤ 500) : spec_l02Arm.f s c a q l = some (s, c, true, l) ∧ diskB s c true l = true := by
  obtain ⟨h1, h2, h3, h4, h5, h6⟩ := diskB_parts.1 h
  refine ⟨?_, diskB_parts.2 ⟨h1, h2, hl, .inl rfl, h5, h6⟩⟩
  unfold spec_l02Arm.f
  rw [spec_own a (by omega) (by omega) (by omega), Option.bind_some, Option.bind_some, if_pos (by simp; omega)]
  rfl
theorem disk_loop (code : List Int) : ∀ (i : Nat) (n seed : Int) (s : List ByteArray) (c : List S54) (a : Bool) (q : List Int), SrcFits code n seed → n + 100 * i < 1000000000000 → diskB s c a q = true → c.length + i ≤ 8 →
    ∃ s' c' a' q' n' sd, Ev (fun k => spec_l00Src_disk.l0 k (i : Int) code n seed s c a q) (s', c', a', q', n', sd) ∧ diskB s' c' a' q' = true ∧ c'.length ≤ 8 := by
  intro i
  induction i with
  | zero =>
    intro n seed s c a q hf hn hd hc
    have hl := diskB_len hd
    refine ⟨s, c, a, q, n, seed, Ev.succ ?_, hd, by omega⟩
    simp only [spec_l00Src_disk.l0]
    exact Ev.neg (by omega) (Ev.bindk (spec_own a (by omega) (by omega) (by omega)) (Ev.is rfl))
  | succ i ih =>
    intro n seed s c a q hf hn hd hc
    have hl := diskB_len hd
    have hw : wrap64 (((i + 1 : Nat) : Int) - 1) = (i : Int) := by unfold wrap64; omega
    obtain ⟨r, n1, s1, e, r0, r1, h1, h2, hf1⟩ := next_is hf (by omega) 5 (by omega)
    by_cases c0 : r = 0
    · obtain ⟨s', q', a', b, hS, hd'⟩ := sync_draw hd
      obtain ⟨x, y, z, t, u, v, hE, hD, hL⟩ := ih n1 s1 s' [] a' q' hf1 (by omega) hd' (by simp; omega)
      refine ⟨x, y, z, t, u, v, Ev.succ ?_, hD, hL⟩
      simp only [spec_l00Src_disk.l0]
      refine Ev.pos (by omega) ?_
      rw [e]
      refine Ev.bindk rfl (Ev.pos c0 (Ev.bind hS ?_))
      rw [hw]
      exact hE
    · by_cases c1 : r = 1
      · obtain ⟨b, n2, s2, e2, h3, h4, hf2⟩ := chance_is hf1 (by omega) 4 (by omega)
        cases hb : b with
        | true =>
          obtain ⟨l, n3, s3, hK, hl3, h5, h6, hf3⟩ := keeps_is hf2 (by omega)
          obtain ⟨eA, hd'⟩ := arm_draw (l := l) hd (by omega)
          obtain ⟨x, y, z, t, u, v, hE, hD, hL⟩ := ih n3 s3 s c true l hf3 (by omega) hd' (by omega)
          refine ⟨x, y, z, t, u, v, Ev.succ ?_, hD, hL⟩
          simp only [spec_l00Src_disk.l0]
          refine Ev.pos (by omega) ?_
          rw [e]
          refine Ev.bindk rfl (Ev.neg c0 (Ev.pos c1 ?_))
          simp only []
          rw [e2]
          refine Ev.bindk rfl (Ev.pos hb (Ev.bind hK ?_))
          simp only []
          rw [eA, hw]
          exact Ev.bindk rfl hE
        | false =>
          obtain ⟨x, y, z, t, u, v, hE, hD, hL⟩ := ih n2 s2 s c a q hf2 (by omega) hd (by omega)
          refine ⟨x, y, z, t, u, v, Ev.succ ?_, hD, hL⟩
          simp only [spec_l00Src_disk.l0]
          refine Ev.pos (by omega) ?_
          rw [e]
          refine Ev.bindk rfl (Ev.neg c0 (Ev.pos c1 ?_))
          simp only []
          rw [e2]
          refine Ev.bindk rfl (Ev.neg (by simp [hb]) ?_)
          rw [hw]
          exact hE
      · obtain ⟨k, n2, s2, e2, k0, k1, h3, h4, hf2⟩ := next_is hf1 (by omega) (s.length : Int) (by omega)
        obtain ⟨t0, n3, s3, e3, ht, h5, h6, hf3⟩ := pick_is hf2 (by omega) [(⟨#[]⟩ : ByteArray), (⟨#[111, 110, 101]⟩ : ByteArray), (⟨#[116, 119, 111]⟩ : ByteArray)] (by simp)
        have hts : t0.size ≤ 420 := by
          simp only [List.mem_cons, List.not_mem_nil, or_false] at ht
          rcases ht with rfl | rfl | rfl <;> simp [ByteArray.size]
        obtain ⟨eW, hd'⟩ := write_draw (k := k) (t := t0) hd (by omega) ⟨k0, by omega⟩ hts
        obtain ⟨x, y, z, t, u, v, hE, hD, hL⟩ := ih n3 s3 s (c ++ [⟨k, t0⟩]) a q hf3 (by omega) hd' (by simp; omega)
        refine ⟨x, y, z, t, u, v, Ev.succ ?_, hD, hL⟩
        simp only [spec_l00Src_disk.l0]
        refine Ev.pos (by omega) ?_
        rw [e]
        refine Ev.bindk rfl (Ev.neg c0 (Ev.neg c1 ?_))
        simp only []
        rw [e2]
        refine Ev.bindk rfl ?_
        simp only []
        rw [e3]
        refine Ev.bindk rfl ?_
        simp only []
        rw [eW, hw]
        exact Ev.bindk rfl hE
theorem diskOf_is {code : List Int} (h : ∀ c, c ∈ code → 0 ≤ c ∧ c < 256) : ∃ s c a q, diskB s c a q = true ∧ c.length ≤ 8 ∧ Ev (fun k => spec_DiskOf.f k code) (s, c, a, q) := by
  obtain ⟨e, hf⟩ := src_start h
  obtain ⟨r, n1, s1, e1, r0, r1, h1, h2, hf1⟩ := next_is hf (by omega) 9 (by omega)
  obtain ⟨i, n2, s2, e2, i0, i1, h3, h4, hf2⟩ := next_is hf1 (by omega) 8 (by omega)
  obtain ⟨j, rfl⟩ : ∃ j : Nat, i = (j : Int) := ⟨i.toNat, by omega⟩
  have hw : wrap64 (1 + r) = 1 + r := by unfold wrap64; omega
  have hnew : diskB (List.replicate (1 + r).toNat (⟨#[]⟩ : ByteArray)) [] false [] = true := diskB_parts.2 ⟨by simp; omega, by simp, by simp, .inr rfl, fun t ht => by rw [(List.mem_replicate.1 ht).2]; simp [ByteArray.size], fun p hp => (by cases hp)⟩
  obtain ⟨x, y, z, t, u, v, hE, hD, hL⟩ := disk_loop code j n2 s2 (List.replicate (1 + r).toNat (⟨#[]⟩ : ByteArray)) [] false [] hf2 (by omega) hnew (by simp; omega)
  refine ⟨x, y, z, t, hD, hL, ?_⟩
  unfold spec_DiskOf.f
  rw [e]
  refine Ev.bindk rfl (Ev.bind (a := (x, y, z, t, u, v)) ?_ (Ev.is rfl))
  unfold spec_l00Src_disk.f
  rw [e1]
  refine Ev.bindk rfl ?_
  simp only []
  rw [hw]
  refine Ev.bindk (a := (List.replicate (1 + r).toNat (⟨#[]⟩ : ByteArray), [], false, [])) (by unfold spec_l02New.f; rw [if_pos (by omega), if_pos (by omega)]) ?_
  simp only []
  rw [e2]
  exact Ev.bindk rfl hE
theorem readV_cons (s : List ByteArray) (p : S54) (c : List S54) (n : Int) (hp : 0 ≤ p.f0 ∧ p.f0 < (s.length : Int)) (hn : 0 ≤ n ∧ n < (s.length : Int)) : readV s (p :: c) n = readV (s.set p.f0.toNat p.f1) c n := by
  unfold readV
  rw [List.reverse_cons, List.find?_append]
  cases hf : c.reverse.find? (fun p => decide (p.f0 = n)) with
  | some x => simp
  | none =>
    simp only [Option.none_or]
    by_cases h : p.f0 = n
    · simp only [List.find?_cons, List.find?_nil, decide_eq_true h]
      unfold rdOf
      rw [← h]
      simp [List.getD_eq_getElem?_getD, show p.f0.toNat < s.length by omega]
    · simp only [List.find?_cons, List.find?_nil, decide_eq_false h]
      unfold rdOf
      have : p.f0.toNat ≠ n.toNat := by omega
      simp [List.getD_eq_getElem?_getD, List.getElem?_set_ne this]
theorem readV_settle (c : List S54) : ∀ (i : Nat) (s : List ByteArray) (n : Int), (∀ p, p ∈ c → 0 ≤ p.f0 ∧ p.f0 < (s.length : Int)) → 0 ≤ n ∧ n < (s.length : Int) → readV (settleL (fun _ => true) c i s) [] n = readV s c n := by
  induction c with
  | nil => intro i s n _ _; simp [settleL]
  | cons p c ih =>
    intro i s n hp hn
    rw [settleL, if_pos rfl, readV_cons s p c n (hp p List.mem_cons_self) hn]
    exact ih (i + 1) _ n (fun q hq => by rw [List.length_set]; exact hp q (List.mem_cons_of_mem _ hq)) (by rw [List.length_set]; exact hn)
theorem belowL_some {l : List Int} {n k : Nat} (hk : k < n) (h : (k : Int) ∈ l) : belowL l n ≠ [] := by
  intro e
  have : (k : Int) ∈ belowL l n := by
    unfold belowL
    exact List.mem_map.2 ⟨k, List.mem_filter.2 ⟨List.mem_range.2 hk, by simpa using h⟩, rfl⟩
  rw [e] at this
  cases this
def freshT : ByteArray := ⟨#[102, 114, 101, 115, 104]⟩
theorem at_is {l : List Int} (h : ∀ c, c ∈ l → 0 ≤ c ∧ c < 256) (hl : l.length ≤ 1048576) (m : Int) (hm : 1 ≤ m) : ∃ k, laws_at.f l 0 m = some k ∧ 0 ≤ k ∧ k < m := by
  unfold laws_at.f
  by_cases h1 : m ≤ 1
  · rw [if_pos h1]; exact ⟨0, rfl, by omega, by omega⟩
  rw [if_neg h1]
  by_cases h2 : (l.length : Int) = 0
  · rw [if_pos h2, if_neg (by omega)]
    refine ⟨_, rfl, ?_⟩
    have e : wrap64 (0 * 7) = 0 := by unfold wrap64; omega
    rw [e]
    simp
    omega
  rw [if_neg h2]
  have e0 : Int.tmod 0 (l.length : Int) = 0 := by simp
  have e1 : wrap64 (0 + 1) = 1 := by unfold wrap64; omega
  have e2 : Int.tmod 1 (l.length : Int) = 1 % (l.length : Int) := Int.tmod_eq_emod_of_nonneg (by omega)
  have r2 : 0 ≤ 1 % (l.length : Int) ∧ 1 % (l.length : Int) < (l.length : Int) := ⟨Int.emod_nonneg _ h2, Int.emod_lt_of_pos _ (by omega)⟩
  have e3 : Int.tdiv 0 (l.length : Int) = 0 := by simp
  rw [e0, e1, e2, if_pos (by omega), if_pos (by omega), if_pos r2.1, if_pos r2.2, if_neg (by omega), e3]
  have b : ∀ i : Int, 0 ≤ i → i < (l.length : Int) → 0 ≤ rd l i ∧ rd l i < 256 := fun i h0 h1 => by
    have e : rd l i = l[i.toNat]'(by omega) := by unfold rd; simp [List.getD_eq_getElem?_getD, show i.toNat < l.length by omega]
    rw [e]
    exact h _ (List.getElem_mem _)
  have b0 := b 0 (by omega) (by omega)
  have b1 := b (1 % (l.length : Int)) r2.1 r2.2
  generalize rd l 0 = x at *
  generalize rd l (1 % (l.length : Int)) = y at *
  have e4 : wrap64 (wrap64 (wrap64 (wrap64 x * 31) + wrap64 y) + wrap64 0) = x * 31 + y := by
    unfold wrap64
    omega
  rw [e4]
  have e5 : Int.tmod (x * 31 + y) m = (x * 31 + y) % m := Int.tmod_eq_emod_of_nonneg (by omega)
  exact ⟨_, rfl, by rw [e5]; exact Int.emod_nonneg _ (by omega), by rw [e5]; exact Int.emod_lt_of_pos _ (by omega)⟩
theorem rd_pendP {c : List S54} {i : Nat} (h : i < c.length) : rd_T54 c (i : Int) = c[i] := by
  unfold rd_T54
  rw [Int.toNat_natCast, List.getD_eq_getElem?_getD, List.getElem?_eq_getElem h]
  rfl
def pendR (s : List ByteArray) (c : List S54) (a : Bool) (q : List Int) : List Int × Int :=
  if diskB s c a q = true then (belowL (c.map (·.f0)) s.length, 0) else ([], 1)
theorem wrap_upP (i : Nat) (h : i < 1000000) : wrap64 ((i : Int) + 1) = ((i + 1 : Nat) : Int) := by unfold wrap64; omega
theorem diskB_is {s : List ByteArray} {c : List S54} {a : Bool} {q : List Int} (h : diskB s c a q = true) : s.length ≤ 80 ∧ c.length ≤ 500 ∧ ∀ p ∈ c, 0 ≤ p.f0 ∧ p.f0 < (s.length : Int) := by
  unfold diskB at h
  simp only [Bool.and_eq_true, decide_eq_true_eq, List.all_eq_true] at h
  refine ⟨h.1.2, h.2.1, fun p hp => ?_⟩
  have h3 := h.2.2.2.2.2 p hp
  unfold pendB at h3
  simp only [Bool.and_eq_true, decide_eq_true_eq] at h3
  omega
theorem impl_pend_loop (c : List S54) (n : Nat) (hc : c.length ≤ 500) (hp : ∀ p ∈ c, 0 ≤ p.f0 ∧ p.f0 < (n : Int)) : ∀ d i : Nat, i + d = c.length → Ev (fun k => impl_DiskPending.l0 k ((c.take i).map (·.f0)) c (c.length : Int) (i : Int)) (belowL (c.map (·.f0)) n, 0) := by
  intro d
  induction d with
  | zero =>
    intro i hi
    refine Ev.succ ?_
    simp only [impl_DiskPending.l0]
    refine Ev.neg (by omega) ?_
    rw [show i = c.length by omega, List.take_length]
    refine Ev.is ?_
    have hs : slices_Sort_int_int.f (c.map (·.f0)) = some (sortedI (c.map (·.f0))) := if_pos (by rw [List.length_map]; omega)
    have hq : slices_Compact_int_int.f (sortedI (c.map (·.f0))) = some (compactL (sortedI (c.map (·.f0)))) := if_pos (by unfold sortedI; rw [List.length_mergeSort, List.length_map]; omega)
    have hr : compactL (sortedI (c.map (·.f0))) = belowL (c.map (·.f0)) n := sort_compact _ n fun x hx => by
      obtain ⟨p, h1, rfl⟩ := List.mem_map.1 hx
      exact hp p h1
    rw [hs, Option.bind_some, hq, Option.bind_some, hr]
  | succ d ih =>
    intro i hi
    have hl : i < c.length := by omega
    refine Ev.succ ?_
    simp only [impl_DiskPending.l0, rd_pendP hl, wrap_upP i (by omega)]
    have h := ih (i + 1) (by omega)
    rw [List.take_succ_eq_append_getElem hl, List.map_append] at h
    exact Ev.pos (by omega) (Ev.pos (by omega) (Ev.pos (by omega) (Ev.pos (by rw [List.length_map, List.length_take]; omega) h)))
theorem impl_diskPending (s : List ByteArray) (c : List S54) (a : Bool) (q : List Int) : Ev (fun k => impl_DiskPending.f k s c a q) (pendR s c a q) := by
  unfold impl_DiskPending.f pendR
  refine Ev.bindk (a := diskB s c a q) rfl ?_
  cases hd : diskB s c a q with
  | false => exact Ev.neg (by simp) (Ev.is rfl)
  | true =>
    obtain ⟨h1, h2, h3⟩ := diskB_is hd
    exact Ev.pos rfl (impl_pend_loop c s.length h2 h3 c.length 0 (by omega))
theorem readV_snoc (s : List ByteArray) (c : List S54) (x : S54) (at_ : Int) : readV s (c ++ [x]) at_ = if x.f0 = at_ then x.f1 else readV s c at_ := by
  unfold readV
  rw [List.reverse_append]
  by_cases h : x.f0 = at_
  · simp [h]
  · simp [h]
def readR (s : List ByteArray) (c : List S54) (a : Bool) (q : List Int) (at_ : Int) : ByteArray × Int :=
  if diskB s c a q = true then (if 0 ≤ at_ ∧ at_ < (s.length : Int) then (readV s c at_, 0) else (⟨#[]⟩, 4)) else (⟨#[]⟩, 1)
theorem impl_diskRead (s : List ByteArray) (c : List S54) (a : Bool) (q : List Int) (at_ : Int) : impl_DiskRead.f s c a q at_ = some (readR s c a q at_) := by
  unfold impl_DiskRead.f readR
  split
  · split <;> rfl
  · rfl
theorem sameTexts_loop (l : List ByteArray) (hl : l.length ≤ 1000000) : ∀ d i : Nat, i + d = l.length → Ev (fun k => laws_sameTexts.l0 k l l (i : Int)) true := by
  intro d
  induction d with
  | zero =>
    intro i hi
    refine Ev.succ ?_
    simp only [laws_sameTexts.l0]
    exact Ev.neg (by omega) (Ev.is rfl)
  | succ d ih =>
    intro i hi
    refine Ev.succ ?_
    simp only [laws_sameTexts.l0]
    refine Ev.pos (by omega) (Ev.pos (by omega) (Ev.pos (by omega) (Ev.pos trivial ?_)))
    rw [show wrap64 ((i : Int) + 1) = ((i + 1 : Nat) : Int) from by unfold wrap64; omega]
    exact ih (i + 1) (by omega)
theorem sameInts_loop (l : List Int) (hl : l.length ≤ 1000000) : ∀ d i : Nat, i + d = l.length → Ev (fun k => laws_sameInts.l0 k l l (i : Int)) true := by
  intro d
  induction d with
  | zero =>
    intro i hi
    refine Ev.succ ?_
    simp only [laws_sameInts.l0]
    exact Ev.neg (by omega) (Ev.is rfl)
  | succ d ih =>
    intro i hi
    refine Ev.succ ?_
    simp only [laws_sameInts.l0]
    refine Ev.pos (by omega) (Ev.pos (by omega) (Ev.pos (by omega) (Ev.pos trivial ?_)))
    rw [show wrap64 ((i : Int) + 1) = ((i + 1 : Nat) : Int) from by unfold wrap64; omega]
    exact ih (i + 1) (by omega)
theorem sameDisk_loop (s : List ByteArray) (c : List S54) (a : Bool) (q : List Int) (hl : c.length ≤ 1000000) : ∀ d i : Nat, i + d = c.length → Ev (fun k => laws_sameDisk.l0 k (i : Int) s c a q s c a q) true := by
  intro d
  induction d with
  | zero =>
    intro i hi
    refine Ev.succ ?_
    simp only [laws_sameDisk.l0]
    exact Ev.neg (by omega) (Ev.is rfl)
  | succ d ih =>
    intro i hi
    refine Ev.succ ?_
    simp only [laws_sameDisk.l0]
    refine Ev.pos (by omega) (Ev.pos (by omega) (Ev.pos (by omega) (Ev.neg (by simp) ?_)))
    rw [show wrap64 ((i : Int) + 1) = ((i + 1 : Nat) : Int) from by unfold wrap64; omega]
    exact ih (i + 1) (by omega)
theorem sameDisk_is (s : List ByteArray) (c : List S54) (a : Bool) (q : List Int) (hs : s.length ≤ 1000000) (hc : c.length ≤ 1000000) (hq : q.length ≤ 1000000) : Ev (fun k => laws_sameDisk.f k s c a q s c a q) true := by
  unfold laws_sameDisk.f
  refine Ev.bind (a := true) ?_ (Ev.pos rfl (Ev.pos rfl (Ev.neg (by simp) (Ev.bind (a := true) ?_ ?_))))
  · unfold laws_sameTexts.f
    exact Ev.pos rfl (sameTexts_loop s hs s.length 0 (by omega))
  · unfold laws_sameInts.f
    exact Ev.pos rfl (sameInts_loop q hq q.length 0 (by omega))
  · refine Ev.succ ?_
    simp only [laws_sameDisk.j0]
    exact Ev.neg (by simp) (sameDisk_loop s c a q hc c.length 0 (by omega))
def writeR (s : List ByteArray) (c : List S54) (a : Bool) (q : List Int) (at_ : Int) (d : ByteArray) : List ByteArray × List S54 × Bool × List Int × Int :=
  if 65536 < d.size then ([], [], false, [], 2) else if diskB s c a q = true then (if pendB s.length ⟨at_, d⟩ = true then (if c.length = 500 then (s, c, a, q, 7) else (s, c ++ [⟨at_, d⟩], a, q, 0)) else ([], [], false, [], 4)) else ([], [], false, [], 1)
theorem impl_write (s : List ByteArray) (c : List S54) (a : Bool) (q : List Int) (at_ : Int) (d : ByteArray) : Ev (fun _ => impl_DiskWrite.f s c a q at_ d) (writeR s c a q at_ d) := by
  refine Ev.is ?_
  unfold impl_DiskWrite.f writeR
  split
  · rfl
  · split
    · split
      · split <;> rfl
      · rfl
    · rfl
theorem spec_write (s : List ByteArray) (c : List S54) (a : Bool) (q : List Int) (at_ : Int) (d : ByteArray) : Ev (fun k => spec_DiskWrite.f k s c a q at_ d) (writeR s c a q at_ d) := by
  unfold spec_DiskWrite.f writeR
  by_cases h1 : (d.size : Int) > 65536
  · exact Ev.pos h1 (Ev.is (by rw [if_pos (by omega)]))
  · refine Ev.neg h1 (Ev.bind (spec_diskOK s c a q) (Ev.same ?_ (if_neg (by omega)).symm))
    cases hd : diskB s c a q with
    | false => exact Ev.neg (by simp) (Ev.is (by simp))
    | true =>
      have hl := diskB_len hd
      refine Ev.pos rfl (Ev.same ?_ (if_pos rfl).symm)
      rw [wrap_id (x := (s.length : Int) - 1) (by omega) (by omega)]
      refine Ev.bindk (spec_in _ _ _) ?_
      have hbad : pendB s.length ⟨at_, d⟩ = false → Ev (fun k => spec_DiskWrite.j0 k at_ d true s c a q) (if pendB s.length ⟨at_, d⟩ = true then (if c.length = 500 then (s, c, a, q, 7) else (s, c ++ [⟨at_, d⟩], a, q, 0)) else (([] : List ByteArray), ([] : List S54), false, ([] : List Int), (4 : Int))) := by
        intro hp
        refine Ev.succ ?_
        simp only [spec_DiskWrite.j0]
        exact Ev.pos (by trivial) (Ev.is (by rw [hp]; rfl))
      cases hb : inB at_ 0 ((s.length : Int) - 1) with
      | false =>
        refine Ev.neg (by simp) (hbad ?_)
        unfold pendB
        rw [decide_eq_false (fun h => by have := inB_is.2 h; simp only at this; rw [hb] at this; cases this)]
        rfl
      | true =>
        refine Ev.pos rfl ?_
        have hp : pendB s.length ⟨at_, d⟩ = decide (d.size ≤ 420) := by
          unfold pendB
          rw [decide_eq_true (inB_is.1 hb)]
          rfl
        by_cases h2 : (d.size : Int) > 420
        · rw [decide_eq_true h2]
          exact hbad (by rw [hp]; exact decide_eq_false (by omega))
        · rw [decide_eq_false h2, hp, decide_eq_true (show d.size ≤ 420 by omega), if_pos rfl]
          refine Ev.succ ?_
          simp only [spec_DiskWrite.j0]
          refine Ev.neg (by simp) ?_
          by_cases h3 : (c.length : Int) = 500
          · exact Ev.pos h3 (Ev.bindk (spec_own a (by omega) (by omega) (by omega)) (Ev.is (by rw [if_pos (by omega)])))
          · refine Ev.neg h3 (Ev.bindk (a := (s, c ++ [⟨at_, d⟩], a, q)) ?_ (Ev.bindk (spec_own a (by simp only; omega) (by simp only [List.length_append, List.length_singleton]; omega) (by simp only; omega)) (Ev.is (by rw [if_neg (by omega)]))))
            unfold spec_l02Write.f
            rw [Option.bind_some, if_pos (by simp; omega), Option.bind_some, if_pos (by simp; omega)]
            simp
def bytesOK (l : List Int) : Prop := ∀ c, c ∈ l → 0 ≤ c ∧ c < 256
instance bytesOKDec (l : List Int) : Decidable (bytesOK l) := by unfold bytesOK; infer_instance
def laws_FnDisk.f (l0 l1 : List Int) : Option Bool := if bytesOK l0 ∧ bytesOK l1 then some true else none
theorem write_is {s : List ByteArray} {c : List S54} {a : Bool} {q : List Int} {k : Int} (h : diskB s c a q = true) (hc : c.length ≤ 8) (hk : 0 ≤ k ∧ k < (s.length : Int)) : writeR s c a q k freshT = (s, c ++ [⟨k, freshT⟩], a, q, 0) ∧ diskB s (c ++ [⟨k, freshT⟩]) a q = true := by
  have hw := write_draw (t := freshT) h (by omega) hk (by unfold freshT; simp [ByteArray.size])
  refine ⟨?_, hw.2⟩
  have hp : pendB s.length ⟨k, freshT⟩ = true := by
    unfold pendB freshT
    simp only [Bool.and_eq_true, decide_eq_true_eq]
    exact ⟨by omega, by simp [ByteArray.size]⟩
  unfold writeR
  rw [if_neg (by unfold freshT; simp [ByteArray.size]), if_pos h, if_pos hp, if_neg (by omega)]
theorem laws_FnDisk.calls (A0 : Option Addr) (c0 : Nat) (l0 : List Int) (A1 : Option Addr) (c1 : Nat) (l1 : List Int) (r : Bool) (w : World) (hr0 : Kd.C (Kd.int .u8) w A0 l0.length l0) (hc0 : l0.length ≤ c0) (hr1 : Kd.C (Kd.int .u8) w A1 l1.length l1) (hc1 : l1.length ≤ c1) (h : laws_FnDisk.f l0 l1 = some r) :
    Calls Try.prog 3 #[.slice A0 l0.length c0, .slice A1 l1.length c1] w fun e w' => e = .returned (.bool r) ∧ Below w.heap.size w w' := by
  unfold laws_FnDisk.f at h
  by_cases hb : bytesOK l0 ∧ bytesOK l1
  case neg => rw [if_neg hb] at h; cases h
  rw [if_pos hb] at h
  obtain rfl := Option.some.inj h
  clear h
  by_cases h0 : 1048576 < l0.length
  · exact long0_FnDisk A0 c0 l0 A1 c1 l1 w hr0 hc0 hr1 hc1 h0
  by_cases h1 : 1048576 < l1.length
  · exact long1_FnDisk A0 c0 l0 A1 c1 l1 w hr0 hc0 hr1 hc1 h0 h1
  obtain ⟨s, c, a, q, hd, hc, hD⟩ := diskOf_is hb.1
  have hl := diskB_len hd
  obtain ⟨k, hA, k0, k1⟩ := at_is hb.2 (by omega) (s.length : Int) (by omega)
  obtain ⟨hw, hd2⟩ := write_is hd hc ⟨k0, k1⟩
  obtain ⟨L, hL, hK⟩ := keepsOf_is hb.2
  have hin := disk_in hd2
  generalize hcw : c ++ [⟨k, freshT⟩] = cw at hw hd2 hin
  have hl2 := diskB_len hd2
  have hR : ∀ j, 0 ≤ j → j < (s.length : Int) → impl_DiskRead.f s cw a q j = some (readV s cw j, 0) := fun j j0 j1 => by
    rw [impl_diskRead]
    unfold readR
    rw [if_pos hd2, if_pos ⟨j0, j1⟩]
  have hVk : readV s cw k = freshT := by rw [← hcw, readV_snoc, if_pos rfl]
  obtain ⟨s1, qs, al, hY, hal, hds, hV⟩ : ∃ s1 qs al, syncR s cw a q = (s1, [], false, qs, al, 0) ∧ (al == a) = false ∧ diskB s1 [] false qs = true ∧ s1.length = s.length ∧ (al = true → ∀ j, 0 ≤ j → j < (s.length : Int) → readV s cw j = readV s1 [] j) := by
    unfold syncR
    rw [if_pos hd2]
    cases a with
    | true =>
      rw [if_pos rfl]
      exact ⟨_, _, _, rfl, rfl, settle_disk _ hd2 (by simp) (.inr rfl), settleL_len _ _ _ _, fun h => by cases h⟩
    | false =>
      rw [if_neg (by simp)]
      exact ⟨_, _, _, rfl, rfl, settle_disk _ hd2 hl2.2.2.1 (diskB_parts.1 hd2).2.2.2.1, settleL_len _ _ _ _, fun _ j j0 j1 => (readV_settle cw 0 s j hin ⟨j0, j1⟩).symm⟩
  have hRs : ∀ j, 0 ≤ j → j < (s.length : Int) → impl_DiskRead.f s1 [] false qs j = some (readV s1 [] j, 0) := fun j j0 j1 => by
    rw [impl_diskRead]
    unfold readR
    rw [if_pos hds, if_pos ⟨j0, by omega⟩]
  obtain ⟨sx, hX, hdx⟩ : ∃ sx, crashR s cw a q L = (sx, [], false, [], 0) ∧ diskB sx [] false [] = true ∧ syncR s cw true L = (sx, [], false, [], false, 0) := by
    refine ⟨settleL (keepB L) cw 0 s, ?_, settle_disk _ hd2 (by simp) (.inr rfl), ?_⟩
    · unfold crashR
      rw [if_neg (by omega), if_pos hd2]
    · unfold syncR
      rw [if_pos (diskB_parts.2 ⟨(diskB_parts.1 hd2).1, hl2.2.1, by omega, .inl rfl, (diskB_parts.1 hd2).2.2.2.2.1, (diskB_parts.1 hd2).2.2.2.2.2⟩), if_pos rfl]
  have hAr : armR s cw a q L = (s, cw, true, L, 0) := by
    unfold armR
    rw [if_neg (by omega), if_pos hd2, if_neg (by omega)]
  have hlx := diskB_len hdx.1
  have hP : pendR s cw a q = (belowL (cw.map (·.f0)) s.length, 0) := by unfold pendR; rw [if_pos hd2]
  have hPn : ((belowL (cw.map (·.f0)) s.length).length : Int) ≠ 0 := by
    have hne := belowL_some (l := cw.map (·.f0)) (n := s.length) (k := k.toNat) (by omega) (by rw [← hcw]; simp; right; omega)
    intro e
    exact hne (List.eq_nil_of_length_eq_zero (by omega))
  obtain ⟨kd, hD⟩ := Ev.rounds hD
  obtain ⟨kw, hT⟩ := Ev.rounds (spec_write s c a q k freshT)
  have hW := Ev.rounds (impl_write s c a q k freshT)
  obtain ⟨_, hW⟩ := hW
  rw [hw] at hT hW
  obtain ⟨kk, hK⟩ := Ev.rounds hK
  obtain ⟨kc, hU⟩ := Ev.rounds (spec_crash s cw a q L)
  obtain ⟨_, hXi⟩ := Ev.rounds (impl_crash s cw a q L)
  rw [hX] at hU hXi
  obtain ⟨_, hYi⟩ := Ev.rounds (impl_sync s cw a q)
  rw [hY] at hYi
  obtain ⟨_, hZi⟩ := Ev.rounds (impl_sync s cw true L)
  rw [hdx.2] at hZi
  have hAi := impl_arm s cw a q L
  rw [hAr] at hAi
  obtain ⟨kp, hPi⟩ := Ev.rounds (impl_diskPending s cw a q)
  rw [hP] at hPi
  obtain ⟨ke, hE1⟩ := Ev.rounds (sameDisk_is s cw a q (by omega) (by omega) (by omega))
  obtain ⟨ke2, hE2⟩ := Ev.rounds (sameDisk_is sx [] false [] (by omega) (by simp) (by simp))
  exact walk_FnDisk kd kw kk kc kp ke ke2 A0 c0 l0 A1 c1 l1 s c cw a q k s1 [] false qs al L sx [] false [] _ (readV s cw) (readV s1 []) w hr0 hc0 hr1 hc1 h0 h1 hal (beq_eq_false_iff_ne.mpr hPn) (by omega) hD hA hW hT hR ⟨hVk, k0, k1⟩ hYi hK hXi hU hAi hZi hPi hE1 hE2 hRs (fun h j j0 j1 => congrArg ByteArray.toList (hV.2 h j j0 j1)) (by unfold impl_DiskOK.f; rw [hd2]) (by unfold impl_DiskOK.f; rw [hds]) (by unfold impl_DiskOK.f; rw [hdx.1])
theorem opens5 : Opens Try.prog 5 (Kd.int .u8) (fun x => (Lit.int .u8 x).wf = true) := Opens.int_ Try.underlying5 (by kernel_rfl)
def wfL5 (xs : List Int) : Prop := xs.length ≤ maxLen ∧ ∀ x ∈ xs, (Lit.int .u8 x).wf = true
theorem opens22 : Opens Try.prog 22 (Kd.slice 5 (Kd.int .u8)) wfL5 := Opens.slice_ Try.underlying22 (by kernel_rfl) opens5
def laws_FnDisk.Pure : Prop := ∀ (l0 : List Int) (l1 : List Int), (wfL5 l0) → (wfL5 l1) → laws_FnDisk.f l0 l1 = some true
end Go.Proofs.Ytddommgeaoknbaa.X
set_option linter.unusedSimpArgs false
set_option linter.unusedVariables false
namespace Go.Proofs.Ytddommgeaoknbaa.X.Pure
open Go.RowKit Go.Proofs.Ytddommgeaoknbaa.X Go.Proofs.YtddommgeaoknbaaW.PrintWords Go.Proofs.YtddommgeaoknbaaW.PrintLast
theorem FnDisk : laws_FnDisk.Pure := by
  intro l m hl hm
  have hb : ∀ x : Int, (Lit.int .u8 x).wf = true → 0 ≤ x ∧ x < 256 := fun x h => by
    simp only [Lit.wf, Bool.and_eq_true, decide_eq_true_eq] at h
    have e1 : IntKind.u8.min = 0 := rfl
    have e2 : IntKind.u8.max = 255 := rfl
    rw [e1, e2] at h
    omega
  unfold laws_FnDisk.f
  exact if_pos ⟨fun c hc => hb c (hl.2 c hc), fun c hc => hb c (hm.2 c hc)⟩
end Go.Proofs.Ytddommgeaoknbaa.X.Pure
namespace Go.Proofs.Ytddommgeaoknbaa.fnDisk
open Go.ChangeShapes Go.WideShapes Go.ChangeAt Go.RowKit Go.Proofs.Ytddommgeaoknbaa.X Go.Proofs.YtddommgeaoknbaaW.PrintWords
open Go.ChangeMaps (open_string shut_string)
set_option linter.unusedVariables false
theorem own : ownKnob Try.prog.godebug = none := by kernel_rfl
theorem laidOut : laidOutB Try.prog = true := by kernel_rfl
set_option maxRecDepth 100000 in
theorem lifted (os : Os) (started : os.Started) (H : Type) (enc : TypeId × Value → H) :
    ReturnsInHanded {} Try.checked os 3 .any (Rows.fnDiskSpec.pre6 enc Try.prog Try.f3 Rows.fnDiskRow.domain false) (Rows.fnDiskSpec.post enc Try.prog Try.f3 false true false false) := by
  refine returnsInHanded_of_change_sized (C := Try.checked) own started (by kernel_rfl) Try.func3
    (ChangeSpec.witness6 (enc := enc) (C := Try.checked) false ⟨#[], #[.slice none 0 0, .slice none 0 0], []⟩ 8 (by kernel_rfl) (by kernel_rfl) (by kernel_rfl) (by kernel_rfl)) ?_
  intro W base args ds gs before hval0 hW hcnd hsz0 _
  have hsz : (DataW.weightsEach Try.prog (Try.f3.params.toList ++ Rows.fnDiskSpec.plain.varTypes Try.prog) (ds ++ gs)).all (· ≤ reachBytes) = true := hsz0
  have hval : ∀ (j : Nat) t v, Try.f3.params[j]? = some t → args[j]? = some v → Value.okWide Try.prog W .any base t v := hval0
  have hW' := hW
  obtain ⟨p, q, hA0, hV, rfl, hfz, hnd⟩ := hW
  have hA : DataW.TrodAll enc Try.prog W 0 (fun _ => true) true Try.f3.params.toList args.toList ds p := hA0
  rw [Try.params3] at hA hval hsz
  obtain ⟨v0, vs0, d0, ds0, p0, q0, hargs, rfl, rfl, h0, r0⟩ := trodAll_cons hA
  obtain ⟨v1, vs1, d1, ds1, p1, q1, rfl, rfl, rfl, h1, r1⟩ := trodAll_cons r0
  obtain ⟨rfl, rfl, rfl⟩ := trodAll_nil r1
  obtain rfl : args = #[v0, v1] := by cases args; simp_all
  obtain ⟨rfl, rfl⟩ := trodVars_none hV
  have k0 := h0
  have lt0 : ∀ x ∈ p0, x.block < W.heap.size := by obtain ⟨m, hm⟩ := k0; exact DataW.trod_lt m _ _ _ hm
  obtain ⟨A0, len0, c0, rfl⟩ := okWide_slice Try.underlying22 (hval 0 22 v0 rfl rfl)
  obtain ⟨l0, rfl, hc0, hr0, hw0⟩ := Opens.slice_arg opens22 h0
  have k1 := h1
  have lt1 : ∀ x ∈ p1, x.block < W.heap.size := by obtain ⟨m, hm⟩ := k1; exact DataW.trod_lt m _ _ _ hm
  obtain ⟨A1, len1, c1, rfl⟩ := okWide_slice Try.underlying22 (hval 1 22 v1 rfl rfl)
  obtain ⟨l1, rfl, hc1, hr1, hw1⟩ := Opens.slice_arg opens22 h1
  clear hA0 hval0 hsz0 hsz
  have hP := X.Pure.FnDisk l0 l1 hw0 hw1
  refine (laws_FnDisk.calls A0 c0 l0 A1 c1 l1 true W hr0 hc0 hr1 hc1 hP).mono fun e W' hQ => ?_
  obtain ⟨he, bel0⟩ := hQ
  subst he
  have bel : Below W.heap.size W W' := bel0
  exact ⟨_, rfl, _, _, _, [], _, [], hW', trodAll_mk1 (shut_bool Try.underlying4 _), (trodAll_cons_mk (Below.trod laidOut (by kernel_rfl) (of_decide_eq_true (by kernel_rfl)) k0 bel lt0) (trodAll_cons_mk (Below.trod laidOut (by kernel_rfl) (of_decide_eq_true (by kernel_rfl)) k1 bel lt1) trodAll_mk0)), rfl, bel.frame _, fun h => by cases h⟩
theorem over : Rows.fnDiskRow.holds Try.pinned (OpenSpec.ofChange Rows.fnDiskSpec) :=
  OpenClaim.holds_of_wide 3 Try.f3 rfl rfl rfl rfl rfl rfl rfl ⟨rfl, rfl, rfl, rfl, rfl⟩ rfl rfl rfl rfl rfl (by kernel_rfl) Try.func3 (by kernel_rfl)
    (of_decide_eq_true (by kernel_rfl)) (by unfold Func.isWrapper; first | (rw [if_pos (by decide +kernel)]; kernel_rfl) | (rw [if_neg (by decide +kernel)]; exact ⟨rfl, rfl⟩))
    (fun os started H enc _ => lifted os started H enc)
theorem proved : Rows.FnDiskSaid := over
end Go.Proofs.Ytddommgeaoknbaa.fnDisk
namespace Go.Proofs.Ytddommgeaoknbaa
theorem fnDisk_holds : Rows.FnDiskSaid := fnDisk.proved
end Go.Proofs.Ytddommgeaoknbaa
