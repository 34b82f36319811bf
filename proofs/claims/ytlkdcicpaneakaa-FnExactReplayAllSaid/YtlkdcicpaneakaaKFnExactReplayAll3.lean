import Derived.Test.YtlkdcicpaneakaaKFnExactReplayAll2
import Derived.LoopTactic
import Derived.BigQuiet
import Derived.Shelf.Strings.Builder1
import Derived.Lib.UnsafeStr
namespace Go.Proofs.Ytlkdcicpaneakaa.X
open Go.RowKit Go.Proofs.YtlkdcicpaneakaaW.PrintWords Go.Proofs.YtlkdcicpaneakaaW.PrintLast Go.Proofs.YtlkdcicpaneakaaW.PrintMore
attribute [local go_sem] qaA qaB qaC qaw qax qaH qaI qap qaq qay qaz
set_option linter.unusedVariables false
set_option linter.unusedSimpArgs false
def qaG.l0 : Nat → Int → List Int → Int → Option (List Int)
 | 0, _, _, _ => none
 | k + 1, x0, x5, x6 => if x6 ≥ 0 then (if 0 ≤ (IntKind.u64.wrap (wrap64 (8 * x6))) then (if x5.length < 140737488355328 then (qaG.l0 k x0 (x5 ++ [(shr .i64 x0 (IntKind.u64.wrap (wrap64 (8 * x6)))) % 256]) (wrap64 (x6 - 1))) else (none)) else (none)) else (some x5)
def qaG.f (k : Nat) (a0 : Int) (a1 : Int) : Option (List Int) := qaG.l0 k a0 (([] : List Int)) (wrap64 (a1 - 1))
theorem qaG.qbA : ∀ k, (∀ y0 y1 y2, LeO (qaG.l0 k y0 y1 y2) (qaG.l0 (k + 1) y0 y1 y2))
 | 0 => fun _ _ _ r h => by simp [qaG.l0] at h
 | k + 1 => by
  have ih0 := qaG.qbA k
  ·intro y0 y1 y2
   unfold qaG.l0
   repeat' first
   | (with_reducible exact ih0 _ _ _)
   | (with_reducible exact LeO.refl _)
   | (with_reducible exact LeO.none _)
   | (with_reducible refine LeO.ite ?_ ?_)
   | (with_reducible refine LeO.bind ?_ (fun _ => ?_))
   | exact ih0 _ _ _
   | exact LeO.none _
   | refine LeO.ite ?_ ?_
   | refine LeO.bind ?_ (fun _ => ?_)
theorem qaG.mono : ∀ a0 a1 k, LeO (qaG.f k a0 a1) (qaG.f (k + 1) a0 a1) := by
 intro a0 a1 k
 have ih0 := qaG.qbA k
 unfold qaG.f
 repeat' first
   | (with_reducible exact ih0 _ _ _)
   | (with_reducible exact LeO.refl _)
   | (with_reducible exact LeO.none _)
   | (with_reducible refine LeO.ite ?_ ?_)
   | (with_reducible refine LeO.bind ?_ (fun _ => ?_))
   | exact ih0 _ _ _
   | exact LeO.none _
   | refine LeO.ite ?_ ?_
   | refine LeO.bind ?_ (fun _ => ?_)
set_option maxHeartbeats 8000000 in
set_option maxRecDepth 100000 in
theorem qaG.calls (k : Nat) (a0 : Int) (a1 : Int) (r : List Int) (w : World) (h : qaG.f k a0 a1 = some r) :
  Calls Try.prog 31 #[.int .i64 a0, .int .i64 a1] w fun e w' => ∃ v0_ : Value, e = .returned (v0_) ∧ Kd.R (Kd.int .u8) 5 w' w.heap.size (fun _ => True) v0_ r ∧ Below w.heap.size w w' := by
 have HB := Aside0.mk (Below.refl w.heap.size w)
 have H : (qaG.l0 k a0 (([] : List Int)) (wrap64 (a1 - 1))) = some r := h
 clear h
 obtain ⟨y185, hy185⟩ : ∃ y_ : List Int, y_ = (([] : List Int)) := ⟨_, rfl⟩
 replace H : (qaG.l0 k a0 y185 (wrap64 (a1 - 1))) = some r := by first | (rw [hy185]; with_reducible exact H) | (have H2_ := (Option.bind_some _ _).symm.trans H; rw [hy185]; with_reducible exact H2_) | (have H2_ := (Option.bind_some _ _).symm.trans H; with_reducible exact H2_) | with_reducible exact H | (rw [hy185]; exact H) | exact H
 have Ny185 := Aside0.mk hy185
 clear hy185
 have H' := Aside0.mk H
 clear H
 go_enter Try.func31, Try.ntmps31
 go_wp2_with (first | ((with_reducible refine qaM (N := 7) rfl ?_); refine Kd.qdN (Kd.int .u8) _ 5 ?hg (N := 7) ?hd (xs := ([] : List Int)) (inner := []) (ok := fun _ => True) (okp := fun _ => True) ?hr ?hp (fun _ hk => hk) trivial (Below.refl _ _) (Nat.le_refl _) (by simp) ?_; (case hd => rfl); (case hg => rfl); (case hr => first | (go_simp; done) | (go_simp; rfl)); (case hp => exact (Reps.none _ _)); intro v186 w3 ho4 hb hg_ hnew_; clear hg_ hnew_; (first | rw [← Ny185.out] at ho4 | (simp only [Int.reduceToNat] at ho4; rw [← Ny185.out] at ho4)); have n0_ := Aside0.mk (Kd.qbh ho4 (qak (by repeat (first | (with_reducible first | exact HB.out | apply qac | apply qaa | apply qab) | exact HB.out)))); have n1_ := Aside0.mk (qag (by repeat (first | (with_reducible first | exact HB.out | apply qac | apply qaa | apply qab) | exact HB.out)) hb); clear HB; have HO187 := n0_; have HB := n1_; clear n0_ n1_; clear hb ho4))
 go_loopg [5, 6] k (fun kq v5 v6 w' => ∃ (x5_1 : List Int) (x6_1 : Int), v6 = .int .i64 x6_1 ∧ Aside0 (qaG.l0 kq a0 x5_1 x6_1 = some r) ∧ Aside0 (kq ≤ k) ∧ Aside0 (Kd.R (Kd.int .u8) 5 w' w.heap.size (fun _ => True) v5 x5_1) ∧ Aside0 (Below w.heap.size w w'))
 case atStart => exact ⟨(y185), (wrap64 (a1 - 1)), (by first | rfl | (simp; done) | (simp [*]; done)), H', ⟨Nat.le_refl _⟩, ⟨by (with_reducible repeat (first | apply Kd.qar | apply Kd.qas | apply Kd.qaD)); exact HO187.out⟩, ⟨by repeat (first | (with_reducible first | exact HB.out | apply qac | apply qaa | apply qab) | exact HB.out)⟩⟩
 case round =>
  clear H'
  try clear p2
  try clear c3
  obtain ⟨x5_1, x6_1, rfl, HA, HK1, HO_5, HB⟩ := hrel
  cases gk with
  | zero => exact absurd HA.out (by simp [qaG.l0])
  | succ k1 =>
   have H := HA.out
   clear HA
   simp only [qaG.l0] at H
   by_cases c5 : x6_1 ≥ 0
   ·rw [if_pos c5] at H
    have c5b0 : decide (0 ≤ x6_1) = true := decide_eq_true c5
    clear c5
    obtain ⟨ji6, hji6⟩ : ∃ j_ : Int, (IntKind.u64.wrap (wrap64 (8 * x6_1))) = j_ := ⟨_, rfl⟩
    replace H : (if 0 ≤ (ji6) then (if x5_1.length < 140737488355328 then (qaG.l0 k1 a0 (x5_1 ++ [(shr .i64 a0 (ji6)) % 256]) (wrap64 (x6_1 - 1))) else (none)) else (none)) = some r := by first | (rw [hji6] at H; exact H) | (simp only [hji6] at H ⊢; exact H)
    by_cases c7 : 0 ≤ (ji6)
    ·rw [if_pos c7] at H
     have c7b0 := eq_true c7
     have c7b1 : decide (0 ≤ (ji6)) = true := decide_eq_true c7
     clear c7
     obtain ⟨ji8, hji8⟩ : ∃ j_ : Int, (shr .i64 a0 (ji6)) = j_ := ⟨_, rfl⟩
     replace H : (if x5_1.length < 140737488355328 then (qaG.l0 k1 a0 (x5_1 ++ [(ji8) % 256]) (wrap64 (x6_1 - 1))) else (none)) = some r := by first | (rw [hji8] at H; exact H) | (simp only [hji8] at H ⊢; exact H)
     have hji8_ : (a0 / 2 ^ min (ji6).toNat 64) = ji8 := hji8
     have hji8z : (ji6) ≤ 64 → (a0 / 2 ^ (ji6).toNat) = ji8 := qij hji8
     by_cases c9 : x5_1.length < 140737488355328
     ·rw [if_pos c9] at H
      have LMc9 := Aside0.mk c9
      clear c9
      obtain ⟨y188, hy188⟩ : ∃ y_ : List Int, y_ = (x5_1 ++ [(ji8) % 256]) := ⟨_, rfl⟩
      replace H : (qaG.l0 k1 a0 y188 (wrap64 (x6_1 - 1))) = some r := by first | (rw [hy188]; with_reducible exact H) | (have H2_ := (Option.bind_some _ _).symm.trans H; rw [hy188]; with_reducible exact H2_) | (have H2_ := (Option.bind_some _ _).symm.trans H; with_reducible exact H2_) | with_reducible exact H | (rw [hy188]; exact H) | exact H
      have Ny188 := Aside0.mk hy188
      clear hy188
      have H' := Aside0.mk H
      clear H
      go_wp2_with (first | ((with_reducible refine qbC (b := .append) (xs := #[.tmp 14, .tmp 21]) rfl ?_); at_builtin; refine Kd.qek (Kd.int .u8) (w0 := w) w.heap.size rfl (.tmp 14) (.tmp 21) 59 5 (.int .u8 0) 1 rfl Try.underlying59 info5 rfl (by decide) (by omega) u5 x5_1 ((ji8) % 256) [.int .u8 ((ji8) % 256)] (fun _ => True) (fun _ => False) rfl rfl ?aP (fun _ hk => hk.elim) ?aF ?aO ?aB ?aS ?aL ?_; (case aP => exact rfl); (case aB => exact (by repeat (first | (with_reducible first | exact HB.out | apply qac | apply qaa | apply qab) | exact HB.out))); (case aF => exact (fun _ _ => trivial)); (case aO => exact (by (with_reducible repeat (first | apply Kd.qar | apply Kd.qas | apply Kd.qaD)); exact HO_5.out)); (case aS => exact (qak (by repeat (first | (with_reducible first | exact HB.out | apply qac | apply qaa | apply qab) | exact HB.out)))); (case aL => have := LMc9.out; omega); intro v189 w10 ho hb hg hat; rw [← Ny188.out] at ho; have n0_ := Aside0.mk (hb); have n1_ := Aside0.mk (ho); clear HB HO_5; have HB := n0_; have HO190 := n1_; clear n0_ n1_; clear ho hb hg hat))
      go_roundg k1
      case measure => have := HK1.out; omega
      case rel => exact ⟨(y188), (wrap64 (x6_1 - 1)), (by first | rfl | (simp; done) | (simp [*]; done)), H', ⟨by have := HK1.out; omega⟩, ⟨by (with_reducible repeat (first | apply Kd.qar | apply Kd.qas | apply Kd.qaD)); exact HO190.out⟩, ⟨by repeat (first | (with_reducible first | exact HB.out | apply qac | apply qaa | apply qab) | exact HB.out)⟩⟩
     ·rw [if_neg c9] at H
      exact absurd H (by simp)
    ·rw [if_neg c7] at H
     exact absurd H (by simp)
   ·rw [if_neg c5] at H
    have c5b0 : decide (0 ≤ x6_1) = false := decide_eq_false c5
    clear c5
    obtain rfl := Option.some.inj H
    go_wp2
    go_ret
    exact ⟨_, by first | rfl | (simp [qam, qan] <;> rfl) | (simp [*, qam, qan] <;> rfl), by (with_reducible repeat (first | apply Kd.qar | apply Kd.qas | apply Kd.qaD)); exact HO_5.out, by repeat (first | (with_reducible first | exact HB.out | apply qac | apply qaa | apply qab) | exact HB.out)⟩
def numO (n : Int) : ByteArray := strOfNums [n % 256]
def numF (n : Int) : ByteArray := strOfNums [n / 256 / 256 / 256 % 256, n / 256 / 256 % 256, n / 256 % 256, n % 256]
theorem qgz (n : Int) : (numO n).size = 1 := rfl
theorem qdU (n : Int) : (numF n).size = 4 := rfl
theorem qhE (n : Int) : bytesOf (numO n) = [n % 256] := by
 unfold numO strOfNums bytesOf
 simp
 omega
theorem qhF (n : Int) : bytesOf (numF n) = [n / 256 / 256 / 256 % 256, n / 256 / 256 % 256, n / 256 % 256, n % 256] := by
 unfold numF strOfNums bytesOf
 simp
 omega
theorem qg2 (n : Int) : Ev (fun k => qaR.f k n 1) (numO n) := by
 unfold qaR.f
 refine Ev.pos (by omega) (Ev.pos (by omega) ?_)
 rw [show (1 : Int).toNat = 1 from rfl, show List.replicate 1 (0 : Int) = [0] from rfl, qby (x := 1 - 1) (by omega) (by omega)]
 refine Ev.succ ?_
 simp only [qaR.l0]
 refine Ev.pos (by omega) (Ev.pos (by omega) (Ev.pos (by simp) ?_))
 rw [qby (x := 1 - 1 - 1) (by omega) (by omega)]
 refine Ev.succ ?_
 simp only [qaR.l0]
 exact Ev.neg (by omega) (Ev.is rfl)
theorem qeI (n : Int) : Ev (fun k => qaR.f k n 4) (numF n) := by
 unfold qaR.f
 refine Ev.pos (by omega) (Ev.pos (by omega) ?_)
 rw [show (4 : Int).toNat = 4 from rfl, show List.replicate 4 (0 : Int) = [0, 0, 0, 0] from rfl, qby (x := 4 - 1) (by omega) (by omega)]
 refine Ev.succ ?_
 simp only [qaR.l0]
 refine Ev.pos (by omega) (Ev.pos (by omega) (Ev.pos (by simp) ?_))
 rw [qby (x := 4 - 1 - 1) (by omega) (by omega)]
 refine Ev.succ ?_
 simp only [qaR.l0]
 refine Ev.pos (by omega) (Ev.pos (by omega) (Ev.pos (by simp) ?_))
 rw [qby (x := 4 - 1 - 1 - 1) (by omega) (by omega)]
 refine Ev.succ ?_
 simp only [qaR.l0]
 refine Ev.pos (by omega) (Ev.pos (by omega) (Ev.pos (by simp) ?_))
 rw [qby (x := 4 - 1 - 1 - 1 - 1) (by omega) (by omega)]
 refine Ev.succ ?_
 simp only [qaR.l0]
 refine Ev.pos (by omega) (Ev.pos (by omega) (Ev.pos (by simp) ?_))
 rw [qby (x := 4 - 1 - 1 - 1 - 1 - 1) (by omega) (by omega)]
 refine Ev.succ ?_
 simp only [qaR.l0]
 exact Ev.neg (by omega) (Ev.is rfl)
theorem qhG (n : Int) (h0 : 0 ≤ n) (h1 : n < 4294967296) : (shr .i64 n (IntKind.u64.wrap (wrap64 (8 * 3)))) % 256 = n / 256 / 256 / 256 % 256 ∧ (shr .i64 n (IntKind.u64.wrap (wrap64 (8 * 2)))) % 256 = n / 256 / 256 % 256 ∧ (shr .i64 n (IntKind.u64.wrap (wrap64 (8 * 1)))) % 256 = n / 256 % 256 ∧ (shr .i64 n (IntKind.u64.wrap (wrap64 (8 * 0)))) % 256 = n % 256 := by
 have a3 : IntKind.u64.wrap (wrap64 (8 * 3)) = 24 := by decide +kernel
 have a2 : IntKind.u64.wrap (wrap64 (8 * 2)) = 16 := by decide +kernel
 have a1 : IntKind.u64.wrap (wrap64 (8 * 1)) = 8 := by decide +kernel
 have a0 : IntKind.u64.wrap (wrap64 (8 * 0)) = 0 := by decide +kernel
 rw [a3, a2, a1, a0]
 have b3 : shr .i64 n 24 = n / 16777216 := rfl
 have b2 : shr .i64 n 16 = n / 65536 := rfl
 have b1 : shr .i64 n 8 = n / 256 := rfl
 have b0 : shr .i64 n 0 = n / 1 := rfl
 rw [b3, b2, b1, b0]
 omega
theorem qd9 (n : Int) (h0 : 0 ≤ n) (h1 : n < 4294967296) : Ev (fun k => qaG.f k n 4) (bytesOf (numF n)) := by
 unfold qaG.f
 obtain ⟨e3, e2, e1, e0⟩ := qhG n h0 h1
 rw [qby (x := 4 - 1) (by omega) (by omega), show (4 - 1 : Int) = 3 from rfl]
 refine Ev.succ ?_
 simp only [qaG.l0]
 refine Ev.pos (by omega) (Ev.pos (by decide +kernel) (Ev.pos (by simp) ?_))
 rw [qby (x := 3 - 1) (by omega) (by omega), show (3 - 1 : Int) = 2 from rfl]
 refine Ev.succ ?_
 simp only [qaG.l0]
 refine Ev.pos (by omega) (Ev.pos (by decide +kernel) (Ev.pos (by simp) ?_))
 rw [qby (x := 2 - 1) (by omega) (by omega), show (2 - 1 : Int) = 1 from rfl]
 refine Ev.succ ?_
 simp only [qaG.l0]
 refine Ev.pos (by omega) (Ev.pos (by decide +kernel) (Ev.pos (by simp) ?_))
 rw [qby (x := 1 - 1) (by omega) (by omega), show (1 - 1 : Int) = 0 from rfl]
 refine Ev.succ ?_
 simp only [qaG.l0]
 refine Ev.pos (by omega) (Ev.pos (by decide +kernel) (Ev.pos (by simp) ?_))
 rw [qby (x := 0 - 1) (by omega) (by omega)]
 refine Ev.succ ?_
 simp only [qaG.l0]
 refine Ev.neg (by omega) (Ev.is ?_)
 rw [qhF, e3, e2, e1, e0]
 rfl
def qd5.f (a0 : Bool) (a1 : Int) : Option (Int) := if a0 = true then (some a1) else (some 0)
set_option maxHeartbeats 8000000 in
set_option maxRecDepth 100000 in
theorem qd5.calls (a0 : Bool) (a1 : Int) (r : Int) (w : World) (h : qd5.f a0 a1 = some r) :
  Calls Try.prog 72 #[.bool a0, .int .i64 a1] w fun e w' => e = .returned (.int .i64 r) ∧ qaF w w' := by
 have H : (if a0 = true then (some a1) else (some 0)) = some r := h
 clear h
 by_cases c3 : a0 = true
 ·subst c3
  have H1 : (some a1) = some r := by rw [if_pos rfl] at H; exact H
  clear H
  have H := H1
  clear H1
  obtain rfl := Option.some.inj H
  go_enter Try.func72, Try.ntmps72
  go_wp2
  go_ret
  exact ⟨by first | rfl | (simp; done) | (simp [*]; done), by repeat (first | exact qaF.refl _ | apply qaF.step)⟩
 ·replace c3 := Bool.eq_false_iff.mpr c3
  subst c3
  have H1 : (some 0) = some r := by rw [if_neg (show ¬ (false = true) by decide)] at H; exact H
  clear H
  have H := H1
  clear H1
  obtain rfl := Option.some.inj H
  go_enter Try.func72, Try.ntmps72
  go_wp2
  go_ret
  exact ⟨by first | rfl | (simp; done) | (simp [*]; done), by repeat (first | exact qaF.refl _ | apply qaF.step)⟩
def bitN (b : Bool) (n : Int) : Int := if b = true then n else 0
def diffT (d : S56) : ByteArray := numO (bitN d.f3 1 + bitN d.f4 2) ++ qbV [d.f0, d.f1, d.f2]
def qbT (a : ByteArray) (l : List S56) : ByteArray := l.foldl (fun a d => a ++ diffT d) a
def bodyT (l : List S56) : ByteArray := qbT ByteArray.empty l
def qeA (fr tx : ByteArray) (l : List S56) : Prop := fr.size ≤ 1000 ∧ tx.size ≤ 1000 ∧ l.length ≤ 1000 ∧ ∀ d, d ∈ l → d.f0.size ≤ 1000 ∧ d.f1.size ≤ 1000 ∧ d.f2.size ≤ 1000
theorem bit_is (b : Bool) (n : Int) : qd5.f b n = some (bitN b n) := by
 unfold qd5.f bitN
 split <;> rfl
theorem qes (a : ByteArray) (l : List S56) (d : S56) : qbT a (l ++ [d]) = qbT a l ++ diffT d := by
 unfold qbT
 rw [List.foldl_append]
 rfl
theorem qdG (a b c : ByteArray) (ha : a.size ≤ 1000) (hb : b.size ≤ 1000) (hc : c.size ≤ 1000) : (qbV [a, b, c]).size ≤ 3007 := by
 show (qbB (strOfNums [3]) [a, b, c]).size ≤ 3007
 simp only [qbB, List.foldl_cons, List.foldl_nil, ByteArray.size_append, qdA]
 have : (strOfNums [3]).size = 1 := rfl
 omega
theorem qfO (d : S56) (h : d.f0.size ≤ 1000 ∧ d.f1.size ≤ 1000 ∧ d.f2.size ≤ 1000) : (diffT d).size ≤ 3008 := by
 unfold diffT
 rw [ByteArray.size_append, qgz]
 have := qdG d.f0 d.f1 d.f2 h.1 h.2.1 h.2.2
 omega
theorem qdh (l : List S56) : ∀ a : ByteArray, (∀ d, d ∈ l → d.f0.size ≤ 1000 ∧ d.f1.size ≤ 1000 ∧ d.f2.size ≤ 1000) → (qbT a l).size ≤ a.size + 3008 * l.length := by
 induction l with
 | nil => intro a _; exact Nat.le_add_right _ _
 | cons d l ih =>
  intro a h
  have h1 := qfO d (h d List.mem_cons_self)
  have h2 := ih (a ++ diffT d) fun x hx => h x (List.mem_cons_of_mem _ hx)
  rw [ByteArray.size_append] at h2
  simp only [List.length_cons]
  show (qbT (a ++ diffT d) l).size ≤ _
  omega
theorem qhH (a b : ByteArray) (ha : a.size ≤ 1000) (hb : b.size ≤ 1000) : qb8.f [a, b] = some (qbV [a, b]) := by
 unfold qb8.f
 rw [if_pos ⟨by show 2 ≤ _; omega, fun x hx => by
  rcases List.mem_cons.1 hx with rfl | hx
  ·omega
  ·rcases List.mem_cons.1 hx with rfl | hx
   ·omega
   ·cases hx⟩]
theorem qgA (a b c : ByteArray) (ha : a.size ≤ 1000) (hb : b.size ≤ 1000) (hc : c.size ≤ 1000) : qb8.f [a, b, c] = some (qbV [a, b, c]) := by
 unfold qb8.f
 rw [if_pos ⟨by show 3 ≤ _; omega, fun x hx => by
  rcases List.mem_cons.1 hx with rfl | hx
  ·omega
  ·rcases List.mem_cons.1 hx with rfl | hx
   ·omega
   ·rcases List.mem_cons.1 hx with rfl | hx
    ·omega
    ·cases hx⟩]
theorem ovS {a b : ByteArray} {n m : Nat} (ha : a.size ≤ n) (hb : b.size ≤ m) (h : n + m ≤ 9000000000000000000) : (9223372036854775807 < a.size + b.size) = False := eq_false (by omega)
def qdV.T5 : Bool × List (List Nat × List Nat) := (true, [([], []), ([0], [0]), ([1], [1]), ([], []), ([3], [3]), ([4, 2], [4]), ([2, 5], [2, 5]), ([6, 5], [6]), ([], []), ([8], [8]), ([], []), ([10], [10]), ([], []), ([12], [12]), ([9, 11, 13], [9, 11, 13]), ([14, 7], [14]), ([7, 15], [7, 15]), ([16, 15], [16])])
def qdV.B5 : List Nat := [0, 1, 3, 0, 8, 31, 63, 127, 0, 256, 0, 1024, 0, 4096, 16128, 32767, 65535, 131071]
theorem qdV.tab5 : rtab .any (opsOf Try.f60 5) = qdV.T5 := by kernel_rfl
theorem qdV.bits5 : qcs qdV.T5.2 qdV.B5 = true := by kernel_rfl
set_option maxRecDepth 100000 in
set_option maxHeartbeats 8000000 in
theorem bak_body (g : Nat) (fr tx : ByteArray) (chain : Int) (A : Option Addr) (c : Nat) (l : List S56) (sum : Int) (w : World) (hb : w.heap[g]? = some (.cells #[.string fr, .string tx, .int .i64 chain, .slice A l.length c, .int .i64 sum] 41 (0, 0))) (hr : Kd.C k56 w A l.length l) (hc : l.length ≤ c) (hf : qeA fr tx l) :
  Calls Try.prog 60 #[.pointer (some ⟨g, 0, none⟩)] w fun e w' => e = .returned (.string (bodyT l)) ∧ Below w.heap.size w w' := by
 have hu := Try.underlying41
 have hu2 := Try.underlying56
 obtain ⟨_, _, hs1, hs2⟩ := hf
 have HS := Aside0.mk hs2
 have HR := Aside0.mk hr
 have b0 := qad hb 0
 have b3 := qad hb 3
 simp only [List.getElem?_toArray, List.getElem?_cons_zero, List.getElem?_cons_succ] at b0 b3
 have hg := qbm hb
 replace b3 := (qac (Below.refl _ w) (.cells #[.pointer none, .slice none 0 0] 95 (0, 0))).cell (p := ⟨g, 3, none⟩) hg |>.trans b3
 clear hr hs2 b0
 go_enter Try.func60, Try.ntmps60
 go_wp2_with fail
 have HB1 := Aside0.mk (Lib.fresh_isBuilder 95 5 w)
 have HB := Aside0.mk (show Below w.heap.size w (w.alloc (.cells #[.pointer none, .slice none 0 0] 95 (0, 0))) from (Below.refl _ w).alloc (Nat.le_refl _) _)
 go_loopw [12] (fun v12 wr => ∃ k : Nat, k ≤ l.length ∧ v12 = .int .i64 k ∧ Aside0 (Lib.IsBuilder 95 5 w.heap.size w.heap.size (Lib.byteCells (qbT ByteArray.empty (l.take k)).data.toList) wr) ∧ Aside0 (Below w.heap.size w wr)) (fun v12 _ => l.length - (intOf v12).toNat)
 case atStart => exact ⟨0, Nat.zero_le _, rfl, ⟨by rw [List.take_zero]; exact HB1.out⟩, HB⟩
 case round =>
  clear HB HB1
  obtain ⟨k, hk, rfl, HI, HBw⟩ := hrel
  have hfs := qdh (l.take k) ByteArray.empty fun t ht => HS.out t (List.mem_of_mem_take ht)
  rw [List.length_take] at hfs
  have ha1 : ByteArray.empty.size = 0 := rfl
  rw [ha1] at hfs
  by_cases hlt : k < l.length
  ·have c1 : decide ((k : Int) < (l.length : Int)) = true := decide_eq_true (by omega)
   have p1 : 0 ≤ (k : Int) := by omega
   have q1 : (k : Int) < (l.length : Int) := by omega
   obtain ⟨ad, e, hx0, hx1, hx2, hx3, hx4⟩ := qdd HR.out (k : Int) p1 q1
   cases e
   have et : qaf l (k : Int) = l[k] := by unfold qaf; rw [Int.toNat_natCast]; simp [List.getD_eq_getElem?_getD, hlt]
   rw [et, Int.toNat_natCast] at hx0 hx1 hx2 hx3 hx4
   have htk : l.take (k + 1) = l.take k ++ [l[k]] := List.take_succ_eq_append_getElem hlt
   have hts := HS.out l[k] (List.getElem_mem hlt)
   replace hx0 := (HBw.out.cell (World.block_lt_of_cell? w _ hx0)).trans hx0
   replace hx1 := (HBw.out.cell (World.block_lt_of_cell? w _ hx1)).trans hx1
   replace hx2 := (HBw.out.cell (World.block_lt_of_cell? w _ hx2)).trans hx2
   replace hx3 := (HBw.out.cell (World.block_lt_of_cell? w _ hx3)).trans hx3
   replace hx4 := (HBw.out.cell (World.block_lt_of_cell? w _ hx4)).trans hx4
   clear et
   generalize l[k] = t at hx0 hx1 hx2 hx3 hx4 htk hts
   obtain ⟨d0, d1, d2, b3, b4⟩ := t
   dsimp only at hx0 hx1 hx2 hx3 hx4 hts
   replace p1 := eq_true p1
   replace q1 := eq_true q1
   have F1 := Aside0.mk (qgA d0 d1 d2 hts.1 hts.2.1 hts.2.2)
   have hz1 := qdG d0 d1 d2 hts.1 hts.2.1 hts.2.2
   obtain ⟨K1, hK1⟩ := qg2 (bitN b3 1 + bitN b4 2)
   have N1 := Aside0.mk (hK1 K1 (Nat.le_refl _))
   have hz2 : (numO (bitN b3 1 + bitN b4 2)).size ≤ 1 := Nat.le_of_eq (qgz _)
   obtain ⟨s1, e1⟩ : ∃ s1, s1 = numO (bitN b3 1 + bitN b4 2) ++ qbV [d0, d1, d2] := ⟨_, rfl⟩
   have hz3 : s1.size ≤ 3008 := by rw [e1, ByteArray.size_append]; omega
   have O1 := Aside0.mk (ovS hz2 hz1 (by omega))
   have HL := Aside0.mk (show (Lib.byteCells (qbT ByteArray.empty (l.take k)).data.toList).length + s1.size ≤ 140737488355328 from by
    rw [Lib.byteCells_length, Array.length_toList]
    have : (qbT ByteArray.empty (l.take k)).data.size = (qbT ByteArray.empty (l.take k)).size := rfl
    omega)
   have eb : Lib.byteCells (qbT ByteArray.empty (l.take (k + 1))).data.toList = Lib.byteCells (qbT ByteArray.empty (l.take k)).data.toList ++ Lib.strCells s1 := by
    rw [Lib.strCells_eq, ← Lib.byteCells_append, htk, qes]
    show Lib.byteCells (qbT ByteArray.empty (l.take k) ++ (numO (bitN b3 1 + bitN b4 2) ++ qbV [d0, d1, d2])).data.toList = _
    rw [← e1, ByteArray.data_append, Array.toList_append]
   have hB4 : ∀ {p : Value} {W : World}, Lib.BuilderAt 95 5 w.heap.size w.heap.size p (Lib.byteCells (qbT ByteArray.empty (l.take k)).data.toList ++ Lib.strCells s1) W → p = .pointer (some ⟨w.heap.size, 0, none⟩) → Lib.IsBuilder 95 5 w.heap.size w.heap.size (Lib.byteCells (qbT ByteArray.empty (l.take (k + 1))).data.toList) W := by
    rintro p W h rfl
    rw [eb]
    exact .inr h
   clear hK1 hz1 hz2 hz3 htk eb hfs ha1
   have HB4 := Aside0.mk @hB4
   clear hB4
   generalize hn1 : numO (bitN b3 1 + bitN b4 2) = n1 at N1 e1 O1
   generalize hff : qbV [d0, d1, d2] = ff at F1 e1 O1
   have E1 := Aside0.mk e1
   clear e1 hn1 hff
   go_wp2_with fail
   obtain ⟨W5, hW5⟩ : ∃ W5, W5 = wr.alloc (.cells #[.string d0, .string d1, .string d2, .bool b3, .bool b4] 56 (0, 0)) := ⟨_, rfl⟩
   have BK0 : W5.heap[wr.heap.size]? = some (.cells #[.string d0, .string d1, .string d2, .bool b3, .bool b4] 56 (0, 0)) := by rw [hW5]; exact qdw _ _
   have HW0 : Below wr.heap.size wr W5 := by rw [hW5]; exact qac (Below.refl _ _) _
   rw [← hW5]
   clear hW5
   have BK := Aside0.mk (qal BK0)
   have HW := Aside0.mk (qcf HW0)
   clear BK0 HW0
   obtain ⟨gd, hgd⟩ : ∃ gd, gd = wr.heap.size := ⟨_, rfl⟩
   have HGD := Aside0.mk hgd
   rw [← hgd] at BK ⊢
   clear hgd
   refine qen (n := 18) (S := fun w' => True) (ds := []) #[false, false, false, false, false, false, false, false, false, false, false, false, false, false, false, false, false, false] (by kernel_rfl) rfl rfl trivial (fun hHeld => ?_)
   refine qcV qdV.tab5 qdV.bits5 (fun HT_ HW_ => ?_)
   generalize W5.drew = wd at BK HW ⊢
   refine inv_at [0, 1, 2, 3, 4, 5, 6, 7, 8, 9, 10, 11, 12, 13, 14, 15, 16, 17] (fun a0_ b a w' => ∃ (z : Value), a = qcC a0_ b [(0, 16, .pointer (some ⟨gd, 3, none⟩)), (1, 17, .bool b3), (2, 18, .int .i64 (bitN b3 1)), (3, 19, .pointer (some ⟨gd, 4, none⟩)), (4, 20, .bool b4), (5, 21, .int .i64 (bitN b4 2)), (6, 22, .int .i64 (bitN b3 1 + bitN b4 2)), (7, 23, .string n1), (8, 24, .pointer (some ⟨gd, 0, none⟩)), (9, 25, .string d0), (10, 26, .pointer (some ⟨gd, 1, none⟩)), (11, 27, .string d1), (12, 28, .pointer (some ⟨gd, 2, none⟩)), (13, 29, .string d2), (14, 30, z), (15, 31, .string ff), (16, 32, .string s1), (17, 33, .tuple #[.int .i64 (s1.size : Int), .nilIface])] ∧ (b 17 = false → w'.heap[gd]? = some (.cells #[.string d0, .string d1, .string d2, .bool b3, .bool b4] 56 (0, 0))) ∧ (b 17 = false → Below wr.heap.size wr w') ∧ (b 14 = true → b 17 = false → Kd.R Kd.string 9 w' wr.heap.size (fun _ => True) z [d0, d1, d2]) ∧ (b 17 = true → Lib.IsBuilder 95 5 w.heap.size w.heap.size (Lib.byteCells (qbT ByteArray.empty (l.take (k + 1))).data.toList) w' ∧ Below w.heap.size wr w')) HT_.out HW_.out (by kernel_rfl) (by kernel_rfl) ?_ ?_ ?_
   ·exact ⟨.bool false, by simp only [qcC, Bool.false_eq_true, if_false], fun _ => BK.out, fun _ => HW.out, fun h_ => absurd h_ (by decide), fun h_ => absurd h_ (by decide)⟩
   ·skip
    clear BK HW
    refine qaZ ?_ ?_
    ·rintro b a w' ⟨z, ha, Q_BK, Q_HW, Q_FZ, Q_HX⟩ hb_ hon hoff
     refine ⟨_, rfl, fun K hK => ?_⟩
     have e5 : a.tmps[5]? = some (.pointer (some ⟨gd, 0, none⟩)) := by rw [ha]; exact (qb6 rfl).trans rfl
     replace ha := Aside0.mk ha
     have BK := Aside0.mk (Q_BK (hoff 17 (by kernel_rfl)))
     have HW := Aside0.mk (Q_HW (hoff 17 (by kernel_rfl)))
     refine qb9 (w1 := w') (v := .pointer (some ⟨gd, 3, none⟩)) (by rfl) rfl ?_ ?_
     ·go_simp
      (try simp only [qbe])
      try rfl
     refine hK.out _ _ ⟨z, (by rw [ha.out]; exact qa0 0 hb_ rfl rfl rfl), Q_BK, Q_HW, Q_FZ, fun h0_ => absurd ((hoff 17 (by kernel_rfl)).symm.trans h0_) (by decide)⟩
    refine qaZ ?_ ?_
    ·rintro b a w' ⟨z, ha, Q_BK, Q_HW, Q_FZ, Q_HX⟩ hb_ hon hoff
     refine ⟨_, rfl, fun K hK => ?_⟩
     have e16 : a.tmps[16]? = some (.pointer (some ⟨gd, 3, none⟩)) := by rw [ha]; exact qbg (e := (0, 16, .pointer (some ⟨gd, 3, none⟩))) 0 rfl rfl (hon 0 (by kernel_rfl)) rfl
     replace ha := Aside0.mk ha
     have BK := Aside0.mk (Q_BK (hoff 17 (by kernel_rfl)))
     have HW := Aside0.mk (Q_HW (hoff 17 (by kernel_rfl)))
     have hc0_ : w'.cell? ⟨gd, 0, none⟩ = some (.string d0) := (qad BK.out 0).trans rfl
     have hc1_ : w'.cell? ⟨gd, 1, none⟩ = some (.string d1) := (qad BK.out 1).trans rfl
     have hc2_ : w'.cell? ⟨gd, 2, none⟩ = some (.string d2) := (qad BK.out 2).trans rfl
     have hc3_ : w'.cell? ⟨gd, 3, none⟩ = some (.bool b3) := (qad BK.out 3).trans rfl
     have hc4_ : w'.cell? ⟨gd, 4, none⟩ = some (.bool b4) := (qad BK.out 4).trans rfl
     refine qb9 (w1 := w') (v := .bool b3) (by rfl) rfl ?_ ?_
     ·go_simp
      (try simp only [qbe])
      try rfl
     refine hK.out _ _ ⟨z, (by rw [ha.out]; exact qa0 1 hb_ rfl rfl rfl), Q_BK, Q_HW, Q_FZ, fun h0_ => absurd ((hoff 17 (by kernel_rfl)).symm.trans h0_) (by decide)⟩
    refine qaZ ?_ ?_
    ·rintro b a w' ⟨z, ha, Q_BK, Q_HW, Q_FZ, Q_HX⟩ hb_ hon hoff
     refine ⟨_, rfl, fun K hK => ?_⟩
     have e17 : a.tmps[17]? = some (.bool b3) := by rw [ha]; exact qbg (e := (1, 17, .bool b3)) 1 rfl rfl (hon 1 (by kernel_rfl)) rfl
     replace ha := Aside0.mk ha
     have BK := Aside0.mk (Q_BK (hoff 17 (by kernel_rfl)))
     have HW := Aside0.mk (Q_HW (hoff 17 (by kernel_rfl)))
     refine qdg Try.func72 (by kernel_rfl) rfl #[.bool b3, .int .i64 1] (by rfl) rfl rfl (by first | (simp only [List.map_toArray, List.map_cons, List.map_nil, Act.eval, Array.getD_eq_getD_getElem?, Option.getD_some, e17]; done) | (simp only [List.map_toArray, List.map_cons, List.map_nil, Act.eval, Array.getD_eq_getD_getElem?, Option.getD_some, e17]; rfl)) ?_
     refine (qd5.calls b3 1 _ w' (bit_is b3 1)).mono ?_
     rintro e_ w1 ⟨rfl, hd1⟩
     have hb1 : Below w'.heap.size w' w1 := by first | exact hd1 | exact hd1.below
     refine ⟨_, rfl, ?_⟩
     refine hK.out _ _ ⟨z, (by rw [ha.out]; exact qa0 2 hb_ rfl rfl rfl), fun _ => qao BK.out hb1, fun _ => qag HW.out hb1, fun h0_ h1_ => Kd.qaX (Q_FZ h0_ h1_) hb1, fun h0_ => absurd ((hoff 17 (by kernel_rfl)).symm.trans h0_) (by decide)⟩
    refine qaZ ?_ ?_
    ·rintro b a w' ⟨z, ha, Q_BK, Q_HW, Q_FZ, Q_HX⟩ hb_ hon hoff
     refine ⟨_, rfl, fun K hK => ?_⟩
     have e5 : a.tmps[5]? = some (.pointer (some ⟨gd, 0, none⟩)) := by rw [ha]; exact (qb6 rfl).trans rfl
     replace ha := Aside0.mk ha
     have BK := Aside0.mk (Q_BK (hoff 17 (by kernel_rfl)))
     have HW := Aside0.mk (Q_HW (hoff 17 (by kernel_rfl)))
     refine qb9 (w1 := w') (v := .pointer (some ⟨gd, 4, none⟩)) (by rfl) rfl ?_ ?_
     ·go_simp
      (try simp only [qbe])
      try rfl
     refine hK.out _ _ ⟨z, (by rw [ha.out]; exact qa0 3 hb_ rfl rfl rfl), Q_BK, Q_HW, Q_FZ, fun h0_ => absurd ((hoff 17 (by kernel_rfl)).symm.trans h0_) (by decide)⟩
    refine qaZ ?_ ?_
    ·rintro b a w' ⟨z, ha, Q_BK, Q_HW, Q_FZ, Q_HX⟩ hb_ hon hoff
     refine ⟨_, rfl, fun K hK => ?_⟩
     have e19 : a.tmps[19]? = some (.pointer (some ⟨gd, 4, none⟩)) := by rw [ha]; exact qbg (e := (3, 19, .pointer (some ⟨gd, 4, none⟩))) 3 rfl rfl (hon 3 (by kernel_rfl)) rfl
     replace ha := Aside0.mk ha
     have BK := Aside0.mk (Q_BK (hoff 17 (by kernel_rfl)))
     have HW := Aside0.mk (Q_HW (hoff 17 (by kernel_rfl)))
     have hc0_ : w'.cell? ⟨gd, 0, none⟩ = some (.string d0) := (qad BK.out 0).trans rfl
     have hc1_ : w'.cell? ⟨gd, 1, none⟩ = some (.string d1) := (qad BK.out 1).trans rfl
     have hc2_ : w'.cell? ⟨gd, 2, none⟩ = some (.string d2) := (qad BK.out 2).trans rfl
     have hc3_ : w'.cell? ⟨gd, 3, none⟩ = some (.bool b3) := (qad BK.out 3).trans rfl
     have hc4_ : w'.cell? ⟨gd, 4, none⟩ = some (.bool b4) := (qad BK.out 4).trans rfl
     refine qb9 (w1 := w') (v := .bool b4) (by rfl) rfl ?_ ?_
     ·go_simp
      (try simp only [qbe])
      try rfl
     refine hK.out _ _ ⟨z, (by rw [ha.out]; exact qa0 4 hb_ rfl rfl rfl), Q_BK, Q_HW, Q_FZ, fun h0_ => absurd ((hoff 17 (by kernel_rfl)).symm.trans h0_) (by decide)⟩
    refine qaZ ?_ ?_
    ·rintro b a w' ⟨z, ha, Q_BK, Q_HW, Q_FZ, Q_HX⟩ hb_ hon hoff
     refine ⟨_, rfl, fun K hK => ?_⟩
     have e20 : a.tmps[20]? = some (.bool b4) := by rw [ha]; exact qbg (e := (4, 20, .bool b4)) 4 rfl rfl (hon 4 (by kernel_rfl)) rfl
     replace ha := Aside0.mk ha
     have BK := Aside0.mk (Q_BK (hoff 17 (by kernel_rfl)))
     have HW := Aside0.mk (Q_HW (hoff 17 (by kernel_rfl)))
     refine qdg Try.func72 (by kernel_rfl) rfl #[.bool b4, .int .i64 2] (by rfl) rfl rfl (by first | (simp only [List.map_toArray, List.map_cons, List.map_nil, Act.eval, Array.getD_eq_getD_getElem?, Option.getD_some, e20]; done) | (simp only [List.map_toArray, List.map_cons, List.map_nil, Act.eval, Array.getD_eq_getD_getElem?, Option.getD_some, e20]; rfl)) ?_
     refine (qd5.calls b4 2 _ w' (bit_is b4 2)).mono ?_
     rintro e_ w1 ⟨rfl, hd1⟩
     have hb1 : Below w'.heap.size w' w1 := by first | exact hd1 | exact hd1.below
     refine ⟨_, rfl, ?_⟩
     refine hK.out _ _ ⟨z, (by rw [ha.out]; exact qa0 5 hb_ rfl rfl rfl), fun _ => qao BK.out hb1, fun _ => qag HW.out hb1, fun h0_ h1_ => Kd.qaX (Q_FZ h0_ h1_) hb1, fun h0_ => absurd ((hoff 17 (by kernel_rfl)).symm.trans h0_) (by decide)⟩
    refine qaZ ?_ ?_
    ·rintro b a w' ⟨z, ha, Q_BK, Q_HW, Q_FZ, Q_HX⟩ hb_ hon hoff
     refine ⟨_, rfl, fun K hK => ?_⟩
     have e18 : a.tmps[18]? = some (.int .i64 (bitN b3 1)) := by rw [ha]; exact qbg (e := (2, 18, .int .i64 (bitN b3 1))) 2 rfl rfl (hon 2 (by kernel_rfl)) rfl
     have e21 : a.tmps[21]? = some (.int .i64 (bitN b4 2)) := by rw [ha]; exact qbg (e := (5, 21, .int .i64 (bitN b4 2))) 5 rfl rfl (hon 5 (by kernel_rfl)) rfl
     replace ha := Aside0.mk ha
     have BK := Aside0.mk (Q_BK (hoff 17 (by kernel_rfl)))
     have HW := Aside0.mk (Q_HW (hoff 17 (by kernel_rfl)))
     refine qb9 (w1 := w') (v := .int .i64 (bitN b3 1 + bitN b4 2)) (by rfl) rfl ?_ ?_
     ·cases b3 <;> cases b4 <;> (simp only [bitN, Bool.false_eq_true, if_true, if_false] at e18 e21 ⊢; go_simp <;> rfl)
     refine hK.out _ _ ⟨z, (by rw [ha.out]; exact qa0 6 hb_ rfl rfl rfl), fun _ => BK.out, fun _ => HW.out, fun h0_ h1_ => (Q_FZ h0_ h1_), fun h0_ => absurd ((hoff 17 (by kernel_rfl)).symm.trans h0_) (by decide)⟩
    refine qaZ ?_ ?_
    ·rintro b a w' ⟨z, ha, Q_BK, Q_HW, Q_FZ, Q_HX⟩ hb_ hon hoff
     refine ⟨_, rfl, fun K hK => ?_⟩
     have e22 : a.tmps[22]? = some (.int .i64 (bitN b3 1 + bitN b4 2)) := by rw [ha]; exact qbg (e := (6, 22, .int .i64 (bitN b3 1 + bitN b4 2))) 6 rfl rfl (hon 6 (by kernel_rfl)) rfl
     replace ha := Aside0.mk ha
     have BK := Aside0.mk (Q_BK (hoff 17 (by kernel_rfl)))
     have HW := Aside0.mk (Q_HW (hoff 17 (by kernel_rfl)))
     refine qdg Try.func58 (by kernel_rfl) rfl #[.int .i64 (bitN b3 1 + bitN b4 2), .int .i64 1] (by rfl) rfl rfl (by first | (simp only [List.map_toArray, List.map_cons, List.map_nil, Act.eval, Array.getD_eq_getD_getElem?, Option.getD_some, e22]; done) | (simp only [List.map_toArray, List.map_cons, List.map_nil, Act.eval, Array.getD_eq_getD_getElem?, Option.getD_some, e22]; rfl)) ?_
     refine (qaR.calls K1 _ _ _ _ N1.out).mono ?_
     rintro e_ w1 ⟨rfl, hb1⟩
     refine ⟨_, rfl, ?_⟩
     refine hK.out _ _ ⟨z, (by rw [ha.out]; exact qa0 7 hb_ rfl rfl rfl), fun _ => qao BK.out hb1, fun _ => qag HW.out hb1, fun h0_ h1_ => Kd.qaX (Q_FZ h0_ h1_) hb1, fun h0_ => absurd ((hoff 17 (by kernel_rfl)).symm.trans h0_) (by decide)⟩
    refine qaZ ?_ ?_
    ·rintro b a w' ⟨z, ha, Q_BK, Q_HW, Q_FZ, Q_HX⟩ hb_ hon hoff
     refine ⟨_, rfl, fun K hK => ?_⟩
     have e5 : a.tmps[5]? = some (.pointer (some ⟨gd, 0, none⟩)) := by rw [ha]; exact (qb6 rfl).trans rfl
     replace ha := Aside0.mk ha
     have BK := Aside0.mk (Q_BK (hoff 17 (by kernel_rfl)))
     have HW := Aside0.mk (Q_HW (hoff 17 (by kernel_rfl)))
     refine qb9 (w1 := w') (v := .pointer (some ⟨gd, 0, none⟩)) (by rfl) rfl ?_ ?_
     ·go_simp
      (try simp only [qbe])
      try rfl
     refine hK.out _ _ ⟨z, (by rw [ha.out]; exact qa0 8 hb_ rfl rfl rfl), Q_BK, Q_HW, fun h0_ _ => absurd ((hoff 14 (by kernel_rfl)).symm.trans h0_) (by decide), fun h0_ => absurd ((hoff 17 (by kernel_rfl)).symm.trans h0_) (by decide)⟩
    refine qaZ ?_ ?_
    ·rintro b a w' ⟨z, ha, Q_BK, Q_HW, Q_FZ, Q_HX⟩ hb_ hon hoff
     refine ⟨_, rfl, fun K hK => ?_⟩
     have e24 : a.tmps[24]? = some (.pointer (some ⟨gd, 0, none⟩)) := by rw [ha]; exact qbg (e := (8, 24, .pointer (some ⟨gd, 0, none⟩))) 8 rfl rfl (hon 8 (by kernel_rfl)) rfl
     replace ha := Aside0.mk ha
     have BK := Aside0.mk (Q_BK (hoff 17 (by kernel_rfl)))
     have HW := Aside0.mk (Q_HW (hoff 17 (by kernel_rfl)))
     have hc0_ : w'.cell? ⟨gd, 0, none⟩ = some (.string d0) := (qad BK.out 0).trans rfl
     have hc1_ : w'.cell? ⟨gd, 1, none⟩ = some (.string d1) := (qad BK.out 1).trans rfl
     have hc2_ : w'.cell? ⟨gd, 2, none⟩ = some (.string d2) := (qad BK.out 2).trans rfl
     have hc3_ : w'.cell? ⟨gd, 3, none⟩ = some (.bool b3) := (qad BK.out 3).trans rfl
     have hc4_ : w'.cell? ⟨gd, 4, none⟩ = some (.bool b4) := (qad BK.out 4).trans rfl
     refine qb9 (w1 := w') (v := .string d0) (by rfl) rfl ?_ ?_
     ·go_simp
      (try simp only [qbe])
      try rfl
     refine hK.out _ _ ⟨z, (by rw [ha.out]; exact qa0 9 hb_ rfl rfl rfl), Q_BK, Q_HW, fun h0_ _ => absurd ((hoff 14 (by kernel_rfl)).symm.trans h0_) (by decide), fun h0_ => absurd ((hoff 17 (by kernel_rfl)).symm.trans h0_) (by decide)⟩
    refine qaZ ?_ ?_
    ·rintro b a w' ⟨z, ha, Q_BK, Q_HW, Q_FZ, Q_HX⟩ hb_ hon hoff
     refine ⟨_, rfl, fun K hK => ?_⟩
     have e5 : a.tmps[5]? = some (.pointer (some ⟨gd, 0, none⟩)) := by rw [ha]; exact (qb6 rfl).trans rfl
     replace ha := Aside0.mk ha
     have BK := Aside0.mk (Q_BK (hoff 17 (by kernel_rfl)))
     have HW := Aside0.mk (Q_HW (hoff 17 (by kernel_rfl)))
     refine qb9 (w1 := w') (v := .pointer (some ⟨gd, 1, none⟩)) (by rfl) rfl ?_ ?_
     ·go_simp
      (try simp only [qbe])
      try rfl
     refine hK.out _ _ ⟨z, (by rw [ha.out]; exact qa0 10 hb_ rfl rfl rfl), Q_BK, Q_HW, fun h0_ _ => absurd ((hoff 14 (by kernel_rfl)).symm.trans h0_) (by decide), fun h0_ => absurd ((hoff 17 (by kernel_rfl)).symm.trans h0_) (by decide)⟩
    refine qaZ ?_ ?_
    ·rintro b a w' ⟨z, ha, Q_BK, Q_HW, Q_FZ, Q_HX⟩ hb_ hon hoff
     refine ⟨_, rfl, fun K hK => ?_⟩
     have e26 : a.tmps[26]? = some (.pointer (some ⟨gd, 1, none⟩)) := by rw [ha]; exact qbg (e := (10, 26, .pointer (some ⟨gd, 1, none⟩))) 10 rfl rfl (hon 10 (by kernel_rfl)) rfl
     replace ha := Aside0.mk ha
     have BK := Aside0.mk (Q_BK (hoff 17 (by kernel_rfl)))
     have HW := Aside0.mk (Q_HW (hoff 17 (by kernel_rfl)))
     have hc0_ : w'.cell? ⟨gd, 0, none⟩ = some (.string d0) := (qad BK.out 0).trans rfl
     have hc1_ : w'.cell? ⟨gd, 1, none⟩ = some (.string d1) := (qad BK.out 1).trans rfl
     have hc2_ : w'.cell? ⟨gd, 2, none⟩ = some (.string d2) := (qad BK.out 2).trans rfl
     have hc3_ : w'.cell? ⟨gd, 3, none⟩ = some (.bool b3) := (qad BK.out 3).trans rfl
     have hc4_ : w'.cell? ⟨gd, 4, none⟩ = some (.bool b4) := (qad BK.out 4).trans rfl
     refine qb9 (w1 := w') (v := .string d1) (by rfl) rfl ?_ ?_
     ·go_simp
      (try simp only [qbe])
      try rfl
     refine hK.out _ _ ⟨z, (by rw [ha.out]; exact qa0 11 hb_ rfl rfl rfl), Q_BK, Q_HW, fun h0_ _ => absurd ((hoff 14 (by kernel_rfl)).symm.trans h0_) (by decide), fun h0_ => absurd ((hoff 17 (by kernel_rfl)).symm.trans h0_) (by decide)⟩
    refine qaZ ?_ ?_
    ·rintro b a w' ⟨z, ha, Q_BK, Q_HW, Q_FZ, Q_HX⟩ hb_ hon hoff
     refine ⟨_, rfl, fun K hK => ?_⟩
     have e5 : a.tmps[5]? = some (.pointer (some ⟨gd, 0, none⟩)) := by rw [ha]; exact (qb6 rfl).trans rfl
     replace ha := Aside0.mk ha
     have BK := Aside0.mk (Q_BK (hoff 17 (by kernel_rfl)))
     have HW := Aside0.mk (Q_HW (hoff 17 (by kernel_rfl)))
     refine qb9 (w1 := w') (v := .pointer (some ⟨gd, 2, none⟩)) (by rfl) rfl ?_ ?_
     ·go_simp
      (try simp only [qbe])
      try rfl
     refine hK.out _ _ ⟨z, (by rw [ha.out]; exact qa0 12 hb_ rfl rfl rfl), Q_BK, Q_HW, fun h0_ _ => absurd ((hoff 14 (by kernel_rfl)).symm.trans h0_) (by decide), fun h0_ => absurd ((hoff 17 (by kernel_rfl)).symm.trans h0_) (by decide)⟩
    refine qaZ ?_ ?_
    ·rintro b a w' ⟨z, ha, Q_BK, Q_HW, Q_FZ, Q_HX⟩ hb_ hon hoff
     refine ⟨_, rfl, fun K hK => ?_⟩
     have e28 : a.tmps[28]? = some (.pointer (some ⟨gd, 2, none⟩)) := by rw [ha]; exact qbg (e := (12, 28, .pointer (some ⟨gd, 2, none⟩))) 12 rfl rfl (hon 12 (by kernel_rfl)) rfl
     replace ha := Aside0.mk ha
     have BK := Aside0.mk (Q_BK (hoff 17 (by kernel_rfl)))
     have HW := Aside0.mk (Q_HW (hoff 17 (by kernel_rfl)))
     have hc0_ : w'.cell? ⟨gd, 0, none⟩ = some (.string d0) := (qad BK.out 0).trans rfl
     have hc1_ : w'.cell? ⟨gd, 1, none⟩ = some (.string d1) := (qad BK.out 1).trans rfl
     have hc2_ : w'.cell? ⟨gd, 2, none⟩ = some (.string d2) := (qad BK.out 2).trans rfl
     have hc3_ : w'.cell? ⟨gd, 3, none⟩ = some (.bool b3) := (qad BK.out 3).trans rfl
     have hc4_ : w'.cell? ⟨gd, 4, none⟩ = some (.bool b4) := (qad BK.out 4).trans rfl
     refine qb9 (w1 := w') (v := .string d2) (by rfl) rfl ?_ ?_
     ·go_simp
      (try simp only [qbe])
      try rfl
     refine hK.out _ _ ⟨z, (by rw [ha.out]; exact qa0 13 hb_ rfl rfl rfl), Q_BK, Q_HW, fun h0_ _ => absurd ((hoff 14 (by kernel_rfl)).symm.trans h0_) (by decide), fun h0_ => absurd ((hoff 17 (by kernel_rfl)).symm.trans h0_) (by decide)⟩
    refine qaZ ?_ ?_
    ·rintro b a w' ⟨z, ha, Q_BK, Q_HW, Q_FZ, Q_HX⟩ hb_ hon hoff
     refine ⟨_, rfl, fun K hK => ?_⟩
     have e25 : a.tmps[25]? = some (.string d0) := by rw [ha]; exact qbg (e := (9, 25, .string d0)) 9 rfl rfl (hon 9 (by kernel_rfl)) rfl
     have e27 : a.tmps[27]? = some (.string d1) := by rw [ha]; exact qbg (e := (11, 27, .string d1)) 11 rfl rfl (hon 11 (by kernel_rfl)) rfl
     have e29 : a.tmps[29]? = some (.string d2) := by rw [ha]; exact qbg (e := (13, 29, .string d2)) 13 rfl rfl (hon 13 (by kernel_rfl)) rfl
     replace ha := Aside0.mk ha
     have BK := Aside0.mk (Q_BK (hoff 17 (by kernel_rfl)))
     have HW := Aside0.mk (Q_HW (hoff 17 (by kernel_rfl)))
     refine Kd.qci Kd.string wr.heap.size 9 (by rfl) (N := 30) (by rfl) (xs := ([d0, d1, d2] : List ByteArray)) (inner := [.string d0, .string d1, .string d2]) (ok := fun _ => True) (okp := fun _ => True) ?hr ?hp (fun _ hk => hk) trivial HW.out HW.out.size (by simp) ?_
     case hr => first | (go_simp; done) | (go_simp; rfl)
     case hp => exact (Reps.one (show Kd.M Kd.string _ _ _ d0 [.string d0] from rfl) (Reps.one (show Kd.M Kd.string _ _ _ d1 [.string d1] from rfl) (Reps.one (show Kd.M Kd.string _ _ _ d2 [.string d2] from rfl) (Reps.none _ _))))
     intro z1 w1 hz hbz hgz hoz
     refine hK.out _ _ ⟨z1, (by rw [ha.out]; exact qa0 14 hb_ rfl rfl rfl), fun _ => qdj BK.out hgz (by simp), fun _ => hbz, fun _ _ => hz, fun h0_ => absurd ((hoff 17 (by kernel_rfl)).symm.trans h0_) (by decide)⟩
    refine qaZ ?_ ?_
    ·rintro b a w' ⟨z, ha, Q_BK, Q_HW, Q_FZ, Q_HX⟩ hb_ hon hoff
     refine ⟨_, rfl, fun K hK => ?_⟩
     have e30 : a.tmps[30]? = some (z) := by rw [ha]; exact qbg (e := (14, 30, z)) 14 rfl rfl (hon 14 (by kernel_rfl)) rfl
     replace ha := Aside0.mk ha
     have BK := Aside0.mk (Q_BK (hoff 17 (by kernel_rfl)))
     have HW := Aside0.mk (Q_HW (hoff 17 (by kernel_rfl)))
     have FZ := Aside0.mk (Q_FZ (hon 14 (by kernel_rfl)) (hoff 17 (by kernel_rfl)))
     obtain ⟨A_, c_, ez_, hcz_, hCz_⟩ := Kd.qdx FZ.out
     subst ez_
     refine qdg Try.func59 (by kernel_rfl) rfl #[.slice A_ [d0, d1, d2].length c_] (by rfl) rfl rfl (by first | (simp only [List.map_toArray, List.map_cons, List.map_nil, Act.eval, Array.getD_eq_getD_getElem?, Option.getD_some, e30]; done) | (simp only [List.map_toArray, List.map_cons, List.map_nil, Act.eval, Array.getD_eq_getD_getElem?, Option.getD_some, e30]; rfl)) ?_
     refine (qb8.calls _ c_ [d0, d1, d2] _ _ hCz_ hcz_ F1.out).mono ?_
     rintro e_ w1 ⟨rfl, hb1⟩
     refine ⟨_, rfl, ?_⟩
     refine hK.out _ _ ⟨.slice A_ [d0, d1, d2].length c_, (by rw [ha.out]; exact qa0 15 hb_ rfl rfl rfl), fun _ => qao BK.out hb1, fun _ => qag HW.out hb1, fun _ _ => Kd.qaX FZ.out hb1, fun h0_ => absurd ((hoff 17 (by kernel_rfl)).symm.trans h0_) (by decide)⟩
    refine qaZ ?_ ?_
    ·rintro b a w' ⟨z, ha, Q_BK, Q_HW, Q_FZ, Q_HX⟩ hb_ hon hoff
     refine ⟨_, rfl, fun K hK => ?_⟩
     have e23 : a.tmps[23]? = some (.string n1) := by rw [ha]; exact qbg (e := (7, 23, .string n1)) 7 rfl rfl (hon 7 (by kernel_rfl)) rfl
     have e31 : a.tmps[31]? = some (.string ff) := by rw [ha]; exact qbg (e := (15, 31, .string ff)) 15 rfl rfl (hon 15 (by kernel_rfl)) rfl
     replace ha := Aside0.mk ha
     have BK := Aside0.mk (Q_BK (hoff 17 (by kernel_rfl)))
     have HW := Aside0.mk (Q_HW (hoff 17 (by kernel_rfl)))
     have FZ := Aside0.mk (Q_FZ (hon 14 (by kernel_rfl)) (hoff 17 (by kernel_rfl)))
     have hov_ := O1.out
     have hes_ := E1.out.symm
     refine qb9 (w1 := w') (v := .string s1) (by rfl) rfl ?_ ?_
     ·go_simp
      (try simp only [qbe])
      try rfl
     refine hK.out _ _ ⟨z, (by rw [ha.out]; exact qa0 16 hb_ rfl rfl rfl), Q_BK, Q_HW, Q_FZ, fun h0_ => absurd ((hoff 17 (by kernel_rfl)).symm.trans h0_) (by decide)⟩
    refine qaZ ?_ ?_
    ·rintro b a w' ⟨z, ha, Q_BK, Q_HW, Q_FZ, Q_HX⟩ hb_ hon hoff
     refine ⟨_, rfl, fun K hK => ?_⟩
     have e3 : a.tmps[3]? = some (.pointer (some ⟨w.heap.size, 0, none⟩)) := by rw [ha]; exact (qb6 rfl).trans rfl
     have e32 : a.tmps[32]? = some (.string s1) := by rw [ha]; exact qbg (e := (16, 32, .string s1)) 16 rfl rfl (hon 16 (by kernel_rfl)) rfl
     replace ha := Aside0.mk ha
     have BK := Aside0.mk (Q_BK hb_)
     have HW := Aside0.mk (Q_HW hb_)
     have FZ := Aside0.mk (Q_FZ (hon 14 (by kernel_rfl)) hb_)
     refine qdg Try.func68 (by kernel_rfl) rfl #[.pointer (some ⟨w.heap.size, 0, none⟩), .string s1] (by rfl) rfl rfl (by first | (simp only [List.map_toArray, List.map_cons, List.map_nil, Act.eval, Array.getD_eq_getD_getElem?, Option.getD_some, e3, e32]; done) | (simp only [List.map_toArray, List.map_cons, List.map_nil, Act.eval, Array.getD_eq_getD_getElem?, Option.getD_some, e3, e32]; rfl)) ?_
     refine (qdn w.heap.size w.heap.size _ s1 _ (qdo HI.out HW.out) HL.out (Nat.le_trans HBw.out.size HW.out.size)).mono ?_
     rintro e_ w1 ⟨rfl, hB3, hb3⟩
     refine ⟨_, rfl, ?_⟩
     refine hK.out _ _ ⟨z, (by rw [ha.out]; exact qa0 17 hb_ rfl rfl rfl), fun h0_ => absurd ((qed b 17).symm.trans h0_) (by decide), fun h0_ => absurd ((qed b 17).symm.trans h0_) (by decide), fun _ h1_ => absurd ((qed b 17).symm.trans h1_) (by decide), fun _ => ⟨HB4.out hB3 rfl, (HW.out.mono HBw.out.size).trans hb3⟩⟩
    exact qgr
   rintro b a w' hall ⟨z, ha, Q_BK, Q_HW, Q_FZ, Q_HX⟩
   clear BK HW
   have hb0_ := hall 0 (by kernel_rfl)
   have hb1_ := hall 1 (by kernel_rfl)
   have hb2_ := hall 2 (by kernel_rfl)
   have hb3_ := hall 3 (by kernel_rfl)
   have hb4_ := hall 4 (by kernel_rfl)
   have hb5_ := hall 5 (by kernel_rfl)
   have hb6_ := hall 6 (by kernel_rfl)
   have hb7_ := hall 7 (by kernel_rfl)
   have hb8_ := hall 8 (by kernel_rfl)
   have hb9_ := hall 9 (by kernel_rfl)
   have hb10_ := hall 10 (by kernel_rfl)
   have hb11_ := hall 11 (by kernel_rfl)
   have hb12_ := hall 12 (by kernel_rfl)
   have hb13_ := hall 13 (by kernel_rfl)
   have hb14_ := hall 14 (by kernel_rfl)
   have hb15_ := hall 15 (by kernel_rfl)
   have hb16_ := hall 16 (by kernel_rfl)
   have hb17_ := hall 17 (by kernel_rfl)
   subst ha
   simp only [qcC, hb0_, hb1_, hb2_, hb3_, hb4_, hb5_, hb6_, hb7_, hb8_, hb9_, hb10_, hb11_, hb12_, hb13_, hb14_, hb15_, hb16_, hb17_, if_true, Act.put, List.setIfInBounds_toArray, List.set_cons_zero, List.set_cons_succ]
   clear Q_BK Q_HW Q_FZ
   have HX := Aside0.mk (Q_HX hb17_)
   clear Q_HX hall hb0_ hb1_ hb2_ hb3_ hb4_ hb5_ hb6_ hb7_ hb8_ hb9_ hb10_ hb11_ hb12_ hb13_ hb14_ hb15_ hb16_ hb17_
   go_wp2_with fail
   exact ⟨⟨k + 1, by omega, rfl, ⟨HX.out.1⟩, ⟨HBw.out.trans HX.out.2⟩⟩, by simp [intOf]; omega⟩
  ·have e : k = l.length := by omega
   have c1 : decide ((k : Int) < (l.length : Int)) = false := decide_eq_false (by omega)
   have e9 : l.take k = l := by rw [e, List.take_length]
   rw [e9] at HI
   go_wp2_with fail
   refine (qez w.heap.size w.heap.size _ _ HI.out HBw.out.size).mono ?_
   rintro e w2 ⟨rfl, hb2⟩
   go_wp2_with fail
   go_ret
   exact ⟨by first | rfl | simp [bodyT], HBw.out.trans hb2⟩
def qdW.T1 : Bool × List (List Nat × List Nat) := (true, [([], []), ([0], [0]), ([1], [1]), ([2], [2]), ([3], [3]), ([], []), ([5], [5]), ([6], [6]), ([7], [7]), ([], []), ([9], [9]), ([10], [10]), ([11], [11]), ([8, 12], [8, 12]), ([13, 4], [13]), ([4, 14], [4, 14]), ([], []), ([16, 14], [16]), ([15, 17], [15, 17]), ([], []), ([19], [19]), ([20], [20]), ([21], [21]), ([22, 17], [22]), ([18, 23], [18, 23]), ([24, 23], [24]), ([25, 25, 0, 1, 2, 3, 4, 5, 6, 7, 8, 9, 10, 11, 12, 13, 14, 15, 16, 17, 18, 19, 20, 21, 22, 23, 24, 25], [25])])
def qdW.B1 : List Nat := [0, 1, 3, 7, 15, 0, 32, 96, 224, 0, 512, 1536, 3584, 8160, 16383, 32767, 0, 98303, 262143, 0, 524288, 1572864, 3670016, 8093695, 16777215, 33554431, 67108863]
theorem qdW.tab1 : rtab .any (opsOf Try.f41 1) = qdW.T1 := by kernel_rfl
theorem qdW.bits1 : qcs qdW.T1.2 qdW.B1 = true := by kernel_rfl
def linkT (fr tx : ByteArray) (chain : Int) (l : List S56) (sum : Int) : ByteArray := ((numF chain ++ qbV [fr, tx]) ++ bodyT l) ++ numF sum
set_option maxRecDepth 100000 in
set_option maxHeartbeats 8000000 in
theorem bak_link (g : Nat) (fr tx : ByteArray) (chain : Int) (A : Option Addr) (c : Nat) (l : List S56) (sum : Int) (w : World) (hb : w.heap[g]? = some (.cells #[.string fr, .string tx, .int .i64 chain, .slice A l.length c, .int .i64 sum] 41 (0, 0))) (hr : Kd.C k56 w A l.length l) (hc : l.length ≤ c) (hf : qeA fr tx l) :
  Calls Try.prog 41 #[.pointer (some ⟨g, 0, none⟩)] w fun e w' => e = .returned (.int .i64 (qcQ (bytesOf (linkT fr tx chain l sum)))) ∧ Below w.heap.size w w' := by
 have hu := Try.underlying41
 obtain ⟨K1, hK1⟩ := qeI chain
 have N1 := Aside0.mk (hK1 K1 (Nat.le_refl _))
 obtain ⟨K2, hK2⟩ := qeI sum
 have N2 := Aside0.mk (hK2 K2 (Nat.le_refl _))
 have F1 := Aside0.mk (qhH fr tx hf.1 hf.2.1)
 have z1 : (numF chain).size ≤ 4 := Nat.le_of_eq (qdU _)
 have z2 : (qbV [fr, tx]).size ≤ 2005 := qdp fr tx hf.1 hf.2.1
 have z3 : (bodyT l).size ≤ 3008000 := by
  have := qdh l ByteArray.empty hf.2.2.2
  have e0 : ByteArray.empty.size = 0 := rfl
  have := hf.2.2.1
  unfold bodyT
  omega
 have z4 : (numF sum).size ≤ 4 := Nat.le_of_eq (qdU _)
 obtain ⟨s1, e1⟩ : ∃ s1, s1 = numF chain ++ qbV [fr, tx] := ⟨_, rfl⟩
 have y1 : s1.size ≤ 2009 := by rw [e1, ByteArray.size_append]; omega
 obtain ⟨s2, e2⟩ : ∃ s2, s2 = s1 ++ bodyT l := ⟨_, rfl⟩
 have y2 : s2.size ≤ 3010009 := by rw [e2, ByteArray.size_append]; omega
 obtain ⟨s3, e3⟩ : ∃ s3, s3 = s2 ++ numF sum := ⟨_, rfl⟩
 have y3 : s3.size ≤ 3010013 := by rw [e3, ByteArray.size_append]; omega
 have SM := Aside0.mk (show qcJ.f s3 = some (qcQ (bytesOf s3)) from by unfold qcJ.f; rw [if_pos (by omega)])
 have ES := Aside0.mk (show s3 = linkT fr tx chain l sum from by rw [e3, e2, e1]; rfl)
 have O1 := Aside0.mk (ovS z1 z2 (by omega))
 have O2 := Aside0.mk (ovS y1 z3 (by omega))
 have O3 := Aside0.mk (ovS y2 z4 (by omega))
 have BD := Aside0.mk (show bodyT l = bodyT l from rfl)
 have HF := Aside0.mk hf
 have HR := Aside0.mk hr
 have HC := Aside0.mk hc
 clear hK1 hK2 hf hr hc
 generalize hn1 : numF chain = n1 at N1 e1 O1 z1
 generalize hff : qbV [fr, tx] = ff at F1 e1 O1 z2
 generalize hn2 : numF sum = n2 at N2 e3 O3 z4
 generalize hbd : bodyT l = bd at e2 O2 z3
 generalize hsm : qcQ (bytesOf s3) = sm at SM
 have E1 := Aside0.mk e1
 have E2 := Aside0.mk e2
 have E3 := Aside0.mk e3
 have HBD := Aside0.mk hbd
 have HSM := Aside0.mk hsm
 clear e1 e2 e3 z1 z2 z3 z4 y1 y2 y3 hn1 hff hn2 hbd hsm
 have HB := Aside0.mk (qcf (Below.refl w.heap.size w))
 have BK := Aside0.mk (qal hb)
 clear hb
 go_enter Try.func41, Try.ntmps41
 go_wp2_with fail
 refine qen (n := 27) (S := fun w' => True) (ds := []) #[false, false, false, false, false, false, false, false, false, false, false, false, false, false, false, false, false, false, false, false, false, false, false, false, false, false, false] (by kernel_rfl) rfl rfl trivial (fun hHeld => ?_)
 refine qcV qdW.tab1 qdW.bits1 (fun HT_ HW_ => ?_)
 generalize w.drew = wd at BK HB ⊢
 refine inv_at [0, 1, 2, 3, 4, 5, 6, 7, 8, 9, 10, 11, 12, 13, 14, 15, 16, 17, 18, 19, 20, 21, 22, 23, 24, 25, 26] (fun a0_ b a w' => ∃ (z : Value), a = qcC a0_ b [(0, 3, .pointer (some ⟨g, 0, none⟩)), (1, 4, .pointer (some ⟨g, 0, none⟩)), (2, 5, .pointer (some ⟨g, 2, none⟩)), (3, 6, .int .i64 chain), (4, 7, .string n1), (5, 8, .pointer (some ⟨g, 0, none⟩)), (6, 9, .pointer (some ⟨g, 0, none⟩)), (7, 10, .pointer (some ⟨g, 0, none⟩)), (8, 11, .string fr), (9, 12, .pointer (some ⟨g, 0, none⟩)), (10, 13, .pointer (some ⟨g, 0, none⟩)), (11, 14, .pointer (some ⟨g, 1, none⟩)), (12, 15, .string tx), (13, 16, z), (14, 17, .string ff), (15, 18, .string s1), (16, 19, .pointer (some ⟨g, 0, none⟩)), (17, 20, .string bd), (18, 21, .string s2), (19, 22, .pointer (some ⟨g, 0, none⟩)), (20, 23, .pointer (some ⟨g, 0, none⟩)), (21, 24, .pointer (some ⟨g, 4, none⟩)), (22, 25, .int .i64 sum), (23, 26, .string n2), (24, 27, .string s3), (25, 28, .int .i64 sm), (26, 2, .int .i64 sm)] ∧ (w'.heap[g]? = some (.cells #[.string fr, .string tx, .int .i64 chain, .slice A l.length c, .int .i64 sum] 41 (0, 0))) ∧ (Below w.heap.size w w') ∧ (b 13 = true → Kd.R Kd.string 9 w' w.heap.size (fun _ => True) z [fr, tx])) HT_.out HW_.out (by kernel_rfl) (by kernel_rfl) ?_ ?_ ?_
 ·exact ⟨.bool false, by simp only [qcC, Bool.false_eq_true, if_false], BK.out, HB.out, fun h_ => absurd h_ (by decide)⟩
 ·skip
  clear BK HB
  refine qaZ ?_ ?_
  ·rintro b a w' ⟨z, ha, Q_BK, Q_HB, Q_FZ⟩ hb_ hon hoff
   refine ⟨_, rfl, fun K hK => ?_⟩
   have e0 : a.tmps[0]? = some (.pointer (some ⟨g, 0, none⟩)) := by rw [ha]; exact (qb6 rfl).trans rfl
   replace ha := Aside0.mk ha
   have BK := Aside0.mk Q_BK
   have HB := Aside0.mk Q_HB
   refine qb9 (w1 := w') (v := .pointer (some ⟨g, 0, none⟩)) (by rfl) rfl ?_ ?_
   ·go_simp
    (try simp only [qbe])
    try rfl
   refine hK.out _ _ ⟨z, (by rw [ha.out]; exact qa0 0 hb_ rfl rfl rfl), Q_BK, Q_HB, Q_FZ⟩
  refine qaZ ?_ ?_
  ·rintro b a w' ⟨z, ha, Q_BK, Q_HB, Q_FZ⟩ hb_ hon hoff
   refine ⟨_, rfl, fun K hK => ?_⟩
   have e3 : a.tmps[3]? = some (.pointer (some ⟨g, 0, none⟩)) := by rw [ha]; exact qbg (e := (0, 3, .pointer (some ⟨g, 0, none⟩))) 0 rfl rfl (hon 0 (by kernel_rfl)) rfl
   replace ha := Aside0.mk ha
   have BK := Aside0.mk Q_BK
   have HB := Aside0.mk Q_HB
   refine qb9 (w1 := w') (v := .pointer (some ⟨g, 0, none⟩)) (by rfl) rfl ?_ ?_
   ·go_simp
    (try simp only [qbe])
    try rfl
   refine hK.out _ _ ⟨z, (by rw [ha.out]; exact qa0 1 hb_ rfl rfl rfl), Q_BK, Q_HB, Q_FZ⟩
  refine qaZ ?_ ?_
  ·rintro b a w' ⟨z, ha, Q_BK, Q_HB, Q_FZ⟩ hb_ hon hoff
   refine ⟨_, rfl, fun K hK => ?_⟩
   have e4 : a.tmps[4]? = some (.pointer (some ⟨g, 0, none⟩)) := by rw [ha]; exact qbg (e := (1, 4, .pointer (some ⟨g, 0, none⟩))) 1 rfl rfl (hon 1 (by kernel_rfl)) rfl
   replace ha := Aside0.mk ha
   have BK := Aside0.mk Q_BK
   have HB := Aside0.mk Q_HB
   refine qb9 (w1 := w') (v := .pointer (some ⟨g, 2, none⟩)) (by rfl) rfl ?_ ?_
   ·go_simp
    (try simp only [qbe])
    try rfl
   refine hK.out _ _ ⟨z, (by rw [ha.out]; exact qa0 2 hb_ rfl rfl rfl), Q_BK, Q_HB, Q_FZ⟩
  refine qaZ ?_ ?_
  ·rintro b a w' ⟨z, ha, Q_BK, Q_HB, Q_FZ⟩ hb_ hon hoff
   refine ⟨_, rfl, fun K hK => ?_⟩
   have e5 : a.tmps[5]? = some (.pointer (some ⟨g, 2, none⟩)) := by rw [ha]; exact qbg (e := (2, 5, .pointer (some ⟨g, 2, none⟩))) 2 rfl rfl (hon 2 (by kernel_rfl)) rfl
   replace ha := Aside0.mk ha
   have BK := Aside0.mk Q_BK
   have HB := Aside0.mk Q_HB
   have hc0_ : w'.cell? ⟨g, 0, none⟩ = some (.string fr) := (qad BK.out 0).trans rfl
   have hc1_ : w'.cell? ⟨g, 1, none⟩ = some (.string tx) := (qad BK.out 1).trans rfl
   have hc2_ : w'.cell? ⟨g, 2, none⟩ = some (.int .i64 chain) := (qad BK.out 2).trans rfl
   have hc3_ : w'.cell? ⟨g, 3, none⟩ = some (.slice A l.length c) := (qad BK.out 3).trans rfl
   have hc4_ : w'.cell? ⟨g, 4, none⟩ = some (.int .i64 sum) := (qad BK.out 4).trans rfl
   refine qb9 (w1 := w') (v := .int .i64 chain) (by rfl) rfl ?_ ?_
   ·go_simp
    (try simp only [qbe])
    try rfl
   refine hK.out _ _ ⟨z, (by rw [ha.out]; exact qa0 3 hb_ rfl rfl rfl), Q_BK, Q_HB, Q_FZ⟩
  refine qaZ ?_ ?_
  ·rintro b a w' ⟨z, ha, Q_BK, Q_HB, Q_FZ⟩ hb_ hon hoff
   refine ⟨_, rfl, fun K hK => ?_⟩
   have e6 : a.tmps[6]? = some (.int .i64 chain) := by rw [ha]; exact qbg (e := (3, 6, .int .i64 chain)) 3 rfl rfl (hon 3 (by kernel_rfl)) rfl
   replace ha := Aside0.mk ha
   have BK := Aside0.mk Q_BK
   have HB := Aside0.mk Q_HB
   refine qdg Try.func58 (by kernel_rfl) rfl #[.int .i64 chain, .int .i64 4] (by rfl) rfl rfl (by first | (simp only [List.map_toArray, List.map_cons, List.map_nil, Act.eval, Array.getD_eq_getD_getElem?, Option.getD_some, e6]; done) | (simp only [List.map_toArray, List.map_cons, List.map_nil, Act.eval, Array.getD_eq_getD_getElem?, Option.getD_some, e6]; rfl)) ?_
   refine (qaR.calls K1 _ _ _ _ N1.out).mono ?_
   rintro e_ w1 ⟨rfl, hb1⟩
   refine ⟨_, rfl, ?_⟩
   refine hK.out _ _ ⟨z, (by rw [ha.out]; exact qa0 4 hb_ rfl rfl rfl), qao BK.out hb1, qag HB.out hb1, fun h0_ => Kd.qaX (Q_FZ h0_) hb1⟩
  refine qaZ ?_ ?_
  ·rintro b a w' ⟨z, ha, Q_BK, Q_HB, Q_FZ⟩ hb_ hon hoff
   refine ⟨_, rfl, fun K hK => ?_⟩
   have e0 : a.tmps[0]? = some (.pointer (some ⟨g, 0, none⟩)) := by rw [ha]; exact (qb6 rfl).trans rfl
   replace ha := Aside0.mk ha
   have BK := Aside0.mk Q_BK
   have HB := Aside0.mk Q_HB
   refine qb9 (w1 := w') (v := .pointer (some ⟨g, 0, none⟩)) (by rfl) rfl ?_ ?_
   ·go_simp
    (try simp only [qbe])
    try rfl
   refine hK.out _ _ ⟨z, (by rw [ha.out]; exact qa0 5 hb_ rfl rfl rfl), Q_BK, Q_HB, fun h0_ => absurd ((hoff 13 (by kernel_rfl)).symm.trans h0_) (by decide)⟩
  refine qaZ ?_ ?_
  ·rintro b a w' ⟨z, ha, Q_BK, Q_HB, Q_FZ⟩ hb_ hon hoff
   refine ⟨_, rfl, fun K hK => ?_⟩
   have e8 : a.tmps[8]? = some (.pointer (some ⟨g, 0, none⟩)) := by rw [ha]; exact qbg (e := (5, 8, .pointer (some ⟨g, 0, none⟩))) 5 rfl rfl (hon 5 (by kernel_rfl)) rfl
   replace ha := Aside0.mk ha
   have BK := Aside0.mk Q_BK
   have HB := Aside0.mk Q_HB
   refine qb9 (w1 := w') (v := .pointer (some ⟨g, 0, none⟩)) (by rfl) rfl ?_ ?_
   ·go_simp
    (try simp only [qbe])
    try rfl
   refine hK.out _ _ ⟨z, (by rw [ha.out]; exact qa0 6 hb_ rfl rfl rfl), Q_BK, Q_HB, fun h0_ => absurd ((hoff 13 (by kernel_rfl)).symm.trans h0_) (by decide)⟩
  refine qaZ ?_ ?_
  ·rintro b a w' ⟨z, ha, Q_BK, Q_HB, Q_FZ⟩ hb_ hon hoff
   refine ⟨_, rfl, fun K hK => ?_⟩
   have e9 : a.tmps[9]? = some (.pointer (some ⟨g, 0, none⟩)) := by rw [ha]; exact qbg (e := (6, 9, .pointer (some ⟨g, 0, none⟩))) 6 rfl rfl (hon 6 (by kernel_rfl)) rfl
   replace ha := Aside0.mk ha
   have BK := Aside0.mk Q_BK
   have HB := Aside0.mk Q_HB
   refine qb9 (w1 := w') (v := .pointer (some ⟨g, 0, none⟩)) (by rfl) rfl ?_ ?_
   ·go_simp
    (try simp only [qbe])
    try rfl
   refine hK.out _ _ ⟨z, (by rw [ha.out]; exact qa0 7 hb_ rfl rfl rfl), Q_BK, Q_HB, fun h0_ => absurd ((hoff 13 (by kernel_rfl)).symm.trans h0_) (by decide)⟩
  refine qaZ ?_ ?_
  ·rintro b a w' ⟨z, ha, Q_BK, Q_HB, Q_FZ⟩ hb_ hon hoff
   refine ⟨_, rfl, fun K hK => ?_⟩
   have e10 : a.tmps[10]? = some (.pointer (some ⟨g, 0, none⟩)) := by rw [ha]; exact qbg (e := (7, 10, .pointer (some ⟨g, 0, none⟩))) 7 rfl rfl (hon 7 (by kernel_rfl)) rfl
   replace ha := Aside0.mk ha
   have BK := Aside0.mk Q_BK
   have HB := Aside0.mk Q_HB
   have hc0_ : w'.cell? ⟨g, 0, none⟩ = some (.string fr) := (qad BK.out 0).trans rfl
   have hc1_ : w'.cell? ⟨g, 1, none⟩ = some (.string tx) := (qad BK.out 1).trans rfl
   have hc2_ : w'.cell? ⟨g, 2, none⟩ = some (.int .i64 chain) := (qad BK.out 2).trans rfl
   have hc3_ : w'.cell? ⟨g, 3, none⟩ = some (.slice A l.length c) := (qad BK.out 3).trans rfl
   have hc4_ : w'.cell? ⟨g, 4, none⟩ = some (.int .i64 sum) := (qad BK.out 4).trans rfl
   refine qb9 (w1 := w') (v := .string fr) (by rfl) rfl ?_ ?_
   ·go_simp
    (try simp only [qbe])
    try rfl
   refine hK.out _ _ ⟨z, (by rw [ha.out]; exact qa0 8 hb_ rfl rfl rfl), Q_BK, Q_HB, fun h0_ => absurd ((hoff 13 (by kernel_rfl)).symm.trans h0_) (by decide)⟩
  refine qaZ ?_ ?_
  ·rintro b a w' ⟨z, ha, Q_BK, Q_HB, Q_FZ⟩ hb_ hon hoff
   refine ⟨_, rfl, fun K hK => ?_⟩
   have e0 : a.tmps[0]? = some (.pointer (some ⟨g, 0, none⟩)) := by rw [ha]; exact (qb6 rfl).trans rfl
   replace ha := Aside0.mk ha
   have BK := Aside0.mk Q_BK
   have HB := Aside0.mk Q_HB
   refine qb9 (w1 := w') (v := .pointer (some ⟨g, 0, none⟩)) (by rfl) rfl ?_ ?_
   ·go_simp
    (try simp only [qbe])
    try rfl
   refine hK.out _ _ ⟨z, (by rw [ha.out]; exact qa0 9 hb_ rfl rfl rfl), Q_BK, Q_HB, fun h0_ => absurd ((hoff 13 (by kernel_rfl)).symm.trans h0_) (by decide)⟩
  refine qaZ ?_ ?_
  ·rintro b a w' ⟨z, ha, Q_BK, Q_HB, Q_FZ⟩ hb_ hon hoff
   refine ⟨_, rfl, fun K hK => ?_⟩
   have e12 : a.tmps[12]? = some (.pointer (some ⟨g, 0, none⟩)) := by rw [ha]; exact qbg (e := (9, 12, .pointer (some ⟨g, 0, none⟩))) 9 rfl rfl (hon 9 (by kernel_rfl)) rfl
   replace ha := Aside0.mk ha
   have BK := Aside0.mk Q_BK
   have HB := Aside0.mk Q_HB
   refine qb9 (w1 := w') (v := .pointer (some ⟨g, 0, none⟩)) (by rfl) rfl ?_ ?_
   ·go_simp
    (try simp only [qbe])
    try rfl
   refine hK.out _ _ ⟨z, (by rw [ha.out]; exact qa0 10 hb_ rfl rfl rfl), Q_BK, Q_HB, fun h0_ => absurd ((hoff 13 (by kernel_rfl)).symm.trans h0_) (by decide)⟩
  refine qaZ ?_ ?_
  ·rintro b a w' ⟨z, ha, Q_BK, Q_HB, Q_FZ⟩ hb_ hon hoff
   refine ⟨_, rfl, fun K hK => ?_⟩
   have e13 : a.tmps[13]? = some (.pointer (some ⟨g, 0, none⟩)) := by rw [ha]; exact qbg (e := (10, 13, .pointer (some ⟨g, 0, none⟩))) 10 rfl rfl (hon 10 (by kernel_rfl)) rfl
   replace ha := Aside0.mk ha
   have BK := Aside0.mk Q_BK
   have HB := Aside0.mk Q_HB
   refine qb9 (w1 := w') (v := .pointer (some ⟨g, 1, none⟩)) (by rfl) rfl ?_ ?_
   ·go_simp
    (try simp only [qbe])
    try rfl
   refine hK.out _ _ ⟨z, (by rw [ha.out]; exact qa0 11 hb_ rfl rfl rfl), Q_BK, Q_HB, fun h0_ => absurd ((hoff 13 (by kernel_rfl)).symm.trans h0_) (by decide)⟩
  refine qaZ ?_ ?_
  ·rintro b a w' ⟨z, ha, Q_BK, Q_HB, Q_FZ⟩ hb_ hon hoff
   refine ⟨_, rfl, fun K hK => ?_⟩
   have e14 : a.tmps[14]? = some (.pointer (some ⟨g, 1, none⟩)) := by rw [ha]; exact qbg (e := (11, 14, .pointer (some ⟨g, 1, none⟩))) 11 rfl rfl (hon 11 (by kernel_rfl)) rfl
   replace ha := Aside0.mk ha
   have BK := Aside0.mk Q_BK
   have HB := Aside0.mk Q_HB
   have hc0_ : w'.cell? ⟨g, 0, none⟩ = some (.string fr) := (qad BK.out 0).trans rfl
   have hc1_ : w'.cell? ⟨g, 1, none⟩ = some (.string tx) := (qad BK.out 1).trans rfl
   have hc2_ : w'.cell? ⟨g, 2, none⟩ = some (.int .i64 chain) := (qad BK.out 2).trans rfl
   have hc3_ : w'.cell? ⟨g, 3, none⟩ = some (.slice A l.length c) := (qad BK.out 3).trans rfl
   have hc4_ : w'.cell? ⟨g, 4, none⟩ = some (.int .i64 sum) := (qad BK.out 4).trans rfl
   refine qb9 (w1 := w') (v := .string tx) (by rfl) rfl ?_ ?_
   ·go_simp
    (try simp only [qbe])
    try rfl
   refine hK.out _ _ ⟨z, (by rw [ha.out]; exact qa0 12 hb_ rfl rfl rfl), Q_BK, Q_HB, fun h0_ => absurd ((hoff 13 (by kernel_rfl)).symm.trans h0_) (by decide)⟩
  refine qaZ ?_ ?_
  ·rintro b a w' ⟨z, ha, Q_BK, Q_HB, Q_FZ⟩ hb_ hon hoff
   refine ⟨_, rfl, fun K hK => ?_⟩
   have e11 : a.tmps[11]? = some (.string fr) := by rw [ha]; exact qbg (e := (8, 11, .string fr)) 8 rfl rfl (hon 8 (by kernel_rfl)) rfl
   have e15 : a.tmps[15]? = some (.string tx) := by rw [ha]; exact qbg (e := (12, 15, .string tx)) 12 rfl rfl (hon 12 (by kernel_rfl)) rfl
   replace ha := Aside0.mk ha
   have BK := Aside0.mk Q_BK
   have HB := Aside0.mk Q_HB
   refine Kd.qci Kd.string w.heap.size 9 (by rfl) (N := 16) (by rfl) (xs := ([fr, tx] : List ByteArray)) (inner := [.string fr, .string tx]) (ok := fun _ => True) (okp := fun _ => True) ?hr ?hp (fun _ hk => hk) trivial HB.out HB.out.size (by simp) ?_
   case hr => first | (go_simp; done) | (go_simp; rfl)
   case hp => exact (Reps.one (show Kd.M Kd.string _ _ _ fr [.string fr] from rfl) (Reps.one (show Kd.M Kd.string _ _ _ tx [.string tx] from rfl) (Reps.none _ _)))
   intro z1 w1 hz hbz hgz hoz
   refine hK.out _ _ ⟨z1, (by rw [ha.out]; exact qa0 13 hb_ rfl rfl rfl), qdj BK.out hgz (by simp), hbz, fun _ => hz⟩
  refine qaZ ?_ ?_
  ·rintro b a w' ⟨z, ha, Q_BK, Q_HB, Q_FZ⟩ hb_ hon hoff
   refine ⟨_, rfl, fun K hK => ?_⟩
   have e16 : a.tmps[16]? = some (z) := by rw [ha]; exact qbg (e := (13, 16, z)) 13 rfl rfl (hon 13 (by kernel_rfl)) rfl
   replace ha := Aside0.mk ha
   have BK := Aside0.mk Q_BK
   have HB := Aside0.mk Q_HB
   have FZ := Aside0.mk (Q_FZ (hon 13 (by kernel_rfl)))
   obtain ⟨A_, c_, ez_, hcz_, hCz_⟩ := Kd.qdx FZ.out
   subst ez_
   refine qdg Try.func59 (by kernel_rfl) rfl #[.slice A_ [fr, tx].length c_] (by rfl) rfl rfl (by first | (simp only [List.map_toArray, List.map_cons, List.map_nil, Act.eval, Array.getD_eq_getD_getElem?, Option.getD_some, e16]; done) | (simp only [List.map_toArray, List.map_cons, List.map_nil, Act.eval, Array.getD_eq_getD_getElem?, Option.getD_some, e16]; rfl)) ?_
   refine (qb8.calls _ c_ [fr, tx] _ _ hCz_ hcz_ F1.out).mono ?_
   rintro e_ w1 ⟨rfl, hb1⟩
   refine ⟨_, rfl, ?_⟩
   refine hK.out _ _ ⟨.slice A_ [fr, tx].length c_, (by rw [ha.out]; exact qa0 14 hb_ rfl rfl rfl), qao BK.out hb1, qag HB.out hb1, fun _ => Kd.qaX FZ.out hb1⟩
  refine qaZ ?_ ?_
  ·rintro b a w' ⟨z, ha, Q_BK, Q_HB, Q_FZ⟩ hb_ hon hoff
   refine ⟨_, rfl, fun K hK => ?_⟩
   have e7 : a.tmps[7]? = some (.string n1) := by rw [ha]; exact qbg (e := (4, 7, .string n1)) 4 rfl rfl (hon 4 (by kernel_rfl)) rfl
   have e17 : a.tmps[17]? = some (.string ff) := by rw [ha]; exact qbg (e := (14, 17, .string ff)) 14 rfl rfl (hon 14 (by kernel_rfl)) rfl
   replace ha := Aside0.mk ha
   have BK := Aside0.mk Q_BK
   have HB := Aside0.mk Q_HB
   have FZ := Aside0.mk (Q_FZ (hon 13 (by kernel_rfl)))
   have hov_ := O1.out
   have hes_ := (E1.out).symm
   refine qb9 (w1 := w') (v := .string s1) (by rfl) rfl ?_ ?_
   ·go_simp
    (try simp only [qbe])
    try rfl
   refine hK.out _ _ ⟨z, (by rw [ha.out]; exact qa0 15 hb_ rfl rfl rfl), Q_BK, Q_HB, Q_FZ⟩
  refine qaZ ?_ ?_
  ·rintro b a w' ⟨z, ha, Q_BK, Q_HB, Q_FZ⟩ hb_ hon hoff
   refine ⟨_, rfl, fun K hK => ?_⟩
   have e0 : a.tmps[0]? = some (.pointer (some ⟨g, 0, none⟩)) := by rw [ha]; exact (qb6 rfl).trans rfl
   replace ha := Aside0.mk ha
   have BK := Aside0.mk Q_BK
   have HB := Aside0.mk Q_HB
   refine qb9 (w1 := w') (v := .pointer (some ⟨g, 0, none⟩)) (by rfl) rfl ?_ ?_
   ·go_simp
    (try simp only [qbe])
    try rfl
   refine hK.out _ _ ⟨z, (by rw [ha.out]; exact qa0 16 hb_ rfl rfl rfl), Q_BK, Q_HB, Q_FZ⟩
  refine qaZ ?_ ?_
  ·rintro b a w' ⟨z, ha, Q_BK, Q_HB, Q_FZ⟩ hb_ hon hoff
   refine ⟨_, rfl, fun K hK => ?_⟩
   have e19 : a.tmps[19]? = some (.pointer (some ⟨g, 0, none⟩)) := by rw [ha]; exact qbg (e := (16, 19, .pointer (some ⟨g, 0, none⟩))) 16 rfl rfl (hon 16 (by kernel_rfl)) rfl
   replace ha := Aside0.mk ha
   have BK := Aside0.mk Q_BK
   have HB := Aside0.mk Q_HB
   have FZ := Aside0.mk (Q_FZ (hon 13 (by kernel_rfl)))
   refine qdg Try.func60 (by kernel_rfl) rfl #[.pointer (some ⟨g, 0, none⟩)] (by rfl) rfl rfl (by first | (simp only [List.map_toArray, List.map_cons, List.map_nil, Act.eval, Array.getD_eq_getD_getElem?, Option.getD_some, e19]; done) | (simp only [List.map_toArray, List.map_cons, List.map_nil, Act.eval, Array.getD_eq_getD_getElem?, Option.getD_some, e19]; rfl)) ?_
   refine ((bak_body (g := g) (fr := fr) (tx := tx) (chain := chain) (A := A) (c := c) (l := l) (sum := sum) (w := w') (hb := BK.out) (hr := Kd.qa8 HR.out HB.out) (hc := HC.out) (hf := HF.out))).mono ?_
   rintro e_ w1 ⟨he_, hb1⟩
   rw [HBD.out] at he_
   subst he_
   refine ⟨_, rfl, ?_⟩
   refine hK.out _ _ ⟨z, (by rw [ha.out]; exact qa0 17 hb_ rfl rfl rfl), qao BK.out hb1, qag HB.out hb1, fun _ => Kd.qaX FZ.out hb1⟩
  refine qaZ ?_ ?_
  ·rintro b a w' ⟨z, ha, Q_BK, Q_HB, Q_FZ⟩ hb_ hon hoff
   refine ⟨_, rfl, fun K hK => ?_⟩
   have e18 : a.tmps[18]? = some (.string s1) := by rw [ha]; exact qbg (e := (15, 18, .string s1)) 15 rfl rfl (hon 15 (by kernel_rfl)) rfl
   have e20 : a.tmps[20]? = some (.string bd) := by rw [ha]; exact qbg (e := (17, 20, .string bd)) 17 rfl rfl (hon 17 (by kernel_rfl)) rfl
   replace ha := Aside0.mk ha
   have BK := Aside0.mk Q_BK
   have HB := Aside0.mk Q_HB
   have FZ := Aside0.mk (Q_FZ (hon 13 (by kernel_rfl)))
   have hov_ := O2.out
   have hes_ := (E2.out).symm
   refine qb9 (w1 := w') (v := .string s2) (by rfl) rfl ?_ ?_
   ·go_simp
    (try simp only [qbe])
    try rfl
   refine hK.out _ _ ⟨z, (by rw [ha.out]; exact qa0 18 hb_ rfl rfl rfl), Q_BK, Q_HB, Q_FZ⟩
  refine qaZ ?_ ?_
  ·rintro b a w' ⟨z, ha, Q_BK, Q_HB, Q_FZ⟩ hb_ hon hoff
   refine ⟨_, rfl, fun K hK => ?_⟩
   have e0 : a.tmps[0]? = some (.pointer (some ⟨g, 0, none⟩)) := by rw [ha]; exact (qb6 rfl).trans rfl
   replace ha := Aside0.mk ha
   have BK := Aside0.mk Q_BK
   have HB := Aside0.mk Q_HB
   refine qb9 (w1 := w') (v := .pointer (some ⟨g, 0, none⟩)) (by rfl) rfl ?_ ?_
   ·go_simp
    (try simp only [qbe])
    try rfl
   refine hK.out _ _ ⟨z, (by rw [ha.out]; exact qa0 19 hb_ rfl rfl rfl), Q_BK, Q_HB, Q_FZ⟩
  refine qaZ ?_ ?_
  ·rintro b a w' ⟨z, ha, Q_BK, Q_HB, Q_FZ⟩ hb_ hon hoff
   refine ⟨_, rfl, fun K hK => ?_⟩
   have e22 : a.tmps[22]? = some (.pointer (some ⟨g, 0, none⟩)) := by rw [ha]; exact qbg (e := (19, 22, .pointer (some ⟨g, 0, none⟩))) 19 rfl rfl (hon 19 (by kernel_rfl)) rfl
   replace ha := Aside0.mk ha
   have BK := Aside0.mk Q_BK
   have HB := Aside0.mk Q_HB
   refine qb9 (w1 := w') (v := .pointer (some ⟨g, 0, none⟩)) (by rfl) rfl ?_ ?_
   ·go_simp
    (try simp only [qbe])
    try rfl
   refine hK.out _ _ ⟨z, (by rw [ha.out]; exact qa0 20 hb_ rfl rfl rfl), Q_BK, Q_HB, Q_FZ⟩
  refine qaZ ?_ ?_
  ·rintro b a w' ⟨z, ha, Q_BK, Q_HB, Q_FZ⟩ hb_ hon hoff
   refine ⟨_, rfl, fun K hK => ?_⟩
   have e23 : a.tmps[23]? = some (.pointer (some ⟨g, 0, none⟩)) := by rw [ha]; exact qbg (e := (20, 23, .pointer (some ⟨g, 0, none⟩))) 20 rfl rfl (hon 20 (by kernel_rfl)) rfl
   replace ha := Aside0.mk ha
   have BK := Aside0.mk Q_BK
   have HB := Aside0.mk Q_HB
   refine qb9 (w1 := w') (v := .pointer (some ⟨g, 4, none⟩)) (by rfl) rfl ?_ ?_
   ·go_simp
    (try simp only [qbe])
    try rfl
   refine hK.out _ _ ⟨z, (by rw [ha.out]; exact qa0 21 hb_ rfl rfl rfl), Q_BK, Q_HB, Q_FZ⟩
  refine qaZ ?_ ?_
  ·rintro b a w' ⟨z, ha, Q_BK, Q_HB, Q_FZ⟩ hb_ hon hoff
   refine ⟨_, rfl, fun K hK => ?_⟩
   have e24 : a.tmps[24]? = some (.pointer (some ⟨g, 4, none⟩)) := by rw [ha]; exact qbg (e := (21, 24, .pointer (some ⟨g, 4, none⟩))) 21 rfl rfl (hon 21 (by kernel_rfl)) rfl
   replace ha := Aside0.mk ha
   have BK := Aside0.mk Q_BK
   have HB := Aside0.mk Q_HB
   have hc0_ : w'.cell? ⟨g, 0, none⟩ = some (.string fr) := (qad BK.out 0).trans rfl
   have hc1_ : w'.cell? ⟨g, 1, none⟩ = some (.string tx) := (qad BK.out 1).trans rfl
   have hc2_ : w'.cell? ⟨g, 2, none⟩ = some (.int .i64 chain) := (qad BK.out 2).trans rfl
   have hc3_ : w'.cell? ⟨g, 3, none⟩ = some (.slice A l.length c) := (qad BK.out 3).trans rfl
   have hc4_ : w'.cell? ⟨g, 4, none⟩ = some (.int .i64 sum) := (qad BK.out 4).trans rfl
   refine qb9 (w1 := w') (v := .int .i64 sum) (by rfl) rfl ?_ ?_
   ·go_simp
    (try simp only [qbe])
    try rfl
   refine hK.out _ _ ⟨z, (by rw [ha.out]; exact qa0 22 hb_ rfl rfl rfl), Q_BK, Q_HB, Q_FZ⟩
  refine qaZ ?_ ?_
  ·rintro b a w' ⟨z, ha, Q_BK, Q_HB, Q_FZ⟩ hb_ hon hoff
   refine ⟨_, rfl, fun K hK => ?_⟩
   have e25 : a.tmps[25]? = some (.int .i64 sum) := by rw [ha]; exact qbg (e := (22, 25, .int .i64 sum)) 22 rfl rfl (hon 22 (by kernel_rfl)) rfl
   replace ha := Aside0.mk ha
   have BK := Aside0.mk Q_BK
   have HB := Aside0.mk Q_HB
   have FZ := Aside0.mk (Q_FZ (hon 13 (by kernel_rfl)))
   refine qdg Try.func58 (by kernel_rfl) rfl #[.int .i64 sum, .int .i64 4] (by rfl) rfl rfl (by first | (simp only [List.map_toArray, List.map_cons, List.map_nil, Act.eval, Array.getD_eq_getD_getElem?, Option.getD_some, e25]; done) | (simp only [List.map_toArray, List.map_cons, List.map_nil, Act.eval, Array.getD_eq_getD_getElem?, Option.getD_some, e25]; rfl)) ?_
   refine (qaR.calls K2 _ _ _ _ N2.out).mono ?_
   rintro e_ w1 ⟨rfl, hb1⟩
   refine ⟨_, rfl, ?_⟩
   refine hK.out _ _ ⟨z, (by rw [ha.out]; exact qa0 23 hb_ rfl rfl rfl), qao BK.out hb1, qag HB.out hb1, fun _ => Kd.qaX FZ.out hb1⟩
  refine qaZ ?_ ?_
  ·rintro b a w' ⟨z, ha, Q_BK, Q_HB, Q_FZ⟩ hb_ hon hoff
   refine ⟨_, rfl, fun K hK => ?_⟩
   have e21 : a.tmps[21]? = some (.string s2) := by rw [ha]; exact qbg (e := (18, 21, .string s2)) 18 rfl rfl (hon 18 (by kernel_rfl)) rfl
   have e26 : a.tmps[26]? = some (.string n2) := by rw [ha]; exact qbg (e := (23, 26, .string n2)) 23 rfl rfl (hon 23 (by kernel_rfl)) rfl
   replace ha := Aside0.mk ha
   have BK := Aside0.mk Q_BK
   have HB := Aside0.mk Q_HB
   have FZ := Aside0.mk (Q_FZ (hon 13 (by kernel_rfl)))
   have hov_ := O3.out
   have hes_ := (E3.out).symm
   refine qb9 (w1 := w') (v := .string s3) (by rfl) rfl ?_ ?_
   ·go_simp
    (try simp only [qbe])
    try rfl
   refine hK.out _ _ ⟨z, (by rw [ha.out]; exact qa0 24 hb_ rfl rfl rfl), Q_BK, Q_HB, Q_FZ⟩
  refine qaZ ?_ ?_
  ·rintro b a w' ⟨z, ha, Q_BK, Q_HB, Q_FZ⟩ hb_ hon hoff
   refine ⟨_, rfl, fun K hK => ?_⟩
   have e27 : a.tmps[27]? = some (.string s3) := by rw [ha]; exact qbg (e := (24, 27, .string s3)) 24 rfl rfl (hon 24 (by kernel_rfl)) rfl
   replace ha := Aside0.mk ha
   have BK := Aside0.mk Q_BK
   have HB := Aside0.mk Q_HB
   have FZ := Aside0.mk (Q_FZ (hon 13 (by kernel_rfl)))
   refine qdg Try.func57 (by kernel_rfl) rfl #[.string s3] (by rfl) rfl rfl (by first | (simp only [List.map_toArray, List.map_cons, List.map_nil, Act.eval, Array.getD_eq_getD_getElem?, Option.getD_some, e27]; done) | (simp only [List.map_toArray, List.map_cons, List.map_nil, Act.eval, Array.getD_eq_getD_getElem?, Option.getD_some, e27]; rfl)) ?_
   refine (qcJ.calls _ _ _ SM.out).mono ?_
   rintro e_ w1 ⟨rfl, hb1⟩
   refine ⟨_, rfl, ?_⟩
   refine hK.out _ _ ⟨z, (by rw [ha.out]; exact qa0 25 hb_ rfl rfl rfl), qao BK.out hb1, qag HB.out hb1, fun _ => Kd.qaX FZ.out hb1⟩
  refine qaZ ?_ ?_
  ·rintro b a w' ⟨z, ha, Q_BK, Q_HB, Q_FZ⟩ hb_ hon hoff
   refine ⟨_, rfl, fun K hK => ?_⟩
   have e28 : a.tmps[28]? = some (.int .i64 sm) := by rw [ha]; exact qbg (e := (25, 28, .int .i64 sm)) 25 rfl rfl (hon 25 (by kernel_rfl)) rfl
   replace ha := Aside0.mk ha
   have BK := Aside0.mk Q_BK
   have HB := Aside0.mk Q_HB
   have FZ := Aside0.mk (Q_FZ (hon 13 (by kernel_rfl)))
   refine qb9 (w1 := w') (v := .int .i64 sm) (by rfl) rfl ?_ ?_
   ·go_simp
    (try simp only [qbe])
    try rfl
   refine hK.out _ _ ⟨z, (by rw [ha.out]; exact qa0 26 hb_ rfl rfl rfl), Q_BK, Q_HB, Q_FZ⟩
  exact qgr
 rintro b a w' hall ⟨z, ha, Q_BK, Q_HB, Q_FZ⟩
 clear BK HB
 have hb0_ := hall 0 (by kernel_rfl)
 have hb1_ := hall 1 (by kernel_rfl)
 have hb2_ := hall 2 (by kernel_rfl)
 have hb3_ := hall 3 (by kernel_rfl)
 have hb4_ := hall 4 (by kernel_rfl)
 have hb5_ := hall 5 (by kernel_rfl)
 have hb6_ := hall 6 (by kernel_rfl)
 have hb7_ := hall 7 (by kernel_rfl)
 have hb8_ := hall 8 (by kernel_rfl)
 have hb9_ := hall 9 (by kernel_rfl)
 have hb10_ := hall 10 (by kernel_rfl)
 have hb11_ := hall 11 (by kernel_rfl)
 have hb12_ := hall 12 (by kernel_rfl)
 have hb13_ := hall 13 (by kernel_rfl)
 have hb14_ := hall 14 (by kernel_rfl)
 have hb15_ := hall 15 (by kernel_rfl)
 have hb16_ := hall 16 (by kernel_rfl)
 have hb17_ := hall 17 (by kernel_rfl)
 have hb18_ := hall 18 (by kernel_rfl)
 have hb19_ := hall 19 (by kernel_rfl)
 have hb20_ := hall 20 (by kernel_rfl)
 have hb21_ := hall 21 (by kernel_rfl)
 have hb22_ := hall 22 (by kernel_rfl)
 have hb23_ := hall 23 (by kernel_rfl)
 have hb24_ := hall 24 (by kernel_rfl)
 have hb25_ := hall 25 (by kernel_rfl)
 have hb26_ := hall 26 (by kernel_rfl)
 subst ha
 simp only [qcC, hb0_, hb1_, hb2_, hb3_, hb4_, hb5_, hb6_, hb7_, hb8_, hb9_, hb10_, hb11_, hb12_, hb13_, hb14_, hb15_, hb16_, hb17_, hb18_, hb19_, hb20_, hb21_, hb22_, hb23_, hb24_, hb25_, hb26_, if_true, Act.put, List.setIfInBounds_toArray, List.set_cons_zero, List.set_cons_succ]
 have BK := Aside0.mk Q_BK
 clear Q_BK
 have HB := Aside0.mk Q_HB
 clear Q_HB
 have FZ := Aside0.mk (Q_FZ hb13_)
 clear Q_FZ hall hb0_ hb1_ hb2_ hb3_ hb4_ hb5_ hb6_ hb7_ hb8_ hb9_ hb10_ hb11_ hb12_ hb13_ hb14_ hb15_ hb16_ hb17_ hb18_ hb19_ hb20_ hb21_ hb22_ hb23_ hb24_ hb25_ hb26_
 go_wp2_with fail
 go_ret
 exact ⟨show Ending.returned (.int .i64 sm) = _ from by rw [← HSM.out, ES.out], HB.out⟩
def qdz (f : Nat → Bool) : Nat → Nat → Bool
 | _, 0 => true
 | i, d + 1 => f i && qdz f (i + 1) d
def allB (f : Nat → Bool) (n : Nat) : Bool := qdz f 0 n
theorem qg3 (f : Nat → Bool) (d : Nat) : ∀ i, qdz f i d = true ↔ ∀ j, i ≤ j → j < i + d → f j = true := by
 induction d with
 | zero => intro i; simp only [qdz, true_iff]; intro j h1 h2; omega
 | succ d ih =>
  intro i
  simp only [qdz, Bool.and_eq_true, ih]
  refine ⟨fun h j h1 h2 => ?_, fun h => ⟨h i (by omega) (by omega), fun j h1 h2 => h j (by omega) (by omega)⟩⟩
  rcases Nat.lt_or_ge i j with h3 | h3
  ·exact h.2 j h3 (by omega)
  ·rw [show j = i by omega]; exact h.1
theorem qf1 {f : Nat → Bool} {n : Nat} : allB f n = true ↔ ∀ j, j < n → f j = true := by
 unfold allB
 rw [qg3]
 exact ⟨fun h j hj => h j (by omega) (by omega), fun h j _ hj => h j (by omega)⟩
theorem Ev.qdz {g : Nat → Int → Option Bool} (f : Nat → Bool) (fin : Bool) (n : Nat) (hend : Ev (fun k => g k (n : Int)) fin) (hstep : ∀ i : Nat, i < n → ∀ r, Ev (fun k => g k ((i + 1 : Nat) : Int)) r → Ev (fun k => g k (i : Int)) (f i && r)) (d : Nat) : ∀ i : Nat, i + d = n → Ev (fun k => g k (i : Int)) (qdz f i d && fin) := by
 induction d with
 | zero => intro i hi; rw [show i = n by omega]; simpa [X.qdz] using hend
 | succ d ih =>
  intro i hi
  have := hstep i (by omega) _ (ih (i + 1) (by omega))
  simpa [X.qdz, Bool.and_assoc] using this
theorem Ev.all {g : Nat → Int → Option Bool} (f : Nat → Bool) (fin : Bool) (n : Nat) (hend : Ev (fun k => g k (n : Int)) fin) (hstep : ∀ i : Nat, i < n → ∀ r, Ev (fun k => g k ((i + 1 : Nat) : Int)) r → Ev (fun k => g k (i : Int)) (f i && r)) : Ev (fun k => g k 0) (allB f n && fin) := Ev.qdz f fin n hend hstep n 0 (by omega)
theorem qiy {n : Nat} (h : n < 9223372036854775807) (h0 : 0 < n) : wrap64 ((n : Int) - 1) = ((n - 1 : Nat) : Int) := by unfold wrap64; omega
def qaT.f (a0 : Int) (a1 : Int) (a2 : Int) : Option (Bool) := if a1 ≤ a0 then (some (decide (a0 ≤ a2))) else (some false)
set_option maxHeartbeats 8000000 in
set_option maxRecDepth 100000 in
theorem qaT.calls (a0 : Int) (a1 : Int) (a2 : Int) (r : Bool) (w : World) (h : qaT.f a0 a1 a2 = some r) :
  Calls Try.prog 28 #[.int .i64 a0, .int .i64 a1, .int .i64 a2] w fun e w' => e = .returned (.bool r) ∧ qaF w w' := by
 have H : (if a1 ≤ a0 then (some (decide (a0 ≤ a2))) else (some false)) = some r := h
 clear h
 by_cases c4 : a1 ≤ a0
 ·rw [if_pos c4] at H
  have c4b0 : decide (a1 ≤ a0) = true := decide_eq_true c4
  clear c4
  obtain rfl := Option.some.inj H
  go_enter Try.func28, Try.ntmps28
  go_wp2
  go_ret
  exact ⟨by first | rfl | (simp; done) | (simp [*]; done), by repeat (first | exact qaF.refl _ | apply qaF.step)⟩
 ·rw [if_neg c4] at H
  have c4b0 : decide (a1 ≤ a0) = false := decide_eq_false c4
  clear c4
  obtain rfl := Option.some.inj H
  go_enter Try.func28, Try.ntmps28
  go_wp2
  go_ret
  exact ⟨by first | rfl | (simp; done) | (simp [*]; done), by repeat (first | exact qaF.refl _ | apply qaF.step)⟩
def qbf.f (a0 : Int) (a1 : Int) (a2 : Int) : Option (Bool) := if a0 ≥ a1 then (some (decide (a0 ≤ a2))) else (some false)
set_option maxHeartbeats 8000000 in
set_option maxRecDepth 100000 in
theorem qbf.calls (a0 : Int) (a1 : Int) (a2 : Int) (r : Bool) (w : World) (h : qbf.f a0 a1 a2 = some r) :
  Calls Try.prog 38 #[.int .i64 a0, .int .i64 a1, .int .i64 a2] w fun e w' => e = .returned (.bool r) ∧ qaF w w' := by
 have H : (if a0 ≥ a1 then (some (decide (a0 ≤ a2))) else (some false)) = some r := h
 clear h
 by_cases c4 : a0 ≥ a1
 ·rw [if_pos c4] at H
  have c4b0 : decide (a1 ≤ a0) = true := decide_eq_true c4
  clear c4
  obtain rfl := Option.some.inj H
  go_enter Try.func38, Try.ntmps38
  go_wp2
  go_ret
  exact ⟨by first | rfl | (simp; done) | (simp [*]; done), by repeat (first | exact qaF.refl _ | apply qaF.step)⟩
 ·rw [if_neg c4] at H
  have c4b0 : decide (a1 ≤ a0) = false := decide_eq_false c4
  clear c4
  obtain rfl := Option.some.inj H
  go_enter Try.func38, Try.ntmps38
  go_wp2
  go_ret
  exact ⟨by first | rfl | (simp; done) | (simp [*]; done), by repeat (first | exact qaF.refl _ | apply qaF.step)⟩
def inB (x a b : Int) : Bool := decide (a ≤ x) && decide (x ≤ b)
theorem qdq (x a b : Int) : qaT.f x a b = some (inB x a b) := by
 unfold qaT.f inB
 by_cases h : a ≤ x <;> simp [h]
theorem qiz (x a b : Int) : qbf.f x a b = some (inB x a b) := by
 unfold qbf.f inB
 by_cases h : a ≤ x
 ·rw [if_pos (by omega)]; simp [h]
 ·rw [if_neg (by omega)]; simp [h]
def qcj.f (a0 : Int) : Option (Bool) := if a0 ≥ 97 then (if a0 ≤ 122 then (some true) else (if a0 ≥ 65 then (if a0 ≤ 90 then (some true) else (some (a0 == 95))) else (some (a0 == 95)))) else (if a0 ≥ 65 then (if a0 ≤ 90 then (some true) else (some (a0 == 95))) else (some (a0 == 95)))
set_option maxHeartbeats 8000000 in
set_option maxRecDepth 100000 in
theorem qcj.calls (a0 : Int) (r : Bool) (w : World) (h : qcj.f a0 = some r) :
  Calls Try.prog 76 #[.int .u8 a0] w fun e w' => e = .returned (.bool r) ∧ qaF w w' := by
 have H : (if a0 ≥ 97 then (if a0 ≤ 122 then (some true) else (if a0 ≥ 65 then (if a0 ≤ 90 then (some true) else (some (a0 == 95))) else (some (a0 == 95)))) else (if a0 ≥ 65 then (if a0 ≤ 90 then (some true) else (some (a0 == 95))) else (some (a0 == 95)))) = some r := h
 clear h
 by_cases c2 : a0 ≥ 97
 ·rw [if_pos c2] at H
  have c2b0 : decide (97 ≤ a0) = true := decide_eq_true c2
  clear c2
  by_cases c3 : a0 ≤ 122
  ·rw [if_pos c3] at H
   have c3b0 : decide (a0 ≤ 122) = true := decide_eq_true c3
   clear c3
   obtain rfl := Option.some.inj H
   go_enter Try.func76, Try.ntmps76
   go_wp2
   go_ret
   exact ⟨by first | rfl | (simp; done) | (simp [*]; done), by repeat (first | exact qaF.refl _ | apply qaF.step)⟩
  ·rw [if_neg c3] at H
   have c3b0 : decide (a0 ≤ 122) = false := decide_eq_false c3
   clear c3
   by_cases c4 : a0 ≥ 65
   ·rw [if_pos c4] at H
    have c4b0 : decide (65 ≤ a0) = true := decide_eq_true c4
    clear c4
    by_cases c5 : a0 ≤ 90
    ·rw [if_pos c5] at H
     have c5b0 : decide (a0 ≤ 90) = true := decide_eq_true c5
     clear c5
     obtain rfl := Option.some.inj H
     go_enter Try.func76, Try.ntmps76
     go_wp2
     go_ret
     exact ⟨by first | rfl | (simp; done) | (simp [*]; done), by repeat (first | exact qaF.refl _ | apply qaF.step)⟩
    ·rw [if_neg c5] at H
     have c5b0 : decide (a0 ≤ 90) = false := decide_eq_false c5
     clear c5
     obtain rfl := Option.some.inj H
     go_enter Try.func76, Try.ntmps76
     go_wp2
     go_ret
     exact ⟨by first | rfl | (simp; done) | (simp [*]; done), by repeat (first | exact qaF.refl _ | apply qaF.step)⟩
   ·rw [if_neg c4] at H
    have c4b0 : decide (65 ≤ a0) = false := decide_eq_false c4
    clear c4
    obtain rfl := Option.some.inj H
    go_enter Try.func76, Try.ntmps76
    go_wp2
    go_ret
    exact ⟨by first | rfl | (simp; done) | (simp [*]; done), by repeat (first | exact qaF.refl _ | apply qaF.step)⟩
 ·rw [if_neg c2] at H
  have c2b0 : decide (97 ≤ a0) = false := decide_eq_false c2
  clear c2
  by_cases c6 : a0 ≥ 65
  ·rw [if_pos c6] at H
   have c6b0 : decide (65 ≤ a0) = true := decide_eq_true c6
   clear c6
   by_cases c7 : a0 ≤ 90
   ·rw [if_pos c7] at H
    have c7b0 : decide (a0 ≤ 90) = true := decide_eq_true c7
    clear c7
    obtain rfl := Option.some.inj H
    go_enter Try.func76, Try.ntmps76
    go_wp2
    go_ret
    exact ⟨by first | rfl | (simp; done) | (simp [*]; done), by repeat (first | exact qaF.refl _ | apply qaF.step)⟩
   ·rw [if_neg c7] at H
    have c7b0 : decide (a0 ≤ 90) = false := decide_eq_false c7
    clear c7
    obtain rfl := Option.some.inj H
    go_enter Try.func76, Try.ntmps76
    go_wp2
    go_ret
    exact ⟨by first | rfl | (simp; done) | (simp [*]; done), by repeat (first | exact qaF.refl _ | apply qaF.step)⟩
  ·rw [if_neg c6] at H
   have c6b0 : decide (65 ≤ a0) = false := decide_eq_false c6
   clear c6
   obtain rfl := Option.some.inj H
   go_enter Try.func76, Try.ntmps76
   go_wp2
   go_ret
   exact ⟨by first | rfl | (simp; done) | (simp [*]; done), by repeat (first | exact qaF.refl _ | apply qaF.step)⟩
def qbO.f (a0 : Int) : Option (Bool) := if a0 ≥ 97 then (if a0 ≤ 122 then (some true) else (if a0 ≥ 65 then (if a0 ≤ 90 then (some true) else (some (a0 == 95))) else (some (a0 == 95)))) else (if a0 ≥ 65 then (if a0 ≤ 90 then (some true) else (some (a0 == 95))) else (some (a0 == 95)))
set_option maxHeartbeats 8000000 in
set_option maxRecDepth 100000 in
theorem qbO.calls (a0 : Int) (r : Bool) (w : World) (h : qbO.f a0 = some r) :
  Calls Try.prog 73 #[.int .u8 a0] w fun e w' => e = .returned (.bool r) ∧ qaF w w' := by
 have H : (if a0 ≥ 97 then (if a0 ≤ 122 then (some true) else (if a0 ≥ 65 then (if a0 ≤ 90 then (some true) else (some (a0 == 95))) else (some (a0 == 95)))) else (if a0 ≥ 65 then (if a0 ≤ 90 then (some true) else (some (a0 == 95))) else (some (a0 == 95)))) = some r := h
 clear h
 by_cases c2 : a0 ≥ 97
 ·rw [if_pos c2] at H
  have c2b0 : decide (97 ≤ a0) = true := decide_eq_true c2
  clear c2
  by_cases c3 : a0 ≤ 122
  ·rw [if_pos c3] at H
   have c3b0 : decide (a0 ≤ 122) = true := decide_eq_true c3
   clear c3
   obtain rfl := Option.some.inj H
   go_enter Try.func73, Try.ntmps73
   go_wp2
   go_ret
   exact ⟨by first | rfl | (simp; done) | (simp [*]; done), by repeat (first | exact qaF.refl _ | apply qaF.step)⟩
  ·rw [if_neg c3] at H
   have c3b0 : decide (a0 ≤ 122) = false := decide_eq_false c3
   clear c3
   by_cases c4 : a0 ≥ 65
   ·rw [if_pos c4] at H
    have c4b0 : decide (65 ≤ a0) = true := decide_eq_true c4
    clear c4
    by_cases c5 : a0 ≤ 90
    ·rw [if_pos c5] at H
     have c5b0 : decide (a0 ≤ 90) = true := decide_eq_true c5
     clear c5
     obtain rfl := Option.some.inj H
     go_enter Try.func73, Try.ntmps73
     go_wp2
     go_ret
     exact ⟨by first | rfl | (simp; done) | (simp [*]; done), by repeat (first | exact qaF.refl _ | apply qaF.step)⟩
    ·rw [if_neg c5] at H
     have c5b0 : decide (a0 ≤ 90) = false := decide_eq_false c5
     clear c5
     obtain rfl := Option.some.inj H
     go_enter Try.func73, Try.ntmps73
     go_wp2
     go_ret
     exact ⟨by first | rfl | (simp; done) | (simp [*]; done), by repeat (first | exact qaF.refl _ | apply qaF.step)⟩
   ·rw [if_neg c4] at H
    have c4b0 : decide (65 ≤ a0) = false := decide_eq_false c4
    clear c4
    obtain rfl := Option.some.inj H
    go_enter Try.func73, Try.ntmps73
    go_wp2
    go_ret
    exact ⟨by first | rfl | (simp; done) | (simp [*]; done), by repeat (first | exact qaF.refl _ | apply qaF.step)⟩
 ·rw [if_neg c2] at H
  have c2b0 : decide (97 ≤ a0) = false := decide_eq_false c2
  clear c2
  by_cases c6 : a0 ≥ 65
  ·rw [if_pos c6] at H
   have c6b0 : decide (65 ≤ a0) = true := decide_eq_true c6
   clear c6
   by_cases c7 : a0 ≤ 90
   ·rw [if_pos c7] at H
    have c7b0 : decide (a0 ≤ 90) = true := decide_eq_true c7
    clear c7
    obtain rfl := Option.some.inj H
    go_enter Try.func73, Try.ntmps73
    go_wp2
    go_ret
    exact ⟨by first | rfl | (simp; done) | (simp [*]; done), by repeat (first | exact qaF.refl _ | apply qaF.step)⟩
   ·rw [if_neg c7] at H
    have c7b0 : decide (a0 ≤ 90) = false := decide_eq_false c7
    clear c7
    obtain rfl := Option.some.inj H
    go_enter Try.func73, Try.ntmps73
    go_wp2
    go_ret
    exact ⟨by first | rfl | (simp; done) | (simp [*]; done), by repeat (first | exact qaF.refl _ | apply qaF.step)⟩
  ·rw [if_neg c6] at H
   have c6b0 : decide (65 ≤ a0) = false := decide_eq_false c6
   clear c6
   obtain rfl := Option.some.inj H
   go_enter Try.func73, Try.ntmps73
   go_wp2
   go_ret
   exact ⟨by first | rfl | (simp; done) | (simp [*]; done), by repeat (first | exact qaF.refl _ | apply qaF.step)⟩
def letter (c : Int) : Bool := decide (97 ≤ c ∧ c ≤ 122) || (decide (65 ≤ c ∧ c ≤ 90) || c == 95)
theorem qf2 (c : Int) : qbO.f c = some (letter c) := by
 unfold qbO.f letter
 by_cases h1 : c ≥ 97 <;> by_cases h2 : c ≤ 122 <;> by_cases h3 : c ≥ 65 <;> by_cases h4 : c ≤ 90 <;> simp [*] <;> omega
theorem qg4 (c : Int) : qcj.f c = some (letter c) := by
 unfold qcj.f letter
 by_cases h1 : c ≥ 97 <;> by_cases h2 : c ≤ 122 <;> by_cases h3 : c ≥ 65 <;> by_cases h4 : c ≤ 90 <;> simp [*] <;> omega
def qbM.f (a0 : Int) : Option (Bool) := if a0 ≥ 48 then (some (decide (a0 ≤ 57))) else (some false)
set_option maxHeartbeats 8000000 in
set_option maxRecDepth 100000 in
theorem qbM.calls (a0 : Int) (r : Bool) (w : World) (h : qbM.f a0 = some r) :
  Calls Try.prog 75 #[.int .u8 a0] w fun e w' => e = .returned (.bool r) ∧ qaF w w' := by
 have H : (if a0 ≥ 48 then (some (decide (a0 ≤ 57))) else (some false)) = some r := h
 clear h
 by_cases c2 : a0 ≥ 48
 ·rw [if_pos c2] at H
  have c2b0 : decide (48 ≤ a0) = true := decide_eq_true c2
  clear c2
  obtain rfl := Option.some.inj H
  go_enter Try.func75, Try.ntmps75
  go_wp2
  go_ret
  exact ⟨by first | rfl | (simp; done) | (simp [*]; done), by repeat (first | exact qaF.refl _ | apply qaF.step)⟩
 ·rw [if_neg c2] at H
  have c2b0 : decide (48 ≤ a0) = false := decide_eq_false c2
  clear c2
  obtain rfl := Option.some.inj H
  go_enter Try.func75, Try.ntmps75
  go_wp2
  go_ret
  exact ⟨by first | rfl | (simp; done) | (simp [*]; done), by repeat (first | exact qaF.refl _ | apply qaF.step)⟩
end Go.Proofs.Ytlkdcicpaneakaa.X
