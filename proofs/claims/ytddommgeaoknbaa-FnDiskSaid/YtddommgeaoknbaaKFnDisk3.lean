import Derived.Test.YtddommgeaoknbaaKFnDisk0
import Derived.Test.YtddommgeaoknbaaKFnDisk1
import Derived.Test.YtddommgeaoknbaaKFnDisk2
import Derived.Test.YtddommgeaoknbaaProg
import Derived.Below
import Derived.Deep.Draws
import Derived.Deep.AppendLies
import Derived.Maps.AppendAt
import Derived.OwnWalk
import Derived.Laws.BytesArg
import Derived.Laws.MakeOwn
import Derived.Laws.OwnMore
import Derived.Deep.OwnRows
import Derived.Tactics
import Derived.Lib.ConvBytes
import Derived.Laws.Slices
import Derived.WalkKit
import Derived.KernelRfl
import Derived.RowKit3
import Derived.Deep.LoopGhost
import Derived.Deep.QuietTactic
import Derived.BigQuiet
import Derived.WideLaws
import Derived.Deep.DeepCutAuto
import Derived.Deep.CutBlock
import Derived.Deep.RegionHeld3
import Derived.Laws.Rows
import Derived.Lib.AppendStr
import Derived.ArgAppend
import Derived.Laws.IdiomCopy
import Derived.OrdersHeld
import Derived.Laws.BitsLemmas
import Derived.RowKit
import Derived.Deep.Slices
import Derived.OpenShut
import Derived.ChangeArms
import Derived.DataReads
import Derived.ProofKit
import Derived.LoopTactic
import Derived.WalkSpells
import Derived.Outline
import Derived.RangeFuncNested
import Derived.RangeFuncBound
import Derived.RangeFuncCalls
import Derived.RangeFuncLeaves
import Derived.Shelf.Abstract
import Derived.Shelf.RegionOpen
import Derived.OwnWalkIn
import Derived.TacticsInMore
import Derived.LoopNIn
import Derived.LoopIn
namespace Go.Proofs.Ytddommgeaoknbaa.X
open Go.RowKit Go.Proofs.YtddommgeaoknbaaW.PrintWords Go.Proofs.YtddommgeaoknbaaW.PrintLast Go.Proofs.YtddommgeaoknbaaW.PrintMore
attribute [local go_sem] max2_int min2_int max_two min_two max_three min_three max_four min_four
set_option linter.unusedVariables false
set_option linter.unusedSimpArgs false
theorem xbytes_tri (a b : List UInt8) : (Op.bytesLess a b || a == b) = !(Op.bytesLess b a) := by
 induction a generalizing b with
 | nil => cases b <;> rfl
 | cons x a ih =>
  cases b with
  | nil => rfl
  | cons y b =>
   have h := ih b
   simp only [Op.bytesLess, List.cons_beq_cons]
   by_cases h1 : x < y
   ·have h2 : ¬ y < x := by simp [UInt8.lt_iff_toNat_lt] at *; omega
    have h3 : (y == x) = false := by simp [UInt8.lt_iff_toNat_lt, ← UInt8.toNat_inj] at *; omega
    simp [h1, h2, h3]
   ·by_cases h2 : y < x
    ·have h3 : (x == y) = false := by simp [UInt8.lt_iff_toNat_lt, ← UInt8.toNat_inj] at *; omega
     simp [h1, h2, h3]
    ·have h3 : x = y := by simp [UInt8.lt_iff_toNat_lt, ← UInt8.toNat_inj] at *; omega
     subst h3
     simpa [h1] using h
theorem xbin_geq (t : TypeId) (a b : ByteArray) : binOp .geq t (.string a) (.string b) = pure (.bool !(Op.bytesLess a.toList b.toList)) := by simp [binOp, Op.stringOp]
theorem xbin_leq (t : TypeId) (a b : ByteArray) : binOp .leq t (.string a) (.string b) = pure (.bool !(Op.bytesLess b.toList a.toList)) := by rw [← xbytes_tri]; simp [binOp, Op.stringOp]
theorem xbin_gtr (t : TypeId) (a b : ByteArray) : binOp .gtr t (.string a) (.string b) = pure (.bool (Op.bytesLess b.toList a.toList)) := by rw [show Op.bytesLess b.toList a.toList = !(Op.bytesLess a.toList b.toList || a.toList == b.toList) from by rw [xbytes_tri]; simp]; simp [binOp, Op.stringOp]
def errW : Option Int → Value
 | none => .nilIface
 | some c => .iface 0 (.int .i64 c)
theorem errW_none : errW none = .nilIface := rfl
theorem errW_some (c : Int) : errW (some c) = .iface 0 (.int .i64 c) := rfl
theorem info3 : (Try.prog.info? 3).map (fun i => (i.zero, i.size, i.bytes)) = some (some (.int .i64 0), 1, 8) := by kernel_rfl
theorem info9 : (Try.prog.info? 9).map (fun i => (i.zero, i.size, i.bytes)) = some (some (.string ⟨#[]⟩), 1, 16) := by kernel_rfl
theorem info54 : (Try.prog.info? 54).map (fun i => (i.zero, i.size, i.bytes)) = some (some (.agg #[(.int .i64 0), (.string ⟨#[]⟩)]), 2, 24) := by kernel_rfl
structure S54 where
 f0 : Int
 f1 : ByteArray
def z54 : S54 := ⟨(0 : Int), (⟨#[]⟩ : ByteArray)⟩
def k54 : Kd S54 := Kd.iso (Kd.pair (Kd.int .i64) Kd.string) (fun x : S54 => (x.f0, x.f1))
theorem k54_open {w : World} {x : S54} {cs : List Value} (h : k54.K w x cs) : cs = [.int .i64 x.f0, .string x.f1] := by
 obtain ⟨_, _, rfl, rfl, rfl⟩ := h
 exact rfl
theorem k54_mkM (w : World) (base : Nat) (ok : Nat → Prop) (x : S54)  : k54.M w base ok x [.int .i64 x.f0, .string x.f1] := ⟨[.int .i64 x.f0], [.string x.f1], rfl, rfl, rfl⟩
def rd_T54 (xs : List S54) (i : Int) : S54 := xs.getD i.toNat z54
theorem at_T54 {w : World} {A : Option Addr} {n : Nat} {xs : List S54} (h : Kd.C k54 w A n xs) (i : Int) (h0 : 0 ≤ i) (h1 : i < n) : ∃ ad , A = some ad ∧ w.cell? (ad.add (i.toNat * 2)) = some (.int .i64 (rd_T54 xs i).f0) ∧ w.cell? ⟨(ad.add (i.toNat * 2)).block, (ad.add (i.toNat * 2)).off + 1, none⟩ = some (.string (rd_T54 xs i).f1) := by
 obtain ⟨ad, c, e, _, hK, hc0⟩ := Kd.C_get h z54 i h0 h1
 have hc : ∀ j u, c[j]? = some u → w.cell? (ad.add (i.toNat * 2 + j)) = some u := hc0
 obtain rfl := k54_open hK
 exact ⟨ad, e, hc 0 _ rfl, by rw [← add_field _ _ 1 (by omega)]; exact hc 1 _ rfl⟩
structure S65 where
 f0 : (List Int)
 f1 : Int
 f2 : Int
structure S27 where
 f0 : (List ByteArray)
 f1 : (List S54)
 f2 : Bool
 f3 : (List Int)
end Go.Proofs.Ytddommgeaoknbaa.X
namespace Go.Proofs.Ytddommgeaoknbaa.X
open Go.RowKit Go.Proofs.YtddommgeaoknbaaW.PrintWords Go.Proofs.YtddommgeaoknbaaW.PrintLast Go.Proofs.YtddommgeaoknbaaW.PrintMore
attribute [local go_sem] xbin_geq xbin_leq xbin_gtr max2_int min2_int max_two min_two max_three min_three max_four min_four
set_option linter.unusedVariables false
set_option linter.unusedSimpArgs false
open Go.ChangeShapes Go.WideShapes
def Opens {α : Type} (P : Program) (t : TypeId) (d : Kd α) (wf : α → Prop) : Prop :=
  P.cellsOf t = d.sz ∧ ∀ {H : Type} {enc : TypeId × Value → H} {w : World} {base : Nat} {spare : Nat → Bool} {held : Bool} {fuel : Nat} {cs : List Value} {x : DataW H × List MemPlace},
    DataW.trod enc P w base spare held fuel t cs = some x → ∃ v : α, d.K w v cs ∧ wf v
theorem Opens.int_ {P : Program} {t : TypeId} {k : IntKind} (hu : P.underlying t = some (.int k)) (hc : P.cellsOf t = 1) : Opens P t (Kd.int k) (fun x => (Lit.int k x).wf = true) :=
  ⟨hc, fun h => by
    obtain ⟨n, rfl, _, hw⟩ := DataW.trod_int hu h
    exact ⟨n, rfl, hw⟩⟩
theorem choose_list {α : Type} {n : Nat} {p : Nat → α → Prop} (h : ∀ i, i < n → ∃ x, p i x) : ∃ xs : List α, xs.length = n ∧ ∀ i x, xs[i]? = some x → p i x := by
  induction n with
  | zero => exact ⟨[], rfl, fun i x hx => by simp at hx⟩
  | succ n ih =>
    obtain ⟨xs, hl, hx⟩ := ih (fun i hi => h i (by omega))
    obtain ⟨x, hp⟩ := h n (by omega)
    refine ⟨xs ++ [x], by simp [hl], fun i y hy => ?_⟩
    rcases Nat.lt_or_ge i xs.length with hi | hi
    · rw [List.getElem?_append_left hi] at hy
      exact hx i y hy
    · rw [List.getElem?_append_right hi] at hy
      have hi0 : i - xs.length = 0 := by
        have := (List.getElem?_eq_some_iff.1 hy).1
        simpa using this
      rw [hi0] at hy
      obtain rfl : x = y := by simpa using hy
      obtain rfl : i = n := by omega
      exact hp
theorem Opens.row {α : Type} {P : Program} {t e : TypeId} {d : Kd α} {wf : α → Prop} (hu : P.underlying t = some (.slice e)) (he : Opens P e d wf)
    {H : Type} {enc : TypeId × Value → H} {w : World} {base : Nat} {spare : Nat → Bool} {held : Bool} {fuel : Nat} {cs : List Value} {x : DataW H × List MemPlace}
    (h : DataW.trod enc P w base spare held fuel t cs = some x) : ∃ (A : Option Addr) (c : Nat) (l : List α), cs = [.slice A l.length c] ∧ l.length ≤ c ∧ Kd.C d w A l.length l ∧ l.length ≤ maxLen ∧ ∀ y ∈ l, wf y := by
  rcases Go.Deep.open_slice hu h with ⟨rfl, _⟩ | ⟨a, len, cap, m, n, D, Pl, rfl, hb, hl, hm, hmm, rfl, hx⟩
  · exact ⟨none, 0, [], rfl, Nat.le_refl _, ⟨rfl, by simp, fun hn => absurd hn (by simp)⟩, by simp, by simp⟩
  · have hlm : len ≤ m := by rw [hmm]; split <;> omega
    obtain ⟨l, hlen, hp⟩ := choose_list (n := len) (p := fun i v => wf v ∧ ∃ c : List Value, c.length = d.sz ∧ d.K w v c ∧ ∀ j u, c[j]? = some u → w.cell? (a.add (i * d.sz + j)) = some u) (fun i hi => by
      obtain ⟨cs', h1, h2⟩ := hx i (by omega)
      obtain ⟨v, hv, hw⟩ := he.2 h2
      obtain ⟨_, hcl, hcell⟩ := World.cells?_some h1
      rw [he.1] at hcl
      refine ⟨v, hw, cs', hcl, hv, fun j u hj => ?_⟩
      have hj' := (List.getElem?_eq_some_iff.1 hj).1
      have hc0 := hcell j (by rw [he.1]; omega)
      rw [he.1] at hc0
      rw [← hj, ← hc0]
      congr 1
      unfold Addr.add
      by_cases h0 : i * d.sz = 0 <;> by_cases h3 : j = 0 <;> simp [h0, h3, Nat.add_assoc])
    refine ⟨some a, cap, l, by rw [hlen], by omega, ⟨rfl, by simp only [maxLen] at hm; omega, fun _ => ⟨a, rfl, fun j q hq => ?_⟩⟩, by omega, fun y hy => ?_⟩
    · obtain ⟨_, c, h1, h2, h3⟩ := hp j q hq
      exact ⟨c, h1, h2, h3⟩
    · obtain ⟨j, hj⟩ := List.getElem?_of_mem hy
      exact (hp j y hj).1
theorem Opens.slice_ {α : Type} {P : Program} {t e : TypeId} {d : Kd α} {wf : α → Prop} (hu : P.underlying t = some (.slice e)) (hc : P.cellsOf t = 1) (he : Opens P e d wf) :
    Opens P t (Kd.slice e d) (fun xs => xs.length ≤ maxLen ∧ ∀ x ∈ xs, wf x) :=
  ⟨hc, fun h => by
    obtain ⟨A, c, l, rfl, hl, hC, hm, hw⟩ := Opens.row hu he h
    exact ⟨l, ⟨A, c, rfl, hl, hC⟩, hm, hw⟩⟩
theorem Opens.slice_arg {α : Type} {P : Program} {t e : TypeId} {d : Kd α} {wf : List α → Prop} (h : Opens P t (Kd.slice e d) wf)
    {H : Type} {enc : TypeId × Value → H} {w : World} {base : Nat} {spare : Nat → Bool} {held : Bool} {A : Option Addr} {len c : Nat} {x : DataW H} {ps : List MemPlace}
    (ht : DataW.Trod enc P w base spare held t (.slice A len c) x ps) : ∃ l : List α, len = l.length ∧ l.length ≤ c ∧ Kd.C d w A l.length l ∧ wf l := by
  obtain ⟨fuel, hf⟩ := ht
  obtain ⟨l, ⟨A', c', he, hl, hC⟩, hw⟩ := h.2 hf
  simp [Value.cells] at he
  obtain ⟨rfl, rfl, rfl⟩ := he
  exact ⟨l, rfl, hl, hC, hw⟩
end Go.Proofs.Ytddommgeaoknbaa.X
namespace Go.Proofs.Ytddommgeaoknbaa.X
open Go.RowKit Go.Proofs.YtddommgeaoknbaaW.PrintWords Go.Proofs.YtddommgeaoknbaaW.PrintLast Go.Proofs.YtddommgeaoknbaaW.PrintMore
attribute [local go_sem] xbin_geq xbin_leq xbin_gtr max2_int min2_int max_two min_two max_three min_three max_four min_four
set_option linter.unusedVariables false
set_option linter.unusedSimpArgs false
def firstAt {α : Type} (p : α → Bool) (l : List α) : Int := if l.any p then (l.findIdx p : Int) else -1
theorem firstAt_here {α : Type} {p : α → Bool} {l : List α} {k : Nat} (hk : k < l.length) (hn : ∀ j (hj : j < l.length), j < k → p l[j] = false) (h : p l[k] = true) : firstAt p l = k := by
  have hi : l.findIdx p = k := (List.findIdx_eq hk).2 ⟨h, fun j hj => by simpa using hn j (by omega) hj⟩
  have ha : l.any p = true := List.any_eq_true.2 ⟨l[k], List.getElem_mem hk, h⟩
  unfold firstAt
  rw [if_pos ha, hi]
theorem firstAt_none {α : Type} {p : α → Bool} {l : List α} (hn : ∀ j (hj : j < l.length), p l[j] = false) : firstAt p l = -1 := by
  unfold firstAt
  rw [if_neg]
  intro h
  obtain ⟨x, hx, hp⟩ := List.any_eq_true.1 h
  obtain ⟨j, hj, rfl⟩ := List.getElem_of_mem hx
  rw [hn j hj] at hp
  cases hp
set_option maxHeartbeats 1000000 in
set_option maxRecDepth 100000 in
theorem indexFunc_Pending (p : S54 → Bool) (g : Nat) (lb : Array Value) (eg : ∀ args w, (callFunc g args).run Try.prog w = .ok (.enter g args) w) (A0 : Option Addr) (c0 : Nat) (l0 : List S54) (w : World) (hr0 : Kd.C k54 w A0 l0.length l0)
    (hp : ∀ (x : S54) (W : World), x ∈ l0 → Below w.heap.size w W → Calls Try.prog g (#[.agg #[.int .i64 x.f0, .string x.f1]] ++ lb) W fun e W' => e = .returned (.bool (p x)) ∧ Below W.heap.size W W') :
    Calls Try.prog 52 #[.slice A0 l0.length c0, .func (.func g) #[] lb] w fun e w' => e = .returned (.int .i64 (firstAt p l0)) ∧ Below w.heap.size w w' := by
  have hu := Try.underlying54
  have hm : l0.length ≤ 9223372036854775807 := hr0.2.1
  have HR0 := Aside0.mk hr0
  have HP := Aside0.mk hp
  clear hr0 hp
  go_enter Try.func52, Try.ntmps52
  go_wp2_with fail
  go_loopw [8] (fun v8 wr => ∃ k : Nat, k ≤ l0.length ∧ v8 = .int .i64 k ∧ Aside0 (∀ j (hj : j < l0.length), j < k → p l0[j] = false) ∧ Aside0 (Below w.heap.size w wr)) (fun v8 _ => l0.length - (intOf v8).toNat)
  case atStart => exact ⟨0, Nat.zero_le _, rfl, ⟨fun j hj h => absurd h (by omega)⟩, ⟨Below.refl _ _⟩⟩
  case round =>
    obtain ⟨k, hk, rfl, HN, HB⟩ := hrel
    by_cases hlt : k < l0.length
    · have p1 : 0 ≤ (k : Int) := by omega
      have q1 : (k : Int) < (l0.length : Int) := by omega
      obtain ⟨ad1, e1, hx0, hx1⟩ := at_T54 HR0.out (k : Int) p1 q1
      have hx : rd_T54 l0 (k : Int) = l0[k] := by unfold rd_T54; rw [Int.toNat_natCast]; simp [List.getD_eq_getElem?_getD, hlt]
      rw [hx] at hx0 hx1
      cases e1
      replace hx0 := (HB.out.cell (World.block_lt_of_cell? w _ hx0)).trans hx0
      replace hx1 := (HB.out.cell (World.block_lt_of_cell? w _ hx1)).trans hx1
      rw [Int.toNat_natCast] at hx0 hx1
      clear hx
      have hb := fun W hW => HP.out l0[k] W (List.getElem_mem hlt) hW
      have HB2 := Aside0.mk hb
      clear hb
      cases hpk : p l0[k] with
      | true =>
        have HK := Aside0.mk hpk
        clear hpk
        go_wp2_with fail
        refine (HB2.out _ HB.out).mono ?_
        rintro e w1 ⟨rfl, hb1⟩
        rw [HK.out]
        go_wp2_with fail
        go_ret
        exact ⟨by rw [firstAt_here hlt HN.out HK.out]; rfl, below_step HB.out hb1⟩
      | false =>
        have HK := Aside0.mk hpk
        clear hpk
        go_wp2_with fail
        refine (HB2.out _ HB.out).mono ?_
        rintro e w1 ⟨rfl, hb1⟩
        rw [HK.out]
        go_wp2_with fail
        go_roundw
        case rel => exact ⟨k + 1, by omega, by go_num, ⟨fun j hj h => by
          by_cases e : j = k
          · subst e; exact HK.out
          · exact HN.out j hj (by omega)⟩, ⟨below_step HB.out hb1⟩⟩
        case measure => simp [intOf]; omega
    · go_wp2_with fail
      go_ret
      exact ⟨by rw [firstAt_none fun j hj => HN.out j hj (by omega)]; rfl, HB.out⟩
set_option maxRecDepth 100000 in
theorem containsFunc_Pending (p : S54 → Bool) (g : Nat) (lb : Array Value) (eg : ∀ args w, (callFunc g args).run Try.prog w = .ok (.enter g args) w) (A0 : Option Addr) (c0 : Nat) (l0 : List S54) (w : World) (hr0 : Kd.C k54 w A0 l0.length l0)
    (hp : ∀ (x : S54) (W : World), x ∈ l0 → Below w.heap.size w W → Calls Try.prog g (#[.agg #[.int .i64 x.f0, .string x.f1]] ++ lb) W fun e W' => e = .returned (.bool (p x)) ∧ Below W.heap.size W W') :
    Calls Try.prog 36 #[.slice A0 l0.length c0, .func (.func g) #[] lb] w fun e w' => e = .returned (.bool (l0.any p)) ∧ Below w.heap.size w w' := by
  have HC := Aside0.mk (indexFunc_Pending p g lb eg A0 c0 l0 w hr0 hp)
  clear hr0 hp
  cases ha : l0.any p with
  | true =>
    have h1 : 0 ≤ firstAt p l0 := by unfold firstAt; rw [if_pos ha]; omega
    have h2 : decide (0 ≤ firstAt p l0) = true := decide_eq_true h1
    clear ha h1
    generalize firstAt p l0 = r at HC h2
    go_enter Try.func36, Try.ntmps36
    go_wp2_with fail
    refine HC.out.mono ?_
    rintro e w1 ⟨rfl, hb1⟩
    go_wp2_with fail
    go_ret
    exact ⟨by first | rfl | simp [h2], hb1⟩
  | false =>
    have h1 : firstAt p l0 = -1 := by unfold firstAt; rw [if_neg (by rw [ha]; decide)]
    rw [h1] at HC
    clear ha h1
    go_enter Try.func36, Try.ntmps36
    go_wp2_with fail
    refine HC.out.mono ?_
    rintro e w1 ⟨rfl, hb1⟩
    go_wp2_with fail
    go_ret
    exact ⟨rfl, hb1⟩
theorem any_eq_of {α : Type} {l : List α} {f g : α → Bool} (h : ∀ x, x ∈ l → f x = g x) : l.any f = l.any g := by
  induction l with
  | nil => rfl
  | cons a l ih => simp only [List.any_cons]; rw [h a List.mem_cons_self, ih fun x hx => h x (List.mem_cons_of_mem _ hx)]
theorem Ev.list {α β : Type} {l : List α} {g : Nat → α → Option β} {v : α → β} (h : ∀ x, x ∈ l → Ev (fun k => g k x) (v x)) : ∃ K, ∀ k, K ≤ k → ∀ x, x ∈ l → g k x = some (v x) := by
  induction l with
  | nil => exact ⟨0, fun k _ x hx => (by cases hx)⟩
  | cons a l ih =>
    obtain ⟨K1, h1⟩ := ih fun x hx => h x (List.mem_cons_of_mem _ hx)
    obtain ⟨K2, h2⟩ := h a List.mem_cons_self
    refine ⟨K1 + K2, fun k hk x hx => ?_⟩
    rcases List.mem_cons.1 hx with rfl | hx
    · exact h2 k (by omega)
    · exact h1 k (by omega) x hx
theorem Ev.any {α : Type} {l : List α} {g : Nat → α → Option Bool} {v : α → Bool} (h : ∀ x, x ∈ l → Ev (fun k => g k x) (v x)) : Ev (fun k => if (l.all fun x => (g k x).isSome) = true then some (l.any fun x => (g k x).getD false) else none) (l.any v) := by
  obtain ⟨K, hK⟩ := Ev.list h
  refine ⟨K, fun k hk => ?_⟩
  show (if (l.all fun x => (g k x).isSome) = true then some (l.any fun x => (g k x).getD false) else none) = some (l.any v)
  rw [if_pos (List.all_eq_true.2 fun x hx => by rw [hK k hk x hx]; rfl)]
  exact congrArg some (any_eq_of fun x hx => by rw [hK k hk x hx]; rfl)
theorem any_not {α : Type} (l : List α) (p : α → Bool) : (l.any fun x => !p x) = !l.all p := by
  induction l with
  | nil => rfl
  | cons a l ih => simp only [List.any_cons, List.all_cons, ih]; cases p a <;> simp
theorem enters_here {P : Program} {f : FuncId} {fn : Func} {c : Code} (hf : P.funcs[f]? = some fn) (hname : (fn.name == "runtime.NumGoroutine") = false) (hb : fn.body = some c) (args : Array Value) (w : World) : (callFunc f args).run P w = .ok (.enter f args) w := by
  have h1 : fn.name ≠ "runtime.NumGoroutine" := by simpa using hname
  simp [callFunc, hf, h1, hb, mark]
def impl_within.f (a0 : Int) (a1 : Int) (a2 : Int) : Option (Bool) := if a0 ≥ a1 then (some (decide (a0 ≤ a2))) else (some false)
set_option maxHeartbeats 8000000 in
set_option maxRecDepth 100000 in
theorem impl_within.calls (a0 : Int) (a1 : Int) (a2 : Int) (r : Bool) (w : World) (h : impl_within.f a0 a1 a2 = some r) :
  Calls Try.prog 19 #[.int .i64 a0, .int .i64 a1, .int .i64 a2] w fun e w' => e = .returned (.bool r) ∧ Drawn0 w w' := by
 have H : (if a0 ≥ a1 then (some (decide (a0 ≤ a2))) else (some false)) = some r := h
 clear h
 by_cases c4 : a0 ≥ a1
 ·rw [if_pos c4] at H
  have c4b0 : decide (a1 ≤ a0) = true := decide_eq_true c4
  clear c4
  obtain rfl := Option.some.inj H
  go_enter Try.func19, Try.ntmps19
  go_wp2
  go_ret
  exact ⟨by first | rfl | (simp; done) | (simp [*]; done), by repeat (first | exact Drawn0.refl _ | apply Drawn0.step)⟩
 ·rw [if_neg c4] at H
  have c4b0 : decide (a1 ≤ a0) = false := decide_eq_false c4
  clear c4
  obtain rfl := Option.some.inj H
  go_enter Try.func19, Try.ntmps19
  go_wp2
  go_ret
  exact ⟨by first | rfl | (simp; done) | (simp [*]; done), by repeat (first | exact Drawn0.refl _ | apply Drawn0.step)⟩
def pendB (n : Nat) (p : S54) : Bool := decide (0 ≤ p.f0 ∧ p.f0 ≤ (n : Int) - 1) && decide (p.f1.size ≤ 420)
def diskB (s : List ByteArray) (c : List S54) (a : Bool) (k : List Int) : Bool := decide (1 ≤ s.length ∧ s.length ≤ 80) && (decide (c.length ≤ 500) && (decide (k.length ≤ 500) && ((a || decide (k.length = 0)) && ((s.all fun t => decide (t.size ≤ 420)) && c.all (pendB s.length)))))
theorem within_is (a b c : Int) : impl_within.f a b c = some (decide (b ≤ a ∧ a ≤ c)) := by
  unfold impl_within.f
  by_cases h : a ≥ b
  · rw [if_pos h]; simp [h]
  · rw [if_neg h]; simp; omega
set_option maxRecDepth 100000 in
set_option maxHeartbeats 2000000 in
theorem diskOK_closure (x : S54) (A0 : Option Addr) (n c0 gb : Nat) (w : World) (hn : n ≤ 1000) (hc : w.cell? ⟨gb, 0, none⟩ = some (.slice A0 n c0)) : Calls Try.prog 37 #[.agg #[.int .i64 x.f0, .string x.f1], .pointer (some ⟨gb, 0, none⟩)] w fun e w' => e = .returned (.bool (!pendB n x)) ∧ Below w.heap.size w w' := by
  have hu := Try.underlying54
  have hu2 := Try.underlying27
  have HB0 := Aside0.mk ((Below.refl w.heap.size w).alloc (Nat.le_refl _) (.cells #[.int .i64 x.f0, .string x.f1] 54 (0, 0)))
  have hc2 := pw_cell_below HB0.out hc
  have hw := Aside0.mk (within_is x.f0 0 ((n : Int) - 1))
  have hwr : IntKind.i64.wrap ((n : Int) - 1) = (n : Int) - 1 := by rw [IntKind.wrap_i64]; omega
  by_cases h1 : 0 ≤ x.f0 ∧ x.f0 ≤ (n : Int) - 1
  · have h1b : decide (0 ≤ x.f0 ∧ x.f0 ≤ (n : Int) - 1) = true := decide_eq_true h1
    rw [h1b] at hw
    have hp : pendB n x = decide (x.f1.size ≤ 420) := by unfold pendB; rw [h1b]; rfl
    rw [hp]
    clear hp h1b h1
    by_cases h2 : x.f1.size ≤ 420
    · have h2b : decide (420 < (x.f1.size : Int)) = false := decide_eq_false (by omega)
      rw [decide_eq_true h2]
      go_enter Try.func37, Try.ntmps37
      go_wp2_with fail
      refine (impl_within.calls _ _ _ _ _ hw.out).mono ?_
      rintro e w' ⟨rfl, hb⟩
      have HB := Aside0.mk (show Below w.heap.size w w' from by first | exact below_step HB0.out hb | exact below_step HB0.out hb.below)
      have hl0 := by first | exact blk_below (blk_new w (.cells #[.int .i64 x.f0, .string x.f1] 54 (0, 0))) hb | exact blk_below (blk_new w (.cells #[.int .i64 x.f0, .string x.f1] 54 (0, 0))) hb.below
      have hl1 : w'.cell? ⟨w.heap.size, 1, none⟩ = some (.string x.f1) := blk_cell hl0 1
      clear hb hl0
      go_wp2_with fail
      go_ret
      exact ⟨rfl, HB.out⟩
    · have h2b : decide (420 < (x.f1.size : Int)) = true := decide_eq_true (by omega)
      rw [decide_eq_false h2]
      go_enter Try.func37, Try.ntmps37
      go_wp2_with fail
      refine (impl_within.calls _ _ _ _ _ hw.out).mono ?_
      rintro e w' ⟨rfl, hb⟩
      have HB := Aside0.mk (show Below w.heap.size w w' from by first | exact below_step HB0.out hb | exact below_step HB0.out hb.below)
      have hl0 := by first | exact blk_below (blk_new w (.cells #[.int .i64 x.f0, .string x.f1] 54 (0, 0))) hb | exact blk_below (blk_new w (.cells #[.int .i64 x.f0, .string x.f1] 54 (0, 0))) hb.below
      have hl1 : w'.cell? ⟨w.heap.size, 1, none⟩ = some (.string x.f1) := blk_cell hl0 1
      clear hb hl0
      go_wp2_with fail
      go_ret
      exact ⟨rfl, HB.out⟩
  · have h1b : decide (0 ≤ x.f0 ∧ x.f0 ≤ (n : Int) - 1) = false := decide_eq_false h1
    rw [h1b] at hw
    have hp : pendB n x = false := by unfold pendB; rw [h1b]; rfl
    rw [hp]
    clear hp h1b h1
    go_enter Try.func37, Try.ntmps37
    go_wp2_with fail
    refine (impl_within.calls _ _ _ _ _ hw.out).mono ?_
    rintro e w' ⟨rfl, hb⟩
    have HB := Aside0.mk (show Below w.heap.size w w' from by first | exact below_step HB0.out hb | exact below_step HB0.out hb.below)
    clear hb
    go_wp2_with fail
    go_ret
    exact ⟨rfl, HB.out⟩
set_option maxRecDepth 100000 in
set_option maxHeartbeats 16000000 in
theorem diskOK_core (n m q : Nat) (A0_0 : Option Addr) (c0_0 : Nat) (l0_0 : List ByteArray) (A0_1 : Option Addr) (c0_1 : Nat) (l0_1 : List (S54)) (a0_2 : Bool) (A0_3 : Option Addr) (c0_3 : Nat) (w : World) (hn : l0_0.length = n) (hm : l0_1.length = m) (hn2 : n ≤ 9223372036854775807) (hm2 : m ≤ 9223372036854775807) (hq2 : q ≤ 9223372036854775807) (hr0_0 : Kd.C Kd.string w A0_0 n l0_0) (hr0_1 : Kd.C k54 w A0_1 m l0_1) :
    Calls Try.prog 16 #[.agg #[.slice A0_0 n c0_0, .slice A0_1 m c0_1, .bool a0_2, .slice A0_3 q c0_3]] w fun e w' => e = .returned (.bool (decide (1 ≤ n ∧ n ≤ 80) && (decide (m ≤ 500) && (decide (q ≤ 500) && ((a0_2 || decide (q = 0)) && ((l0_0.all fun t => decide (t.size ≤ 420)) && l0_1.all (pendB n))))))) ∧ Below w.heap.size w w' := by
  have hu := Try.underlying27
  have HB0 := Aside0.mk ((Below.refl w.heap.size w).alloc (Nat.le_refl _) (.cells #[.slice A0_0 n c0_0, .slice A0_1 m c0_1, .bool a0_2, .slice A0_3 q c0_3] 27 (0, 0)))
  have hbk := blk_new w (.cells #[.slice A0_0 n c0_0, .slice A0_1 m c0_1, .bool a0_2, .slice A0_3 q c0_3] 27 (0, 0))
  have HR0 := Aside0.mk hr0_0
  have HR1 := Aside0.mk hr0_1
  have HN := Aside0.mk hn
  have HM := Aside0.mk hm
  clear hn hm
  have hw := Aside0.mk (within_is (n : Int) 1 80)
  by_cases h1 : 1 ≤ (n : Int) ∧ (n : Int) ≤ 80
  · have h1b : decide (1 ≤ (n : Int) ∧ (n : Int) ≤ 80) = true := decide_eq_true h1
    rw [h1b] at hw
    rw [decide_eq_true (show 1 ≤ n ∧ n ≤ 80 by omega), Bool.true_and]
    clear h1b
    by_cases h2 : m ≤ 500
    · have h2b : decide (500 < (m : Int)) = false := decide_eq_false (by omega)
      rw [decide_eq_true h2, Bool.true_and]
      by_cases h3 : q ≤ 500
      · have h3b : decide (500 < (q : Int)) = false := decide_eq_false (by omega)
        rw [decide_eq_true h3, Bool.true_and]
        by_cases h4 : q = 0
        · have h4b : decide (0 < (q : Int)) = false := decide_eq_false (by omega)
          have h4c : decide (0 < q) = false := decide_eq_false (by omega)
          rw [decide_eq_true h4, Bool.or_true, Bool.true_and]
          have h5 := Aside0.mk h4
          clear h4
          have eg : ∀ args w, (callFunc 37 args).run Try.prog w = .ok (.enter 37 args) w := fun args w => enters_here Try.func37 (by kernel_rfl) rfl args w
          have HEG := Aside0.mk eg
          clear eg hr0_0 hr0_1
          go_enter Try.func16, Try.ntmps16
          go_wp2_with fail
          refine (impl_within.calls _ _ _ _ _ hw.out).mono ?_
          rintro e w1 ⟨rfl, hb⟩
          have HB := Aside0.mk (show Below w.heap.size w w1 from by first | exact below_step HB0.out hb | exact below_step HB0.out hb.below)
          have HK1 := Aside0.mk (by first | exact blk_below hbk hb | exact blk_below hbk hb.below)
          have hk0 := blk_cell HK1.out 0
          have hk1 := blk_cell HK1.out 1
          have hk2 := blk_cell HK1.out 2
          have hk3 := blk_cell HK1.out 3
          replace hk0 : w1.cell? ⟨w.heap.size, 0, none⟩ = some (.slice A0_0 n c0_0) := hk0
          replace hk1 : w1.cell? ⟨w.heap.size, 1, none⟩ = some (.slice A0_1 m c0_1) := hk1
          replace hk2 : w1.cell? ⟨w.heap.size, 2, none⟩ = some (.bool a0_2) := hk2
          replace hk3 : w1.cell? ⟨w.heap.size, 3, none⟩ = some (.slice A0_3 q c0_3) := hk3
          clear hb hbk
          have HRs := Aside0.mk (Kd.C_below HR0.out HB.out)
          have HRc := Aside0.mk (Kd.C_below HR1.out HB.out)
          clear HR0 HR1 HB0
          go_wp2_with fail
          go_loopw [36] (fun v36 wr => ∃ k : Nat, k ≤ n ∧ v36 = .int .i64 k ∧ Aside0 (∀ j (hj : j < l0_0.length), j < k → l0_0[j].size ≤ 420) ∧ wr = w1) (fun v36 _ => n - (intOf v36).toNat)
          case atStart => exact ⟨0, Nat.zero_le _, rfl, ⟨fun j hj h => absurd h (by omega)⟩, rfl⟩
          case round =>
            obtain ⟨k, hk, rfl, HA, rfl⟩ := hrel
            by_cases hlt : k < n
            · have c1 : decide ((k : Int) < (n : Int)) = true := decide_eq_true (by omega)
              obtain ⟨ad, e, hx⟩ := Kd.at_string HRs.out (k : Int) (by omega) (by omega)
              cases e
              have hkl : k < l0_0.length := by rw [HN.out]; exact hlt
              have et : rdOf ByteArray.empty l0_0 (k : Int) = l0_0[k] := by unfold rdOf; rw [Int.toNat_natCast]; simp [List.getD_eq_getElem?_getD, hkl]
              rw [et, Int.toNat_natCast] at hx
              have hmem : l0_0[k] ∈ l0_0 := List.getElem_mem hkl
              obtain ⟨t, ht⟩ : ∃ t, t = l0_0[k] := ⟨_, rfl⟩
              rw [← ht] at hx hmem
              have HT := Aside0.mk ht
              have p1 : 0 ≤ (k : Int) := by omega
              have q1 : (k : Int) < (n : Int) := by omega
              have htz : (t.size : Int) ≤ 9223372036854775807 ∨ 9223372036854775807 < (t.size : Int) := by omega
              clear et ht htz
              by_cases hs : t.size ≤ 420
              · have c2 : decide (420 < (t.size : Int)) = false := decide_eq_false (by omega)
                go_wp2_with fail
                exact ⟨⟨k + 1, by omega, by go_num, ⟨fun j hj h => by
                  by_cases e : j = k
                  · subst e; rw [← HT.out]; exact hs
                  · exact HA.out j hj (by omega)⟩, trivial⟩, by simp [intOf]; omega⟩
              · have c2 : decide (420 < (t.size : Int)) = true := decide_eq_true (by omega)
                have HF := Aside0.mk (show (l0_0.all fun t => decide (t.size ≤ 420)) = false from by
                  rw [List.all_eq_false]
                  exact ⟨t, hmem, by simp; omega⟩)
                clear hmem
                go_wp2_with fail
                go_ret
                exact ⟨by rw [HF.out]; rfl, HB.out⟩
            · have he : k = n := by omega
              have c1 : decide ((k : Int) < (n : Int)) = false := decide_eq_false (by omega)
              have HF := Aside0.mk (show (l0_0.all fun t => decide (t.size ≤ 420)) = true from by
                rw [List.all_eq_true]
                intro x hx
                obtain ⟨j, hj, rfl⟩ := List.getElem_of_mem hx
                simp only [decide_eq_true_eq]
                exact HA.out j hj (by rw [he, ← HN.out]; exact hj))
              have HC := Aside0.mk (containsFunc_Pending (fun x => !pendB n x) 37 #[.pointer (some ⟨w.heap.size, 0, none⟩)] HEG.out A0_1 c0_1 l0_1 wr (by rw [HM.out]; exact HRc.out) (fun x W _ hW => diskOK_closure x A0_0 n c0_0 w.heap.size W (by omega) (pw_cell_below hW hk0)))
              rw [HM.out] at HC
              have HAN := Aside0.mk (any_not l0_1 (pendB n))
              rw [HAN.out] at HC
              obtain ⟨b, hb⟩ : ∃ b, b = l0_1.all (pendB n) := ⟨_, rfl⟩
              rw [← hb] at HC
              have HBb := Aside0.mk hb
              clear hb
              clear he HA HAN
              go_wp2_with fail
              refine HC.out.mono ?_
              rintro e w2 ⟨rfl, hb2⟩
              have HB2 := Aside0.mk (below_step HB.out hb2)
              clear hb2
              go_wp2_with fail
              go_ret
              exact ⟨by rw [HF.out, ← HBb.out]; simp, HB2.out⟩
        · have h4b : decide (0 < (q : Int)) = true := decide_eq_true (by omega)
          have h4c : decide (0 < q) = true := decide_eq_true (by omega)
          rw [decide_eq_false h4, Bool.or_false]
          cases a0_2 with
          | false =>
            rw [Bool.false_and]
            clear HR0 HR1 hr0_0 hr0_1
            go_enter Try.func16, Try.ntmps16
            go_wp2_with fail
            refine (impl_within.calls _ _ _ _ _ hw.out).mono ?_
            rintro e w1 ⟨rfl, hb⟩
            have HB := Aside0.mk (show Below w.heap.size w w1 from by first | exact below_step HB0.out hb | exact below_step HB0.out hb.below)
            have HK1 := Aside0.mk (by first | exact blk_below hbk hb | exact blk_below hbk hb.below)
            have hk0 := blk_cell HK1.out 0
            have hk1 := blk_cell HK1.out 1
            have hk2 := blk_cell HK1.out 2
            have hk3 := blk_cell HK1.out 3
            replace hk0 : w1.cell? ⟨w.heap.size, 0, none⟩ = some (.slice A0_0 n c0_0) := hk0
            replace hk1 : w1.cell? ⟨w.heap.size, 1, none⟩ = some (.slice A0_1 m c0_1) := hk1
            replace hk2 : w1.cell? ⟨w.heap.size, 2, none⟩ = some (.bool false) := hk2
            replace hk3 : w1.cell? ⟨w.heap.size, 3, none⟩ = some (.slice A0_3 q c0_3) := hk3
            clear hb hbk
            go_wp2_with fail
            go_ret
            exact ⟨rfl, HB.out⟩
          | true =>
            rw [Bool.true_and]
            have eg : ∀ args w, (callFunc 37 args).run Try.prog w = .ok (.enter 37 args) w := fun args w => enters_here Try.func37 (by kernel_rfl) rfl args w
            have HEG := Aside0.mk eg
            clear eg hr0_0 hr0_1
            go_enter Try.func16, Try.ntmps16
            go_wp2_with fail
            refine (impl_within.calls _ _ _ _ _ hw.out).mono ?_
            rintro e w1 ⟨rfl, hb⟩
            have HB := Aside0.mk (show Below w.heap.size w w1 from by first | exact below_step HB0.out hb | exact below_step HB0.out hb.below)
            have HK1 := Aside0.mk (by first | exact blk_below hbk hb | exact blk_below hbk hb.below)
            have hk0 := blk_cell HK1.out 0
            have hk1 := blk_cell HK1.out 1
            have hk2 := blk_cell HK1.out 2
            have hk3 := blk_cell HK1.out 3
            replace hk0 : w1.cell? ⟨w.heap.size, 0, none⟩ = some (.slice A0_0 n c0_0) := hk0
            replace hk1 : w1.cell? ⟨w.heap.size, 1, none⟩ = some (.slice A0_1 m c0_1) := hk1
            replace hk2 : w1.cell? ⟨w.heap.size, 2, none⟩ = some (.bool true) := hk2
            replace hk3 : w1.cell? ⟨w.heap.size, 3, none⟩ = some (.slice A0_3 q c0_3) := hk3
            clear hb hbk
            have HRs := Aside0.mk (Kd.C_below HR0.out HB.out)
            have HRc := Aside0.mk (Kd.C_below HR1.out HB.out)
            clear HR0 HR1 HB0
            go_wp2_with fail
            go_loopw [36] (fun v36 wr => ∃ k : Nat, k ≤ n ∧ v36 = .int .i64 k ∧ Aside0 (∀ j (hj : j < l0_0.length), j < k → l0_0[j].size ≤ 420) ∧ wr = w1) (fun v36 _ => n - (intOf v36).toNat)
            case atStart => exact ⟨0, Nat.zero_le _, rfl, ⟨fun j hj h => absurd h (by omega)⟩, rfl⟩
            case round =>
              obtain ⟨k, hk, rfl, HA, rfl⟩ := hrel
              by_cases hlt : k < n
              · have c1 : decide ((k : Int) < (n : Int)) = true := decide_eq_true (by omega)
                obtain ⟨ad, e, hx⟩ := Kd.at_string HRs.out (k : Int) (by omega) (by omega)
                cases e
                have hkl : k < l0_0.length := by rw [HN.out]; exact hlt
                have et : rdOf ByteArray.empty l0_0 (k : Int) = l0_0[k] := by unfold rdOf; rw [Int.toNat_natCast]; simp [List.getD_eq_getElem?_getD, hkl]
                rw [et, Int.toNat_natCast] at hx
                have hmem : l0_0[k] ∈ l0_0 := List.getElem_mem hkl
                obtain ⟨t, ht⟩ : ∃ t, t = l0_0[k] := ⟨_, rfl⟩
                rw [← ht] at hx hmem
                have HT := Aside0.mk ht
                have p1 : 0 ≤ (k : Int) := by omega
                have q1 : (k : Int) < (n : Int) := by omega
                have htz : (t.size : Int) ≤ 9223372036854775807 ∨ 9223372036854775807 < (t.size : Int) := by omega
                clear et ht htz
                by_cases hs : t.size ≤ 420
                · have c2 : decide (420 < (t.size : Int)) = false := decide_eq_false (by omega)
                  go_wp2_with fail
                  exact ⟨⟨k + 1, by omega, by go_num, ⟨fun j hj h => by
                    by_cases e : j = k
                    · subst e; rw [← HT.out]; exact hs
                    · exact HA.out j hj (by omega)⟩, trivial⟩, by simp [intOf]; omega⟩
                · have c2 : decide (420 < (t.size : Int)) = true := decide_eq_true (by omega)
                  have HF := Aside0.mk (show (l0_0.all fun t => decide (t.size ≤ 420)) = false from by
                    rw [List.all_eq_false]
                    exact ⟨t, hmem, by simp; omega⟩)
                  clear hmem
                  go_wp2_with fail
                  go_ret
                  exact ⟨by rw [HF.out]; rfl, HB.out⟩
              · have he : k = n := by omega
                have c1 : decide ((k : Int) < (n : Int)) = false := decide_eq_false (by omega)
                have HF := Aside0.mk (show (l0_0.all fun t => decide (t.size ≤ 420)) = true from by
                  rw [List.all_eq_true]
                  intro x hx
                  obtain ⟨j, hj, rfl⟩ := List.getElem_of_mem hx
                  simp only [decide_eq_true_eq]
                  exact HA.out j hj (by rw [he, ← HN.out]; exact hj))
                have HC := Aside0.mk (containsFunc_Pending (fun x => !pendB n x) 37 #[.pointer (some ⟨w.heap.size, 0, none⟩)] HEG.out A0_1 c0_1 l0_1 wr (by rw [HM.out]; exact HRc.out) (fun x W _ hW => diskOK_closure x A0_0 n c0_0 w.heap.size W (by omega) (pw_cell_below hW hk0)))
                rw [HM.out] at HC
                have HAN := Aside0.mk (any_not l0_1 (pendB n))
                rw [HAN.out] at HC
                obtain ⟨b, hb⟩ : ∃ b, b = l0_1.all (pendB n) := ⟨_, rfl⟩
                rw [← hb] at HC
                have HBb := Aside0.mk hb
                clear hb
                clear he HA HAN
                go_wp2_with fail
                refine HC.out.mono ?_
                rintro e w2 ⟨rfl, hb2⟩
                have HB2 := Aside0.mk (below_step HB.out hb2)
                clear hb2
                go_wp2_with fail
                go_ret
                exact ⟨by rw [HF.out, ← HBb.out]; simp, HB2.out⟩
      · have h3b : decide (500 < (q : Int)) = true := decide_eq_true (by omega)
        rw [decide_eq_false h3, Bool.false_and]
        clear HR0 HR1 hr0_0 hr0_1
        go_enter Try.func16, Try.ntmps16
        go_wp2_with fail
        refine (impl_within.calls _ _ _ _ _ hw.out).mono ?_
        rintro e w1 ⟨rfl, hb⟩
        have HB := Aside0.mk (show Below w.heap.size w w1 from by first | exact below_step HB0.out hb | exact below_step HB0.out hb.below)
        have HK1 := Aside0.mk (by first | exact blk_below hbk hb | exact blk_below hbk hb.below)
        have hk0 := blk_cell HK1.out 0
        have hk1 := blk_cell HK1.out 1
        have hk2 := blk_cell HK1.out 2
        have hk3 := blk_cell HK1.out 3
        replace hk0 : w1.cell? ⟨w.heap.size, 0, none⟩ = some (.slice A0_0 n c0_0) := hk0
        replace hk1 : w1.cell? ⟨w.heap.size, 1, none⟩ = some (.slice A0_1 m c0_1) := hk1
        replace hk2 : w1.cell? ⟨w.heap.size, 2, none⟩ = some (.bool a0_2) := hk2
        replace hk3 : w1.cell? ⟨w.heap.size, 3, none⟩ = some (.slice A0_3 q c0_3) := hk3
        clear hb hbk
        go_wp2_with fail
        go_ret
        exact ⟨rfl, HB.out⟩
    · have h2b : decide (500 < (m : Int)) = true := decide_eq_true (by omega)
      rw [decide_eq_false h2, Bool.false_and]
      clear HR0 HR1 hr0_0 hr0_1
      go_enter Try.func16, Try.ntmps16
      go_wp2_with fail
      refine (impl_within.calls _ _ _ _ _ hw.out).mono ?_
      rintro e w1 ⟨rfl, hb⟩
      have HB := Aside0.mk (show Below w.heap.size w w1 from by first | exact below_step HB0.out hb | exact below_step HB0.out hb.below)
      have HK1 := Aside0.mk (by first | exact blk_below hbk hb | exact blk_below hbk hb.below)
      have hk0 := blk_cell HK1.out 0
      have hk1 := blk_cell HK1.out 1
      have hk2 := blk_cell HK1.out 2
      have hk3 := blk_cell HK1.out 3
      replace hk0 : w1.cell? ⟨w.heap.size, 0, none⟩ = some (.slice A0_0 n c0_0) := hk0
      replace hk1 : w1.cell? ⟨w.heap.size, 1, none⟩ = some (.slice A0_1 m c0_1) := hk1
      replace hk2 : w1.cell? ⟨w.heap.size, 2, none⟩ = some (.bool a0_2) := hk2
      replace hk3 : w1.cell? ⟨w.heap.size, 3, none⟩ = some (.slice A0_3 q c0_3) := hk3
      clear hb hbk
      go_wp2_with fail
      go_ret
      exact ⟨rfl, HB.out⟩
  · have h1b : decide (1 ≤ (n : Int) ∧ (n : Int) ≤ 80) = false := decide_eq_false h1
    rw [h1b] at hw
    rw [decide_eq_false (show ¬ (1 ≤ n ∧ n ≤ 80) by omega), Bool.false_and]
    clear h1b
    clear HR0 HR1 hr0_0 hr0_1
    go_enter Try.func16, Try.ntmps16
    go_wp2_with fail
    refine (impl_within.calls _ _ _ _ _ hw.out).mono ?_
    rintro e w1 ⟨rfl, hb⟩
    have HB := Aside0.mk (show Below w.heap.size w w1 from by first | exact below_step HB0.out hb | exact below_step HB0.out hb.below)
    have HK1 := Aside0.mk (by first | exact blk_below hbk hb | exact blk_below hbk hb.below)
    have hk0 := blk_cell HK1.out 0
    have hk1 := blk_cell HK1.out 1
    have hk2 := blk_cell HK1.out 2
    have hk3 := blk_cell HK1.out 3
    replace hk0 : w1.cell? ⟨w.heap.size, 0, none⟩ = some (.slice A0_0 n c0_0) := hk0
    replace hk1 : w1.cell? ⟨w.heap.size, 1, none⟩ = some (.slice A0_1 m c0_1) := hk1
    replace hk2 : w1.cell? ⟨w.heap.size, 2, none⟩ = some (.bool a0_2) := hk2
    replace hk3 : w1.cell? ⟨w.heap.size, 3, none⟩ = some (.slice A0_3 q c0_3) := hk3
    clear hb hbk
    go_wp2_with fail
    go_ret
    exact ⟨rfl, HB.out⟩
def impl_DiskOK.f (l0_0 : List ByteArray) (l0_1 : List S54) (a0_2 : Bool) (l0_3 : List Int) : Option Bool := some (diskB l0_0 l0_1 a0_2 l0_3)
theorem impl_DiskOK.calls (A0_0 : Option Addr) (c0_0 : Nat) (l0_0 : List ByteArray) (A0_1 : Option Addr) (c0_1 : Nat) (l0_1 : List (S54)) (a0_2 : Bool) (A0_3 : Option Addr) (c0_3 : Nat) (l0_3 : List Int) (r : Bool) (w : World) (hr0_0 : Kd.C Kd.string w A0_0 l0_0.length l0_0) (hc0_0 : l0_0.length ≤ c0_0) (hr0_1 : Kd.C k54 w A0_1 l0_1.length l0_1) (hc0_1 : l0_1.length ≤ c0_1) (hr0_3 : Kd.C (Kd.int .i64) w A0_3 l0_3.length l0_3) (hc0_3 : l0_3.length ≤ c0_3) (h : impl_DiskOK.f l0_0 l0_1 a0_2 l0_3 = some r) :
    Calls Try.prog 16 #[.agg #[.slice A0_0 l0_0.length c0_0, .slice A0_1 l0_1.length c0_1, .bool a0_2, .slice A0_3 l0_3.length c0_3]] w fun e w' => e = .returned (.bool r) ∧ Below w.heap.size w w' := by
  unfold impl_DiskOK.f at h
  obtain rfl := Option.some.inj h
  exact diskOK_core l0_0.length l0_1.length l0_3.length A0_0 c0_0 l0_0 A0_1 c0_1 l0_1 a0_2 A0_3 c0_3 w rfl rfl hr0_0.2.1 hr0_1.2.1 hr0_3.2.1 hr0_0 hr0_1
end Go.Proofs.Ytddommgeaoknbaa.X
namespace Go.Proofs.Ytddommgeaoknbaa.X
open Go.RowKit Go.Proofs.YtddommgeaoknbaaW.PrintWords Go.Proofs.YtddommgeaoknbaaW.PrintLast Go.Proofs.YtddommgeaoknbaaW.PrintMore
attribute [local go_sem] xbin_geq xbin_leq xbin_gtr max2_int min2_int max_two min_two max_three min_three max_four min_four
set_option linter.unusedVariables false
set_option linter.unusedSimpArgs false
open Go.Shelf
attribute [local go_sem] Oper.semAt_some
def backAt (zs : List S54) (j : Nat) : Nat × S54 := (zs.length - 1 - j, rd_T54 zs ((zs.length - 1 - j : Nat) : Int))
def backTo (zs : List S54) (k : Nat) : List (Nat × S54) := (List.range k).map (backAt zs)
theorem backTo_succ (zs : List S54) (k : Nat) : backTo zs (k + 1) = backTo zs k ++ [backAt zs k] := by simp [backTo, List.range_succ]
theorem backTo_length (zs : List S54) (k : Nat) : (backTo zs k).length = k := by simp [backTo]
theorem backTo_next (zs : List S54) (m : Nat) (h : m + 1 ≤ zs.length) : backTo zs (zs.length - (m + 1)) ++ [(m, rd_T54 zs (m : Int))] = backTo zs (zs.length - m) := by
  rw [show zs.length - m = (zs.length - (m + 1)) + 1 by omega, backTo_succ]
  unfold backAt
  rw [show zs.length - 1 - (zs.length - (m + 1)) = m by omega]
abbrev encP (x : Nat × S54) : Array Value := #[.int .i64 (x.1 : Int), .agg #[.int .i64 x.2.f0, .string x.2.f1]]
set_option maxRecDepth 100000 in
set_option maxHeartbeats 4000000 in
theorem back1_in (F : Fence) (n : Nat) (h8 : F.fn 46) (hro : F.round = none) (hn : 1 ≤ n) (l Bs : Nat) (w0 : World) (A : Option Addr) (cap : Nat) (zs : List S54) (hl : zs.length ≤ 1000000) (hBs : Bs < w0.heap.size) (hc : w0.cell? ⟨Bs, 0, none⟩ = some (.slice A zs.length cap)) (hC : Kd.C k54 w0 A zs.length zs) (J Jx : List (Nat × S54) → World → Prop)
    (hY : ∀ pre x W, J pre W → pre.length < zs.length → YieldAt F (n - 1) Try.prog l (encP x) W fun e W' =>
      (e = .returned (.bool true) ∧ J (pre ++ [x]) W' ∧ Below w0.heap.size W W') ∨ (e = .returned (.bool false) ∧ Jx (pre ++ [x]) W'))
    (W : World) (hW : Below w0.heap.size w0 W) (h0 : J [] W) :
    CallsIn F n Try.prog 46 #[.func (.yield l) #[] #[], .pointer (some ⟨Bs, 0, none⟩)] W fun e W' => (∃ v, e = .returned v) ∧
      ((∃ ys, ys = backTo zs zs.length ∧ J ys W') ∨ (∃ pre, (∃ k, k ≤ zs.length ∧ pre = backTo zs k) ∧ Jx pre W')) := by
  have hu := Try.underlying54
  have hcW := (hW.cell (p := ⟨Bs, 0, none⟩) hBs).trans hc
  have HC := Aside0.mk hC
  have HW := Aside0.mk hW
  have HCC := Aside0.mk hc
  have HY := Aside0.mk hY
  clear hC hW hc hY
  refine callsIn_of_wp Try.func46 rfl h8 ?_ hro
  simp only [Try.ntmps46, List.size_toArray, List.length_cons, List.length_nil, Nat.reduceAdd, Nat.reduceSub, Array.replicate_succ, Array.replicate_zero, List.push_toArray, List.append_toArray, List.nil_append, List.cons_append]
  have wi0 : IntKind.i64.wrap ((zs.length : Int) - 1) = (zs.length : Int) - 1 := by rw [IntKind.wrap_i64]; omega
  gi_wp2
  gi_loopw [3] (fun i wr => ∃ j : Nat, j ≤ zs.length ∧ i = .int .i64 ((j : Int) - 1) ∧ J (backTo zs (zs.length - j)) wr ∧ Aside0 (Below w0.heap.size w0 wr)) (fun i _ => (intOf i + 1).toNat)
  case atStart => exact ⟨zs.length, Nat.le_refl _, rfl, by rw [Nat.sub_self]; exact h0, HW⟩
  case round =>
    obtain ⟨j, hj, rfl, hJs, HN⟩ := hrel
    cases j with
    | zero =>
      have c1 : decide (((0 : Nat) : Int) - 1 ≥ 0) = false := rfl
      gi_wp2
      go_end0
      exact ⟨⟨_, rfl⟩, .inl ⟨_, rfl, hJs⟩⟩
    | succ m =>
      have em : ((m + 1 : Nat) : Int) - 1 = (m : Int) := by omega
      rw [em]
      obtain ⟨ad, e, hx0, hx1⟩ := at_T54 HC.out (m : Int) (by omega) (by omega)
      cases e
      rw [Int.toNat_natCast] at hx0 hx1
      replace hx0 := (HN.out.cell (World.block_lt_of_cell? w0 _ hx0)).trans hx0
      replace hx1 := (HN.out.cell (World.block_lt_of_cell? w0 _ hx1)).trans hx1
      have hcx := (HN.out.cell (p := ⟨Bs, 0, none⟩) hBs).trans HCC.out
      have hnext := backTo_next zs m hj
      generalize rd_T54 zs (m : Int) = d at hx0 hx1 hnext
      obtain ⟨fn, tmps, assign, body, hy, hR⟩ := HY.out _ (m, d) wr hJs (by rw [backTo_length]; omega)
      have HX := Aside0.mk hnext
      clear hnext
      dsimp only [encP] at hy
      have p1 : (0 ≤ (m : Int)) = True := eq_true (by omega)
      have q1 : ((m : Int) < (zs.length : Int)) = True := eq_true (by omega)
      have wi : IntKind.i64.wrap ((m : Int) - 1) = (m : Int) - 1 := by rw [IntKind.wrap_i64]; omega
      gi_wp2
      refine hR.mono ?_
      rintro e W3 (⟨rfl, hJ3, hk3⟩ | ⟨rfl, hJx3⟩)
      · gi_wp2
        go_roundw
        case rel => exact ⟨m, by omega, by first | rfl | simp, by rw [← HX.out]; exact hJ3, ⟨HN.out.trans hk3⟩⟩
        case measure => first | (simp [intOf]; done) | (simp [intOf]; omega)
      · gi_wp2
        refine bodyPost_ret (results_none rfl _ _ _) rfl ?_
        exact ⟨⟨_, rfl⟩, .inr ⟨_, ⟨zs.length - m, by omega, HX.out⟩, hJx3⟩⟩
set_option maxHeartbeats 1000000 in
theorem backward_in (F : Fence) (n : Nat) (h6 : F.fn 26) (hro : F.round = none) (a : Option Addr) (len cap : Nat) (w : World) :
    CallsIn F n Try.prog 26 #[.slice a len cap] w fun e w' => e = .returned (.func (.func 46) #[] #[.pointer (some ⟨w.heap.size, 0, none⟩)]) ∧ w' = w.alloc (.cells #[.slice a len cap] 24) := by
  refine callsIn_of_wp Try.func26 rfl h6 ?_ hro
  simp only [Try.ntmps26, List.size_toArray, List.length_cons, List.length_nil, Nat.reduceAdd, Nat.reduceSub, Array.replicate_succ, Array.replicate_zero, List.push_toArray, List.append_toArray, List.nil_append, List.cons_append]
  gi_wp2
  go_ret
  exact ⟨rfl, rfl⟩
theorem back_stops (F : Fence) (n : Nat) (h8 : F.fn 46) (hro : F.round = none) (hn : 1 ≤ n) (Bs : Nat) (w0 : World) (A : Option Addr) (cap : Nat) (zs : List S54) (hl : zs.length ≤ 1000000) (hBs : Bs < w0.heap.size) (hc : w0.cell? ⟨Bs, 0, none⟩ = some (.slice A zs.length cap)) (hC : Kd.C k54 w0 A zs.length zs) :
    SeqStopsK F n Try.prog 46 #[.pointer (some ⟨Bs, 0, none⟩)] encP (Below w0.heap.size) (fun ys => ys = backTo zs zs.length) (fun pre => ∃ k, k ≤ zs.length ∧ pre = backTo zs k) zs.length w0 := fun l J Jx W hW _ _ hY h0 =>
  back1_in F n h8 hro hn l Bs w0 A cap zs hl hBs hc hC J Jx hY W hW h0
end Go.Proofs.Ytddommgeaoknbaa.X
namespace Go.Proofs.Ytddommgeaoknbaa.X
open Go.RowKit Go.Proofs.YtddommgeaoknbaaW.PrintWords Go.Proofs.YtddommgeaoknbaaW.PrintLast Go.Proofs.YtddommgeaoknbaaW.PrintMore
attribute [local go_sem] xbin_geq xbin_leq xbin_gtr max2_int min2_int max_two min_two max_three min_three max_four min_four
set_option linter.unusedVariables false
set_option linter.unusedSimpArgs false
def slices_Clone_int_int.f (l0 : List Int) : Option (List Int) := if l0.length * 8 ≤ 140737488355328 then some l0 else none
set_option maxHeartbeats 1000000 in
set_option maxRecDepth 100000 in
theorem slices_Clone_int_int.calls (A0 : Option Addr) (c0 : Nat) (l0 : List Int) (r : List Int) (w : World) (hr0 : Kd.C (Kd.int .i64) w A0 l0.length l0) (hc0 : l0.length ≤ c0) (h : slices_Clone_int_int.f l0 = some r) :
    Calls Try.prog 31 #[.slice A0 l0.length c0] w fun e w' => ∃ v0_ : Value, e = .returned (v0_) ∧ Kd.R (Kd.int .i64) 3 w' w.heap.size (fun _ => True) v0_ r ∧ Below w.heap.size w w' := by
  unfold slices_Clone_int_int.f at h
  by_cases hl : l0.length * 8 ≤ 140737488355328
  · rw [if_pos hl] at h
    obtain rfl := Option.some.inj h
    clear h
    have HL := Aside0.mk hl
    clear hl
    cases A0 with
    | none =>
      have h0 : l0.length = 0 := by
        rcases Nat.eq_zero_or_pos l0.length with h | h
        · exact h
        · obtain ⟨ad, he, _⟩ := hr0.2.2 h
          cases he
      obtain rfl := List.eq_nil_of_length_eq_zero h0
      clear h0 hr0
      have hq : ∀ w_, (binOp .eql 25 (.slice none 0 c0) (.slice none 0 0)).run Try.prog w_ = .ok (.bool true) w_ := fun w_ => by
        have := Lib.run_eql_slice_nil (P := Try.prog) w_ 25 3 none 0 c0 0 0 Try.underlying25
        simpa using this
      go_enter Try.func31, Try.ntmps31
      go_wp2_with fail
      go_ret
      exact ⟨_, rfl, Kd.R_nil _ _ _ _ _, Below.refl _ _⟩
    | some ad0 =>
      have HR0 := Aside0.mk hr0
      clear hr0
      have hq : ∀ w_, (binOp .eql 25 (.slice (some ad0) l0.length c0) (.slice none 0 0)).run Try.prog w_ = .ok (.bool false) w_ := fun w_ => by
        have := Lib.run_eql_slice_nil (P := Try.prog) w_ 25 3 (some ad0) l0.length c0 0 0 Try.underlying25
        simpa using this
      have HB := Aside0.mk (Below.refl w.heap.size w)
      go_enter Try.func31, Try.ntmps31
      go_wp2_with (first | ((with_reducible refine gate_dst (N := 5) rfl ?_); refine Kd.R_lit (Kd.int .i64) _ 3 ?hg (N := 5) ?hd (xs := ([] : List Int)) (inner := []) (ok := fun _ => True) (okp := fun _ => True) ?hr ?hp (fun _ hk => hk) trivial (Below.refl _ _) (Nat.le_refl _) (by simp) ?_; (case hd => rfl); (case hg => rfl); (case hr => first | (go_simp; done) | (go_simp; rfl)); (case hp => exact (Reps.none _ _)); intro v1 w1 ho1 hb hg_ hnew_; clear hg_ hnew_; have n0_ := Aside0.mk (Kd.R_lower ho1 (below_size HB.out)); have n1_ := Aside0.mk (below_step HB.out hb); clear HB; have HO1 := n0_; have HB := n1_; clear n0_ n1_; clear hb ho1) | ((with_reducible refine gate_builtin (b := .append) (xs := #[.tmp 5, .tmp 6]) rfl ?_); at_builtin; refine Kd.R_append_rows (Kd.int .i64) (w0 := w) w.heap.size rfl (.tmp 5) (.tmp 6) 25 3 (.int .i64 0) 8 rfl Try.underlying25 info3 rfl (by decide) (by omega) v1 [] l0 _ _ _ (fun _ => True) (fun _ => False) rfl rfl ?aO ?aR (fun _ _ h => h) (fun _ h => h.elim) ?aF ?aB ?aS ?aL ?_; (case aR => exact (Kd.C_below HR0.out HB.out)); (case aB => exact HB.out); (case aF => exact (fun _ _ => trivial)); (case aO => exact HO1.out); (case aS => exact (below_size HB.out)); (case aL => have := HL.out; simpa using this); intro v2 w2 ho hb hg hat; have n0_ := Aside0.mk hb; have n1_ := Aside0.mk ho; clear HB HO1; have HB := n0_; have HO2 := n1_; clear n0_ n1_; clear ho hb hg hat))
      go_ret
      exact ⟨_, rfl, by simpa using HO2.out, HB.out⟩
  · rw [if_neg hl] at h
    cases h
def impl_Pending_45.f (l0 : List S54) : Option (List S54) := if l0.length * 24 ≤ 140737488355328 then some l0 else none
set_option maxHeartbeats 1000000 in
set_option maxRecDepth 100000 in
theorem impl_Pending_45.calls (A0 : Option Addr) (c0 : Nat) (l0 : List S54) (r : List S54) (w : World) (hr0 : Kd.C k54 w A0 l0.length l0) (hc0 : l0.length ≤ c0) (h : impl_Pending_45.f l0 = some r) :
    Calls Try.prog 45 #[.slice A0 l0.length c0] w fun e w' => ∃ v0_ : Value, e = .returned (v0_) ∧ Kd.R k54 54 w' w.heap.size (fun _ => True) v0_ r ∧ Below w.heap.size w w' := by
  unfold impl_Pending_45.f at h
  by_cases hl : l0.length * 24 ≤ 140737488355328
  · rw [if_pos hl] at h
    obtain rfl := Option.some.inj h
    clear h
    have HL := Aside0.mk hl
    clear hl
    cases A0 with
    | none =>
      have h0 : l0.length = 0 := by
        rcases Nat.eq_zero_or_pos l0.length with h | h
        · exact h
        · obtain ⟨ad, he, _⟩ := hr0.2.2 h
          cases he
      obtain rfl := List.eq_nil_of_length_eq_zero h0
      clear h0 hr0
      have hq : ∀ w_, (binOp .eql 24 (.slice none 0 c0) (.slice none 0 0)).run Try.prog w_ = .ok (.bool true) w_ := fun w_ => by
        have := Lib.run_eql_slice_nil (P := Try.prog) w_ 24 54 none 0 c0 0 0 Try.underlying24
        simpa using this
      go_enter Try.func45, Try.ntmps45
      go_wp2_with fail
      go_ret
      exact ⟨_, rfl, Kd.R_nil _ _ _ _ _, Below.refl _ _⟩
    | some ad0 =>
      have HR0 := Aside0.mk hr0
      clear hr0
      have hq : ∀ w_, (binOp .eql 24 (.slice (some ad0) l0.length c0) (.slice none 0 0)).run Try.prog w_ = .ok (.bool false) w_ := fun w_ => by
        have := Lib.run_eql_slice_nil (P := Try.prog) w_ 24 54 (some ad0) l0.length c0 0 0 Try.underlying24
        simpa using this
      have HB := Aside0.mk (Below.refl w.heap.size w)
      go_enter Try.func45, Try.ntmps45
      go_wp2_with (first | ((with_reducible refine gate_dst (N := 5) rfl ?_); refine Kd.R_lit k54 _ 54 ?hg (N := 5) ?hd (xs := ([] : List S54)) (inner := []) (ok := fun _ => True) (okp := fun _ => True) ?hr ?hp (fun _ hk => hk) trivial (Below.refl _ _) (Nat.le_refl _) (by simp) ?_; (case hd => rfl); (case hg => rfl); (case hr => first | (go_simp; done) | (go_simp; rfl)); (case hp => exact (Reps.none _ _)); intro v1 w1 ho1 hb hg_ hnew_; clear hg_ hnew_; have n0_ := Aside0.mk (Kd.R_lower ho1 (below_size HB.out)); have n1_ := Aside0.mk (below_step HB.out hb); clear HB; have HO1 := n0_; have HB := n1_; clear n0_ n1_; clear hb ho1) | ((with_reducible refine gate_builtin (b := .append) (xs := #[.tmp 5, .tmp 6]) rfl ?_); at_builtin; refine Kd.R_append_rows k54 (w0 := w) w.heap.size rfl (.tmp 5) (.tmp 6) 24 54 (.agg #[(.int .i64 0), (.string ⟨#[]⟩)]) 24 rfl Try.underlying24 info54 rfl (by decide) (by omega) v1 [] l0 _ _ _ (fun _ => True) (fun _ => False) rfl rfl ?aO ?aR (fun _ _ h => h) (fun _ h => h.elim) ?aF ?aB ?aS ?aL ?_; (case aR => exact (Kd.C_below HR0.out HB.out)); (case aB => exact HB.out); (case aF => exact (fun _ _ => trivial)); (case aO => exact HO1.out); (case aS => exact (below_size HB.out)); (case aL => have := HL.out; simpa using this); intro v2 w2 ho hb hg hat; have n0_ := Aside0.mk hb; have n1_ := Aside0.mk ho; clear HB HO1; have HB := n0_; have HO2 := n1_; clear n0_ n1_; clear ho hb hg hat))
      go_ret
      exact ⟨_, rfl, by simpa using HO2.out, HB.out⟩
  · rw [if_neg hl] at h
    cases h
def slices_Clone_string_string.f (l0 : List ByteArray) : Option (List ByteArray) := if l0.length * 16 ≤ 140737488355328 then some l0 else none
set_option maxHeartbeats 1000000 in
set_option maxRecDepth 100000 in
theorem slices_Clone_string_string.calls (A0 : Option Addr) (c0 : Nat) (l0 : List ByteArray) (r : List ByteArray) (w : World) (hr0 : Kd.C Kd.string w A0 l0.length l0) (hc0 : l0.length ≤ c0) (h : slices_Clone_string_string.f l0 = some r) :
    Calls Try.prog 44 #[.slice A0 l0.length c0] w fun e w' => ∃ v0_ : Value, e = .returned (v0_) ∧ Kd.R Kd.string 9 w' w.heap.size (fun _ => True) v0_ r ∧ Below w.heap.size w w' := by
  unfold slices_Clone_string_string.f at h
  by_cases hl : l0.length * 16 ≤ 140737488355328
  · rw [if_pos hl] at h
    obtain rfl := Option.some.inj h
    clear h
    have HL := Aside0.mk hl
    clear hl
    cases A0 with
    | none =>
      have h0 : l0.length = 0 := by
        rcases Nat.eq_zero_or_pos l0.length with h | h
        · exact h
        · obtain ⟨ad, he, _⟩ := hr0.2.2 h
          cases he
      obtain rfl := List.eq_nil_of_length_eq_zero h0
      clear h0 hr0
      have hq : ∀ w_, (binOp .eql 23 (.slice none 0 c0) (.slice none 0 0)).run Try.prog w_ = .ok (.bool true) w_ := fun w_ => by
        have := Lib.run_eql_slice_nil (P := Try.prog) w_ 23 9 none 0 c0 0 0 Try.underlying23
        simpa using this
      go_enter Try.func44, Try.ntmps44
      go_wp2_with fail
      go_ret
      exact ⟨_, rfl, Kd.R_nil _ _ _ _ _, Below.refl _ _⟩
    | some ad0 =>
      have HR0 := Aside0.mk hr0
      clear hr0
      have hq : ∀ w_, (binOp .eql 23 (.slice (some ad0) l0.length c0) (.slice none 0 0)).run Try.prog w_ = .ok (.bool false) w_ := fun w_ => by
        have := Lib.run_eql_slice_nil (P := Try.prog) w_ 23 9 (some ad0) l0.length c0 0 0 Try.underlying23
        simpa using this
      have HB := Aside0.mk (Below.refl w.heap.size w)
      go_enter Try.func44, Try.ntmps44
      go_wp2_with (first | ((with_reducible refine gate_dst (N := 5) rfl ?_); refine Kd.R_lit Kd.string _ 9 ?hg (N := 5) ?hd (xs := ([] : List ByteArray)) (inner := []) (ok := fun _ => True) (okp := fun _ => True) ?hr ?hp (fun _ hk => hk) trivial (Below.refl _ _) (Nat.le_refl _) (by simp) ?_; (case hd => rfl); (case hg => rfl); (case hr => first | (go_simp; done) | (go_simp; rfl)); (case hp => exact (Reps.none _ _)); intro v1 w1 ho1 hb hg_ hnew_; clear hg_ hnew_; have n0_ := Aside0.mk (Kd.R_lower ho1 (below_size HB.out)); have n1_ := Aside0.mk (below_step HB.out hb); clear HB; have HO1 := n0_; have HB := n1_; clear n0_ n1_; clear hb ho1) | ((with_reducible refine gate_builtin (b := .append) (xs := #[.tmp 5, .tmp 6]) rfl ?_); at_builtin; refine Kd.R_append_rows Kd.string (w0 := w) w.heap.size rfl (.tmp 5) (.tmp 6) 23 9 (.string ⟨#[]⟩) 16 rfl Try.underlying23 info9 rfl (by decide) (by omega) v1 [] l0 _ _ _ (fun _ => True) (fun _ => False) rfl rfl ?aO ?aR (fun _ _ h => h) (fun _ h => h.elim) ?aF ?aB ?aS ?aL ?_; (case aR => exact (Kd.C_below HR0.out HB.out)); (case aB => exact HB.out); (case aF => exact (fun _ _ => trivial)); (case aO => exact HO1.out); (case aS => exact (below_size HB.out)); (case aL => have := HL.out; simpa using this); intro v2 w2 ho hb hg hat; have n0_ := Aside0.mk hb; have n1_ := Aside0.mk ho; clear HB HO1; have HB := n0_; have HO2 := n1_; clear n0_ n1_; clear ho hb hg hat))
      go_ret
      exact ⟨_, rfl, by simpa using HO2.out, HB.out⟩
  · rw [if_neg hl] at h
    cases h
theorem Ev.succ {α : Type} {g : Nat → Option α} {r : α} (h : Ev (fun k => g (k + 1)) r) : Ev g r := Ev.step (fun _ => rfl) h
theorem Ev.pos {α : Type} {c : Prop} [Decidable c] {g f : Nat → Option α} {r : α} (hc : c) (h : Ev g r) : Ev (fun k => if c then g k else f k) r := Ev.congr (fun _ => if_pos hc) h
theorem Ev.neg {α : Type} {c : Prop} [Decidable c] {g f : Nat → Option α} {r : α} (hc : ¬ c) (h : Ev f r) : Ev (fun k => if c then g k else f k) r := Ev.congr (fun _ => if_neg hc) h
theorem Ev.is {α : Type} {o : Option α} {r : α} (h : o = some r) : Ev (fun _ => o) r := ⟨0, fun _ _ => h⟩
theorem Ev.bindk {α β : Type} {o : Option α} {f : Nat → α → Option β} {a : α} {r : β} (h : o = some a) (k : Ev (fun n => f n a) r) : Ev (fun n => o.bind (f n)) r := Ev.bind (g := fun _ => o) (Ev.is h) k
theorem Ev.same {α : Type} {g : Nat → Option α} {r r' : α} (h : Ev g r) (e : r = r') : Ev g r' := e ▸ h
theorem wrap_at {n : Nat} (h : n < 9223372036854775807) : wrap64 ((n : Int) + 1) = ((n + 1 : Nat) : Int) := by unfold wrap64; omega
theorem wrap_id {x : Int} (h0 : -9223372036854775808 ≤ x) (h1 : x ≤ 9223372036854775807) : wrap64 x = x := by unfold wrap64; omega
theorem getD_mid {α : Type} (pre : List α) (x : α) (rest : List α) (d : α) : (pre ++ x :: rest).getD pre.length d = x := by simp [List.getD_eq_getElem?_getD]
theorem len_snoc {α : Type} (pre : List α) (x : α) : pre.length + 1 = (pre ++ [x]).length := by simp
end Go.Proofs.Ytddommgeaoknbaa.X
