import Derived.Test.YtgcncphdjabjjaaKFnExactBackupBytes4
import Derived.Shelf.Strings.Builder1
import Derived.LoopTactic
import Derived.BigQuiet
import Derived.Lib.UnsafeStr
import Derived.Lib.ConvBytes
namespace Go.Proofs.Ytgcncphdjabjjaa.X
open Go.RowKit Go.Proofs.YtgcncphdjabjjaaW.PrintWords Go.Proofs.YtgcncphdjabjjaaW.PrintLast Go.Proofs.YtgcncphdjabjjaaW.PrintMore
attribute [local go_sem] xbin_geq xbin_leq xbin_gtr max2_int min2_int max_two min_two max_three min_three max_four min_four
set_option linter.unusedVariables false
set_option linter.unusedSimpArgs false
def impl_inBytes.l0 : Nat → Int → List Int → Int → Option (ByteArray)
 | 0, _, _, _ => none
 | k + 1, x0, x5, x6 => if x6 ≥ 0 then (if 0 ≤ x6 then (if x6 < (x5.length : Int) then (impl_inBytes.l0 k (x0 / 256) (x5.set (x6 : Int).toNat ((x0) % 256)) (wrap64 (x6 - 1))) else (none)) else (none)) else (some (strOfNums x5))
def impl_inBytes.f (k : Nat) (a0 : Int) (a1 : Int) : Option (ByteArray) := if 0 ≤ a1 then (if (a1 : Int).toNat ≤ 281474976710656 then (impl_inBytes.l0 k a0 (List.replicate (a1 : Int).toNat 0) (wrap64 (a1 - 1))) else (none)) else (none)
theorem impl_inBytes.mono_l : ∀ k, (∀ y0 y1 y2, LeO (impl_inBytes.l0 k y0 y1 y2) (impl_inBytes.l0 (k + 1) y0 y1 y2))
 | 0 => fun _ _ _ r h => by simp [impl_inBytes.l0] at h
 | k + 1 => by
  have ih0 := impl_inBytes.mono_l k
  ·intro y0 y1 y2
   unfold impl_inBytes.l0
   repeat' first
   | (with_reducible exact ih0 _ _ _)
   | (with_reducible exact LeO.refl _)
   | (with_reducible exact LeO.none _)
   | (with_reducible refine LeO.ite ?_ ?_)
   | (with_reducible refine LeO.bind ?_ (fun _ => ?_))
   | exact ih0 _ _ _
   | exact LeO.none _
   | refine LeO.ite ?_ ?_
   | refine LeO.bind ?_ (fun _ => ?_)
theorem impl_inBytes.mono : ∀ a0 a1 k, LeO (impl_inBytes.f k a0 a1) (impl_inBytes.f (k + 1) a0 a1) := by
 intro a0 a1 k
 have ih0 := impl_inBytes.mono_l k
 unfold impl_inBytes.f
 repeat' first
   | (with_reducible exact ih0 _ _ _)
   | (with_reducible exact LeO.refl _)
   | (with_reducible exact LeO.none _)
   | (with_reducible refine LeO.ite ?_ ?_)
   | (with_reducible refine LeO.bind ?_ (fun _ => ?_))
   | exact ih0 _ _ _
   | exact LeO.none _
   | refine LeO.ite ?_ ?_
   | refine LeO.bind ?_ (fun _ => ?_)
set_option maxHeartbeats 8000000 in
set_option maxRecDepth 100000 in
theorem impl_inBytes.calls (k : Nat) (a0 : Int) (a1 : Int) (r : ByteArray) (w : World) (h : impl_inBytes.f k a0 a1 = some r) :
  Calls Try.prog 99 #[.int .i64 a0, .int .i64 a1] w fun e w' => e = .returned (.string r) ∧ Below w.heap.size w w' := by
 have HB := Aside0.mk (Below.refl w.heap.size w)
 have H : (if 0 ≤ a1 then (if (a1 : Int).toNat ≤ 281474976710656 then (impl_inBytes.l0 k a0 (List.replicate (a1 : Int).toNat 0) (wrap64 (a1 - 1))) else (none)) else (none)) = some r := h
 clear h
 by_cases c3 : 0 ≤ a1
 ·rw [if_pos c3] at H
  have c3b0 := eq_true c3
  have c3b1 : decide (0 ≤ a1) = true := decide_eq_true c3
  clear c3
  by_cases c4 : (a1 : Int).toNat ≤ 281474976710656
  ·rw [if_pos c4] at H
   have c4b0 := eq_true c4
   have c4b1 : decide ((a1 : Int).toNat ≤ 281474976710656) = true := decide_eq_true c4
   clear c4
   obtain ⟨y151, hy151⟩ : ∃ y_ : List Int, y_ = (List.replicate (a1 : Int).toNat 0) := ⟨_, rfl⟩
   replace H : (impl_inBytes.l0 k a0 y151 (wrap64 (a1 - 1))) = some r := by first | (rw [hy151]; with_reducible exact H) | (have H2_ := (Option.bind_some _ _).symm.trans H; rw [hy151]; with_reducible exact H2_) | (have H2_ := (Option.bind_some _ _).symm.trans H; with_reducible exact H2_) | with_reducible exact H | (rw [hy151]; exact H) | exact H
   have Ny151 := Aside0.mk hy151
   clear hy151
   have H' := Aside0.mk H
   clear H
   go_enter Try.func99, Try.ntmps99
   go_wp2_with (first | ((with_reducible refine gate_dst (N := 8) rfl ?_); refine Kd.R_make (Kd.int .u8) _ 5 rfl (N := 8) rfl 52 _ _ rfl a1 rfl rfl Try.underlying52 (.int .u8 0) 1 info5 rfl (by decide) (by omega) 0 (ok := fun _ => True) (okp := fun _ => True) rfl (fun _ hk => hk) trivial (of_decide_eq_true (by first | (with_reducible assumption) | assumption)) (Nat.le_trans (Nat.mul_le_mul_right _ (of_decide_eq_true (by first | (with_reducible assumption) | assumption) : a1.toNat ≤ 281474976710656)) (by omega)) (Below.refl _ _) (Nat.le_refl _) ?_; intro v152 w5 ho6 hb hg_ hnew_; clear hg_ hnew_; (first | rw [← Ny151.out] at ho6 | (simp only [Int.reduceToNat] at ho6; rw [← Ny151.out] at ho6)); have n0_ := Aside0.mk (Kd.R_lower ho6 (below_size (by repeat (first | (with_reducible first | exact HB.out | apply below_alloc | apply pw_below_drewN | apply below_drew1) | exact HB.out)))); have n1_ := Aside0.mk (below_step (by repeat (first | (with_reducible first | exact HB.out | apply below_alloc | apply pw_below_drewN | apply below_drew1) | exact HB.out)) hb); clear HB; have HO153 := n0_; have HB := n1_; clear n0_ n1_; clear hb ho6))
   go_loopg [0, 6] k (fun kq v0 v6 w' => ∃ (x0_1 : Int) (x5_1 : List Int) (x6_1 : Int), v0 = .int .i64 x0_1 ∧ v6 = .int .i64 x6_1 ∧ Aside0 (impl_inBytes.l0 kq x0_1 x5_1 x6_1 = some r) ∧ Aside0 (kq ≤ k) ∧ Aside0 (Kd.R (Kd.int .u8) 5 w' w.heap.size (fun _ => True) v152 x5_1) ∧ Aside0 (Below w.heap.size w w'))
   case atStart => exact ⟨(a0), (y151), (wrap64 (a1 - 1)), (by first | rfl | (simp; done) | (simp [*]; done)), (by first | rfl | (simp; done) | (simp [*]; done)), H', ⟨Nat.le_refl _⟩, ⟨by (with_reducible repeat (first | apply Kd.R_alloc | apply Kd.R_drewN | apply Kd.R_drew)); exact HO153.out⟩, ⟨by repeat (first | (with_reducible first | exact HB.out | apply below_alloc | apply pw_below_drewN | apply below_drew1) | exact HB.out)⟩⟩
   case round =>
    clear H'
    try clear p2
    try clear c3
    try clear c3b0
    try clear c3b1
    try clear c4
    try clear c4b0
    try clear c4b1
    try clear p6
    obtain ⟨x0_1, x5_1, x6_1, rfl, rfl, HA, HK1, HO_5, HB⟩ := hrel
    cases gk with
    | zero => exact absurd HA.out (by simp [impl_inBytes.l0])
    | succ k1 =>
     have H := HA.out
     clear HA
     simp only [impl_inBytes.l0] at H
     by_cases c7 : x6_1 ≥ 0
     ·rw [if_pos c7] at H
      have c7b0 : decide (0 ≤ x6_1) = true := decide_eq_true c7
      clear c7
      by_cases c8 : 0 ≤ x6_1
      ·rw [if_pos c8] at H
       have c8b0 : decide (0 ≤ x6_1) = true := decide_eq_true c8
       clear c8
       by_cases c9 : x6_1 < (x5_1.length : Int)
       ·rw [if_pos c9] at H
        have c9b0 : decide (x6_1 < (x5_1.length : Int)) = true := decide_eq_true c9
        clear c9
        obtain ⟨y154, hy154⟩ : ∃ y_ : List Int, y_ = (x5_1.set (x6_1 : Int).toNat ((x0_1) % 256)) := ⟨_, rfl⟩
        replace H : (impl_inBytes.l0 k1 (x0_1 / 256) y154 (wrap64 (x6_1 - 1))) = some r := by first | (rw [hy154]; with_reducible exact H) | (have H2_ := (Option.bind_some _ _).symm.trans H; rw [hy154]; with_reducible exact H2_) | (have H2_ := (Option.bind_some _ _).symm.trans H; with_reducible exact H2_) | with_reducible exact H | (rw [hy154]; exact H) | exact H
        have Ny154 := Aside0.mk hy154
        clear hy154
        have H' := Aside0.mk H
        clear H
        have p10 : 0 ≤ (x6_1 : Int) := of_decide_eq_true (by first | (with_reducible assumption) | assumption)
        have q10 : (x6_1 : Int) < ((x5_1.length : Int) : Int) := of_decide_eq_true (by first | (with_reducible assumption) | assumption)
        obtain ⟨go10, co10, eo10, gb10, gl10, cl10, HG10⟩ := Kd.R_form HO_5.out (by omega)
        (first | cases eo10 | (injection eo10 with ea_ en_ ec_; (first | subst ea_ | (injection ea_ with ea_; subst ea_)); subst ec_; clear en_))
        have GB10 := Aside0.mk gb10
        have GG10 := Aside0.mk HG10
        clear gb10 gl10 HG10
        obtain ⟨hx10_0, hf10_0⟩ := Kd.R_celln 0 HO_5.out (x6_1 : Int) p10 q10
        replace p10 := eq_true p10
        replace q10 := eq_true q10
        have HP11 := Kd.R_putg HO_5.out (x6_1 : Int) ((x0_1) % 256)
        go_wp2_with (first | ((with_reducible refine gate_store (t := 5) (p := 19) rfl ?_); refine store_event (t := 5) (p := 19) (v := ?vo_w12) (w1 := (wr.setCell ⟨go10, (x6_1 : Int).toNat, none⟩ (.int .u8 ((x0_1) % 256)))) ?hg ?ho ?hn ?hr ?_; (case ho => rfl); (case hg => rfl); (case hn => rfl); (case hr => first | (go_simp; done) | (go_simp; rfl)); intro w12 hw; have hg : wr.grownBy w12 (some go10) := (by rw [hw]; exact HP11.2); have hp_ : Kd.R (Kd.int .u8) 5 w12 w.heap.size (fun _ => True) (.slice (some ⟨go10, 0, none⟩) x5_1.length co10) y154 := (by rw [hw, Ny154.out]; exact HP11.1); clear HP11; have n0_ := Aside0.mk (hp_); have n1_ := Aside0.mk ((by rw [hw]; exact below_set (HB.out) GB10.out : Below w.heap.size w w12)); clear HO_5; clear HB; have HO_5 := n0_; have HB := n1_; clear n0_ n1_; clear hg hw hp_))
        go_roundg k1
        case measure => have := HK1.out; omega
        case rel => exact ⟨(x0_1 / 256), (y154), (wrap64 (x6_1 - 1)), (by first | rfl | (simp; done) | (simp [*]; done)), (by first | rfl | (simp; done) | (simp [*]; done)), H', ⟨by have := HK1.out; omega⟩, ⟨by (with_reducible repeat (first | apply Kd.R_alloc | apply Kd.R_drewN | apply Kd.R_drew)); exact HO_5.out⟩, ⟨by repeat (first | (with_reducible first | exact HB.out | apply below_alloc | apply pw_below_drewN | apply below_drew1) | exact HB.out)⟩⟩
       ·rw [if_neg c9] at H
        exact absurd H (by simp)
      ·rw [if_neg c8] at H
       exact absurd H (by simp)
     ·rw [if_neg c7] at H
      have c7b0 : decide (0 ≤ x6_1) = false := decide_eq_false c7
      clear c7
      obtain rfl := Option.some.inj H
      have hcv13 := own_string (P := Try.prog) Try.underlying52 Try.underlying5 Try.underlying9 (Kd.own_of_R HO_5.out)
      go_wp2
      go_ret
      exact ⟨by first | rfl | (simp [errW_none, errW_some] <;> rfl) | (simp [*, errW_none, errW_some] <;> rfl), by repeat (first | (with_reducible first | exact HB.out | apply below_alloc | apply pw_below_drewN | apply below_drew1) | exact HB.out)⟩
  ·rw [if_neg c4] at H
   exact absurd H (by simp)
 ·rw [if_neg c3] at H
  exact absurd H (by simp)
end Go.Proofs.Ytgcncphdjabjjaa.X
namespace Go.Proofs.Ytgcncphdjabjjaa.X
open Go.RowKit Go.Proofs.YtgcncphdjabjjaaW.PrintWords Go.Proofs.YtgcncphdjabjjaaW.PrintLast Go.Proofs.YtgcncphdjabjjaaW.PrintMore
attribute [local go_sem] xbin_geq xbin_leq xbin_gtr max2_int min2_int max_two min_two max_three min_three max_four min_four
set_option linter.unusedVariables false
set_option linter.unusedSimpArgs false
set_option maxRecDepth 100000
def numT (n : Int) : ByteArray := strOfNums [n / 256 % 256, n % 256]
theorem numT_size (n : Int) : (numT n).size = 2 := rfl
theorem inBytes_is (n : Int) : Ev (fun k => impl_inBytes.f k n 2) (numT n) := by
  unfold impl_inBytes.f
  refine Ev.pos (by omega) (Ev.pos (by omega) ?_)
  rw [show (2 : Int).toNat = 2 from rfl, show List.replicate 2 (0 : Int) = [0, 0] from rfl, wrap_id (x := 2 - 1) (by omega) (by omega)]
  refine Ev.succ ?_
  simp only [impl_inBytes.l0]
  refine Ev.pos (by omega) (Ev.pos (by omega) (Ev.pos (by simp) ?_))
  rw [wrap_id (x := 2 - 1 - 1) (by omega) (by omega)]
  refine Ev.succ ?_
  simp only [impl_inBytes.l0]
  refine Ev.pos (by omega) (Ev.pos (by omega) (Ev.pos (by simp) ?_))
  rw [wrap_id (x := 2 - 1 - 1 - 1) (by omega) (by omega)]
  refine Ev.succ ?_
  simp only [impl_inBytes.l0]
  exact Ev.neg (by omega) (Ev.is rfl)
def fieldsFrom (a : ByteArray) (l : List ByteArray) : ByteArray := l.foldl (fun a t => a ++ (numT (t.size : Int) ++ t)) a
def fieldsT (l : List ByteArray) : ByteArray := fieldsFrom (strOfNums [(l.length : Int) % 256]) l
def impl_fields.f (l0 : List ByteArray) : Option ByteArray := if l0.length ≤ 1000000 ∧ (∀ t, t ∈ l0 → t.size ≤ 1000000) then some (fieldsT l0) else none
theorem bld_WriteByte (B b : Nat) (bs : List Value) (c : Int) (w : World) (h : Lib.IsBuilder 102 5 B b bs w) (hlen : bs.length + 1 ≤ 140737488355328) (hBw : B ≤ w.heap.size) :
    Calls Try.prog 106 #[.pointer (some ⟨b, 0, none⟩), .int .u8 c] w fun e w' => e = .returned .nilIface ∧ (Lib.BuilderAt 102 5 B b (.pointer (some ⟨b, 0, none⟩)) (bs ++ [.int .u8 c]) w' ∧ Below B w w') := Any.Builder_WriteByte Trybld167 TrybldX B b bs c w h hlen hBw
theorem bld_WriteString (B b : Nat) (bs : List Value) (s : ByteArray) (w : World) (h : Lib.IsBuilder 102 5 B b bs w) (hlen : bs.length + s.size ≤ 140737488355328) (hBw : B ≤ w.heap.size) :
    Calls Try.prog 83 #[.pointer (some ⟨b, 0, none⟩), .string s] w fun e w' => e = .returned (.tuple #[.int .i64 s.size, .nilIface]) ∧ (Lib.BuilderAt 102 5 B b (.pointer (some ⟨b, 0, none⟩)) (bs ++ Lib.strCells s) w' ∧ Below B w w') := Any.Builder_WriteString Trybld166 TrybldX B b bs s w h hlen hBw
theorem bld_String (B b : Nat) (l : List UInt8) (w : World) (h : Lib.IsBuilder 102 5 B b (Lib.byteCells l) w) (hBw : B ≤ w.heap.size) :
    Calls Try.prog 86 #[.pointer (some ⟨b, 0, none⟩)] w fun e w' => e = .returned (.string ⟨l.toArray⟩) ∧ Below B w w' := Any.Builder_String_any Trybld169 TrybldX B b l w h hBw
theorem isBuilder_below {T e : TypeId} {B b : Nat} {bs : List Value} {w w' : World} (h : Lib.IsBuilder T e B b bs w) (hb : Below w.heap.size w w') : Lib.IsBuilder T e B b bs w' := by
  have own : ∀ v, w.ownsRow B e 1 v bs.length bs → w'.ownsRow B e 1 v bs.length bs := by
    rintro v ⟨h1, h2⟩
    refine ⟨h1, ?_⟩
    rcases h2 with hn | ⟨g, cap, cur, rfl, hB, hg, rest⟩
    · exact .inl hn
    · exact .inr ⟨g, cap, cur, rfl, hB, blk_below hg hb, rest⟩
  rcases h with ⟨hB, v, hk, ho, hn⟩ | ⟨hB, v, hk, ho, hn⟩
  · exact .inl ⟨hB, v, blk_below hk hb, own v ho, hn⟩
  · exact .inr ⟨hB, v, blk_below hk hb, own v ho, hn⟩
theorem fieldsFrom_snoc (a : ByteArray) (l : List ByteArray) (t : ByteArray) : fieldsFrom a (l ++ [t]) = fieldsFrom a l ++ (numT (t.size : Int) ++ t) := by
  unfold fieldsFrom
  rw [List.foldl_append]
  rfl
theorem fieldsFrom_size (l : List ByteArray) : ∀ a : ByteArray, (∀ t, t ∈ l → t.size ≤ 1000000) → (fieldsFrom a l).size ≤ a.size + 1000002 * l.length := by
  induction l with
  | nil => intro a _; exact Nat.le_add_right _ _
  | cons t l ih =>
    intro a h
    have h1 := h t List.mem_cons_self
    have h2 := ih (a ++ (numT (t.size : Int) ++ t)) fun x hx => h x (List.mem_cons_of_mem _ hx)
    have h3 : (a ++ (numT (t.size : Int) ++ t)).size = a.size + (2 + t.size) := by rw [ByteArray.size_append, ByteArray.size_append, numT_size]
    rw [h3] at h2
    simp only [List.length_cons]
    show (fieldsFrom (a ++ (numT (t.size : Int) ++ t)) l).size ≤ _
    omega
set_option maxHeartbeats 2000000 in
theorem impl_fields.calls (A0 : Option Addr) (c0 : Nat) (l0 : List ByteArray) (r : ByteArray) (w : World) (hr0 : Kd.C Kd.string w A0 l0.length l0) (hc0 : l0.length ≤ c0) (h : impl_fields.f l0 = some r) :
    Calls Try.prog 84 #[.slice A0 l0.length c0] w fun e w' => e = .returned (.string r) ∧ Below w.heap.size w w' := by
  unfold impl_fields.f at h
  by_cases hs : l0.length ≤ 1000000 ∧ (∀ t, t ∈ l0 → t.size ≤ 1000000)
  · rw [if_pos hs] at h
    obtain rfl := Option.some.inj h
    obtain ⟨hs1, hs2⟩ := hs
    have HS := Aside0.mk hs2
    have HR := Aside0.mk hr0
    clear hr0 h hs2
    have ea : strOfNums [(l0.length : Int) % 256] = strOfNums [(l0.length : Int) % 256] := rfl
    go_enter Try.func84, Try.ntmps84
    go_wp2_with fail
    have hsz : (w.alloc (.cells #[.pointer none, .slice none 0 0] 102 (0, 0))).heap.size = w.heap.size + 1 := by
      show (w.heap.push _).size = _
      rw [Array.size_push]
    refine (bld_WriteByte w.heap.size w.heap.size [] ((l0.length : Int) % 256) _ (Lib.fresh_isBuilder 102 5 w) (by simp) (by omega)).mono ?_
    rintro e w1 ⟨rfl, hB1, hb1⟩
    have HB1 := Aside0.mk (show Lib.IsBuilder 102 5 w.heap.size w.heap.size (Lib.byteCells (strOfNums [(l0.length : Int) % 256]).data.toList) w1 from by
      have e : Lib.byteCells (strOfNums [(l0.length : Int) % 256]).data.toList = [] ++ [Value.int .u8 ((l0.length : Int) % 256)] := by
        simp [Lib.byteCells, strOfNums]
        omega
      rw [e]; exact .inr hB1)
    have HB := Aside0.mk (show Below w.heap.size w w1 from ((Below.refl _ w).alloc (Nat.le_refl _) _).trans hb1)
    clear hB1 hb1 hsz
    go_wp2_with fail
    go_loopw [13] (fun v13 wr => ∃ k : Nat, k ≤ l0.length ∧ v13 = .int .i64 k ∧ Aside0 (Lib.IsBuilder 102 5 w.heap.size w.heap.size (Lib.byteCells (fieldsFrom (strOfNums [(l0.length : Int) % 256]) (l0.take k)).data.toList) wr) ∧ Aside0 (Below w.heap.size w wr)) (fun v13 _ => l0.length - (intOf v13).toNat)
    case atStart => exact ⟨0, Nat.zero_le _, rfl, ⟨by rw [List.take_zero]; exact HB1.out⟩, HB⟩
    case round =>
      clear HB HB1
      obtain ⟨k, hk, rfl, HI, HB⟩ := hrel
      have hfs := fieldsFrom_size (l0.take k) (strOfNums [(l0.length : Int) % 256]) fun t ht => HS.out t (List.mem_of_mem_take ht)
      rw [List.length_take] at hfs
      have ha1 : (strOfNums [(l0.length : Int) % 256]).size = 1 := rfl
      rw [ha1] at hfs
      by_cases hlt : k < l0.length
      · have c1 : decide ((k : Int) < (l0.length : Int)) = true := decide_eq_true (by omega)
        have p1 : 0 ≤ (k : Int) := by omega
        have q1 : (k : Int) < (l0.length : Int) := by omega
        obtain ⟨ad, e, hx⟩ := Kd.at_string HR.out (k : Int) p1 q1
        cases e
        have et : rdOf ByteArray.empty l0 (k : Int) = l0[k] := by unfold rdOf; rw [Int.toNat_natCast]; simp [List.getD_eq_getElem?_getD, hlt]
        rw [et, Int.toNat_natCast] at hx
        have htk : l0.take (k + 1) = l0.take k ++ [l0[k]] := List.take_succ_eq_append_getElem hlt
        have hts := HS.out l0[k] (List.getElem_mem hlt)
        replace hx := (HB.out.cell (World.block_lt_of_cell? w _ hx)).trans hx
        clear et
        generalize l0[k] = t at hx htk hts
        obtain ⟨K, hK⟩ := inBytes_is (t.size : Int)
        have hK2 := Aside0.mk (hK K (Nat.le_refl _))
        clear hK
        replace p1 := eq_true p1
        replace q1 := eq_true q1
        go_wp2_with fail
        refine (impl_inBytes.calls K _ _ _ _ hK2.out).mono ?_
        rintro e w2 ⟨rfl, hb2⟩
        have hns := numT_size (t.size : Int)
        have hov : (9223372036854775807 < (numT (t.size : Int)).size + t.size) = False := eq_false (by omega)
        generalize hN : numT (t.size : Int) = nb at *
        go_wp2_with fail
        refine (bld_WriteString w.heap.size w.heap.size _ (nb ++ t) _ (isBuilder_below HI.out hb2) (by
          rw [Lib.byteCells_length, ByteArray.size_append, Array.length_toList]
          have : (fieldsFrom (strOfNums [(l0.length : Int) % 256]) (l0.take k)).data.size = (fieldsFrom (strOfNums [(l0.length : Int) % 256]) (l0.take k)).size := rfl
          omega) (by have := HB.out.size; have := hb2.size; omega)).mono ?_
        rintro e w3 ⟨rfl, hB3, hb3⟩
        have HB3 := Aside0.mk (below_step HB.out hb2)
        have HN := Aside0.mk hN
        have HTK := Aside0.mk htk
        clear hN htk hov hns hfs
        go_wp2_with fail
        refine ⟨⟨k + 1, by omega, rfl, ⟨?_⟩, ⟨HB3.out.trans hb3⟩⟩, by simp [intOf]; omega⟩
        rw [HTK.out, fieldsFrom_snoc, HN.out]
        have e : Lib.byteCells (fieldsFrom (strOfNums [(l0.length : Int) % 256]) (l0.take k) ++ (nb ++ t)).data.toList = Lib.byteCells (fieldsFrom (strOfNums [(l0.length : Int) % 256]) (l0.take k)).data.toList ++ Lib.strCells (nb ++ t) := by
          rw [Lib.strCells_eq, ← Lib.byteCells_append, ByteArray.data_append, Array.toList_append]
        rw [e]
        exact .inr hB3
      · have e : k = l0.length := by omega
        have c1 : decide ((k : Int) < (l0.length : Int)) = false := decide_eq_false (by omega)
        have e9 : l0.take k = l0 := by rw [e, List.take_length]
        rw [e9] at HI
        go_wp2_with fail
        refine (bld_String w.heap.size w.heap.size _ _ HI.out HB.out.size).mono ?_
        rintro e w2 ⟨rfl, hb2⟩
        go_wp2_with fail
        go_ret
        exact ⟨by first | rfl | simp [fieldsT], HB.out.trans hb2⟩
  · rw [if_neg hs] at h
    cases h
end Go.Proofs.Ytgcncphdjabjjaa.X
namespace Go.Proofs.Ytgcncphdjabjjaa.X
open Go.RowKit Go.Proofs.YtgcncphdjabjjaaW.PrintWords Go.Proofs.YtgcncphdjabjjaaW.PrintLast Go.Proofs.YtgcncphdjabjjaaW.PrintMore
attribute [local go_sem] xbin_geq xbin_leq xbin_gtr max2_int min2_int max_two min_two max_three min_three max_four min_four
set_option linter.unusedVariables false
set_option linter.unusedSimpArgs false
theorem bytesOf_byte (s : ByteArray) : ∀ c, c ∈ bytesOf s → isByte c := by
  intro c hc
  unfold bytesOf at hc
  obtain ⟨b, _, rfl⟩ := List.mem_map.1 hc
  have := b.toNat_lt
  exact ⟨by omega, by omega⟩
def impl_sumOf.f (a0 : ByteArray) : Option Int := if a0.size ≤ 1000000000 then some (sumOf32 (bytesOf a0)) else none
set_option maxRecDepth 100000 in
set_option maxHeartbeats 2000000 in
theorem impl_sumOf.calls (a0 : ByteArray) (r : Int) (w : World) (h : impl_sumOf.f a0 = some r) :
    Calls Try.prog 85 #[.string a0] w fun e w' => e = .returned (.int .i64 r) ∧ Below w.heap.size w w' := by
  unfold impl_sumOf.f at h
  by_cases hs : a0.size ≤ 1000000000
  · rw [if_pos hs] at h
    obtain rfl := Option.some.inj h
    clear h
    obtain ⟨K, hK⟩ := impl_crc_is (bytesOf a0) (by rw [bytesOf_length]; omega) (bytesOf_byte a0)
    have hK2 := Aside0.mk (hK K (Nat.le_refl _))
    clear hK
    have kb := fun W => print_bytes (P := Try.prog) 9 52 5 Try.underlying9 Try.underlying52 Try.underlying5 a0 W
    go_enter Try.func85, Try.ntmps85
    go_wp2_with fail
    have hc : Kd.C (Kd.int .u8) (Lib.bytesWorld w 5 a0) (some ⟨w.heap.size, 0, none⟩) (bytesOf a0).length (bytesOf a0) := by
      rw [bytesOf_length]
      exact Kd.C_of_reads (bytes_reads w 5 a0 (by omega))
    have hl : (bytesOf a0).length ≤ grownCap w a0.size 0 5 := by rw [bytesOf_length]; exact grownCap_ge _ _ _ _
    have hq := impl_crc.calls K _ _ _ _ _ hc hl hK2.out
    rw [bytesOf_length] at hq
    refine hq.mono ?_
    rintro e w1 ⟨rfl, hd⟩
    go_wp2_with fail
    go_ret
    exact ⟨rfl, (bytes_below (Below.refl _ w) (Nat.le_refl _) _ a0).trans (by have := hd.below; exact this.mono (by rw [Lib.bytesWorld_size]; omega))⟩
  · rw [if_neg hs] at h
    cases h
end Go.Proofs.Ytgcncphdjabjjaa.X
