import Derived.Test.YtenfomejccfkgaaKFnExactNodeBytes3
import Derived.Shelf.Strings.Builder1
import Derived.LoopTactic
import Derived.BigQuiet
import Derived.Lib.UnsafeStr
import Derived.Lib.Bytealg
import Derived.Laws.Externs
import Derived.Laws.Strings
import Derived.Sort.Walk0
namespace Go.Proofs.Ytenfomejccfkgaa.X
open Go.RowKit Go.Proofs.YtenfomejccfkgaaW.PrintWords Go.Proofs.YtenfomejccfkgaaW.PrintLast Go.Proofs.YtenfomejccfkgaaW.PrintMore
attribute [local go_sem] qaE qaF qaG qaz qaA qaS qaT qau qav qaB qaC
set_option linter.unusedVariables false
set_option linter.unusedSimpArgs false
open Go.Shelf
def qcV : Go.Shelf.Ren := ⟨fun | 166 => 167 | 167 => 166 | 240 => 188 | 276 => 196 | 169 => 168 | n => n, fun | 0 => 0 | 3 => 3 | 4 => 4 | 5 => 5 | 9 => 9 | 20 => 20 | 37 => 52 | 70 => 200 | 72 => 202 | 75 => 204 | 164 => 229 | 127 => 223 | 80 => 125 | n => n, fun n => n⟩
theorem qgl : Go.Proofs.Lays.n167 Try.prog qcV := {
 mixed := by kernel_rfl
 f167 := Try.func166.trans (congrArg some (by kernel_rfl))
 f240 := Try.func188.trans (congrArg some (by kernel_rfl))
 f276 := Try.func196.trans (congrArg some (by kernel_rfl))
 t0 := Try.underlying0
 a0 := Try.isAgg0
 z0 := Try.sizeOf0
 v0 := Try.zeroValue0
 t4 := Try.underlying4
 a4 := Try.isAgg4
 z4 := Try.sizeOf4
 v4 := Try.zeroValue4
 t5 := Try.underlying5
 a5 := Try.isAgg5
 z5 := Try.sizeOf5
 v5 := Try.zeroValue5
 t9 := Try.underlying9
 a9 := Try.isAgg9
 z9 := Try.sizeOf9
 v9 := Try.zeroValue9
 t20 := Try.underlying20
 a20 := Try.isAgg20
 z20 := Try.sizeOf20
 v20 := Try.zeroValue20
 t37 := Try.underlying52
 a37 := Try.isAgg52
 z37 := Try.sizeOf52
 v37 := Try.zeroValue52
 t70 := Try.underlying200
 a70 := Try.isAgg200
 z70 := Try.sizeOf200
 v70 := Try.zeroValue200
 t72 := Try.underlying202
 a72 := Try.isAgg202
 z72 := Try.sizeOf202
 v72 := Try.zeroValue202
 t75 := Try.underlying204
 a75 := Try.isAgg204
 z75 := Try.sizeOf204
 v75 := Try.zeroValue204
 t164 := Try.underlying229
 a164 := Try.isAgg229
 z164 := Try.sizeOf229
 v164 := Try.zeroValue229 }
theorem qgm : Go.Proofs.Lays.n169 Try.prog qcV := {
 mixed := by kernel_rfl
 f169 := Try.func168.trans (congrArg some (by kernel_rfl))
 t0 := Try.underlying0
 a0 := Try.isAgg0
 z0 := Try.sizeOf0
 v0 := Try.zeroValue0
 t3 := Try.underlying3
 a3 := Try.isAgg3
 z3 := Try.sizeOf3
 v3 := Try.zeroValue3
 t9 := Try.underlying9
 a9 := Try.isAgg9
 z9 := Try.sizeOf9
 v9 := Try.zeroValue9
 t37 := Try.underlying52
 a37 := Try.isAgg52
 z37 := Try.sizeOf52
 v37 := Try.zeroValue52
 t70 := Try.underlying200
 a70 := Try.isAgg200
 z70 := Try.sizeOf200
 v70 := Try.zeroValue200
 t72 := Try.underlying202
 a72 := Try.isAgg202
 z72 := Try.sizeOf202
 v72 := Try.zeroValue202
 t127 := Try.underlying223
 a127 := Try.isAgg223
 z127 := Try.sizeOf223
 v127 := Try.zeroValue223 }
theorem qgn : Go.Proofs.Lays.n166 Try.prog qcV := {
 mixed := by kernel_rfl
 f166 := Try.func167.trans (congrArg some (by kernel_rfl))
 f240 := Try.func188.trans (congrArg some (by kernel_rfl))
 f276 := Try.func196.trans (congrArg some (by kernel_rfl))
 t0 := Try.underlying0
 a0 := Try.isAgg0
 z0 := Try.sizeOf0
 v0 := Try.zeroValue0
 t3 := Try.underlying3
 a3 := Try.isAgg3
 z3 := Try.sizeOf3
 v3 := Try.zeroValue3
 t4 := Try.underlying4
 a4 := Try.isAgg4
 z4 := Try.sizeOf4
 v4 := Try.zeroValue4
 t9 := Try.underlying9
 a9 := Try.isAgg9
 z9 := Try.sizeOf9
 v9 := Try.zeroValue9
 t20 := Try.underlying20
 a20 := Try.isAgg20
 z20 := Try.sizeOf20
 v20 := Try.zeroValue20
 t37 := Try.underlying52
 a37 := Try.isAgg52
 z37 := Try.sizeOf52
 v37 := Try.zeroValue52
 t70 := Try.underlying200
 a70 := Try.isAgg200
 z70 := Try.sizeOf200
 v70 := Try.zeroValue200
 t72 := Try.underlying202
 a72 := Try.isAgg202
 z72 := Try.sizeOf202
 v72 := Try.zeroValue202
 t75 := Try.underlying204
 a75 := Try.isAgg204
 z75 := Try.sizeOf204
 v75 := Try.zeroValue204
 t164 := Try.underlying229
 a164 := Try.isAgg229
 z164 := Try.sizeOf229
 v164 := Try.zeroValue229 }
theorem qfk : Builder.Extra Try.prog qcV := {
 sizeBuilder := by kernel_rfl
 liesBuilder := by kernel_rfl
 t5 := Try.underlying5
 a5 := Try.isAgg5
 z5 := Try.sizeOf5
 v5 := Try.zeroValue5
 infoByte := by kernel_rfl
 cellsByte := by kernel_rfl
 sizeByte := by kernel_rfl
 neB5 := by decide }
end Go.Proofs.Ytenfomejccfkgaa.X
namespace Go.Proofs.Ytenfomejccfkgaa.X
open Go.RowKit Go.Proofs.YtenfomejccfkgaaW.PrintWords Go.Proofs.YtenfomejccfkgaaW.PrintLast Go.Proofs.YtenfomejccfkgaaW.PrintMore
attribute [local go_sem] qaE qaF qaG qaz qaA qaS qaT qau qav qaB qaC
set_option linter.unusedVariables false
set_option linter.unusedSimpArgs false
def qaO.l0 : Nat → Int → List Int → Int → Option (ByteArray)
 | 0, _, _, _ => none
 | k + 1, x0, x5, x6 => if x6 ≥ 0 then (if 0 ≤ x6 then (if x6 < (x5.length : Int) then (qaO.l0 k (x0 / 256) (x5.set (x6 : Int).toNat ((x0) % 256)) (wrap64 (x6 - 1))) else (none)) else (none)) else (some (strOfNums x5))
def qaO.f (k : Nat) (a0 : Int) (a1 : Int) : Option (ByteArray) := if 0 ≤ a1 then (if (a1 : Int).toNat ≤ 281474976710656 then (qaO.l0 k a0 (List.replicate (a1 : Int).toNat 0) (wrap64 (a1 - 1))) else (none)) else (none)
theorem qaO.qbf : ∀ k, (∀ y0 y1 y2, LeO (qaO.l0 k y0 y1 y2) (qaO.l0 (k + 1) y0 y1 y2))
 | 0 => fun _ _ _ r h => by simp [qaO.l0] at h
 | k + 1 => by
  have ih0 := qaO.qbf k
  ·intro y0 y1 y2
   unfold qaO.l0
   repeat' first
   | (with_reducible exact ih0 _ _ _)
   | (with_reducible exact LeO.refl _)
   | (with_reducible exact LeO.none _)
   | (with_reducible refine LeO.ite ?_ ?_)
   | (with_reducible refine LeO.bind ?_ (fun _ => ?_))
   | exact ih0 _ _ _
   | exact LeO.none _
   | refine LeO.ite ?_ ?_
   | refine LeO.bind ?_ (fun _ => ?_)
theorem qaO.mono : ∀ a0 a1 k, LeO (qaO.f k a0 a1) (qaO.f (k + 1) a0 a1) := by
 intro a0 a1 k
 have ih0 := qaO.qbf k
 unfold qaO.f
 repeat' first
   | (with_reducible exact ih0 _ _ _)
   | (with_reducible exact LeO.refl _)
   | (with_reducible exact LeO.none _)
   | (with_reducible refine LeO.ite ?_ ?_)
   | (with_reducible refine LeO.bind ?_ (fun _ => ?_))
   | exact ih0 _ _ _
   | exact LeO.none _
   | refine LeO.ite ?_ ?_
   | refine LeO.bind ?_ (fun _ => ?_)
set_option maxHeartbeats 8000000 in
set_option maxRecDepth 100000 in
theorem qaO.calls (k : Nat) (a0 : Int) (a1 : Int) (r : ByteArray) (w : World) (h : qaO.f k a0 a1 = some r) :
  Calls Try.prog 160 #[.int .i64 a0, .int .i64 a1] w fun e w' => e = .returned (.string r) ∧ Below w.heap.size w w' := by
 have HB := Aside0.mk (Below.refl w.heap.size w)
 have H : (if 0 ≤ a1 then (if (a1 : Int).toNat ≤ 281474976710656 then (qaO.l0 k a0 (List.replicate (a1 : Int).toNat 0) (wrap64 (a1 - 1))) else (none)) else (none)) = some r := h
 clear h
 by_cases c3 : 0 ≤ a1
 ·rw [if_pos c3] at H
  have c3b0 := eq_true c3
  have c3b1 : decide (0 ≤ a1) = true := decide_eq_true c3
  clear c3
  by_cases c4 : (a1 : Int).toNat ≤ 281474976710656
  ·rw [if_pos c4] at H
   have c4b0 := eq_true c4
   have c4b1 : decide ((a1 : Int).toNat ≤ 281474976710656) = true := decide_eq_true c4
   clear c4
   obtain ⟨y391, hy391⟩ : ∃ y_ : List Int, y_ = (List.replicate (a1 : Int).toNat 0) := ⟨_, rfl⟩
   replace H : (qaO.l0 k a0 y391 (wrap64 (a1 - 1))) = some r := by first | (rw [hy391]; with_reducible exact H) | (have H2_ := (Option.bind_some _ _).symm.trans H; rw [hy391]; with_reducible exact H2_) | (have H2_ := (Option.bind_some _ _).symm.trans H; with_reducible exact H2_) | with_reducible exact H | (rw [hy391]; exact H) | exact H
   have Ny391 := Aside0.mk hy391
   clear hy391
   have H' := Aside0.mk H
   clear H
   go_enter Try.func160, Try.ntmps160
   go_wp2_with (first | ((with_reducible refine qaK (N := 8) rfl ?_); refine Kd.qfw (Kd.int .u8) _ 5 rfl (N := 8) rfl 52 _ _ rfl a1 rfl rfl Try.underlying52 (.int .u8 0) 1 info5 rfl (by decide) (by omega) 0 (ok := fun _ => True) (okp := fun _ => True) rfl (fun _ hk => hk) trivial (of_decide_eq_true (by first | (with_reducible assumption) | assumption)) (Nat.le_trans (Nat.mul_le_mul_right _ (of_decide_eq_true (by first | (with_reducible assumption) | assumption) : a1.toNat ≤ 281474976710656)) (by omega)) (Below.refl _ _) (Nat.le_refl _) ?_; intro v392 w5 ho6 hb hg_ hnew_; clear hg_ hnew_; (first | rw [← Ny391.out] at ho6 | (simp only [Int.reduceToNat] at ho6; rw [← Ny391.out] at ho6)); have n0_ := Aside0.mk (Kd.qbt ho6 (qah (by repeat (first | (with_reducible first | exact HB.out | apply qac | apply qaa | apply qab) | exact HB.out)))); have n1_ := Aside0.mk (qag (by repeat (first | (with_reducible first | exact HB.out | apply qac | apply qaa | apply qab) | exact HB.out)) hb); clear HB; have HO393 := n0_; have HB := n1_; clear n0_ n1_; clear hb ho6))
   go_loopg [0, 6] k (fun kq v0 v6 w' => ∃ (x0_1 : Int) (x5_1 : List Int) (x6_1 : Int), v0 = .int .i64 x0_1 ∧ v6 = .int .i64 x6_1 ∧ Aside0 (qaO.l0 kq x0_1 x5_1 x6_1 = some r) ∧ Aside0 (kq ≤ k) ∧ Aside0 (Kd.R (Kd.int .u8) 5 w' w.heap.size (fun _ => True) v392 x5_1) ∧ Aside0 (Below w.heap.size w w'))
   case atStart => exact ⟨(a0), (y391), (wrap64 (a1 - 1)), (by first | rfl | (simp; done) | (simp [*]; done)), (by first | rfl | (simp; done) | (simp [*]; done)), H', ⟨Nat.le_refl _⟩, ⟨by (with_reducible repeat (first | apply Kd.qaY | apply Kd.qa1 | apply Kd.qa9)); exact HO393.out⟩, ⟨by repeat (first | (with_reducible first | exact HB.out | apply qac | apply qaa | apply qab) | exact HB.out)⟩⟩
   case round =>
    clear H'
    try clear c1
    try clear p2
    try clear c3
    try clear c3b0
    try clear c3b1
    try clear c4
    try clear c4b0
    try clear c4b1
    try clear p6
    obtain ⟨x0_1, x5_1, x6_1, rfl, rfl, HA, HK1, HO_5, HB⟩ := hrel
    cases gk with
    | zero => exact absurd HA.out (by simp [qaO.l0])
    | succ k1 =>
     have H := HA.out
     clear HA
     simp only [qaO.l0] at H
     by_cases c7 : x6_1 ≥ 0
     ·rw [if_pos c7] at H
      have c7b0 : decide (0 ≤ x6_1) = true := decide_eq_true c7
      clear c7
      by_cases c8 : 0 ≤ x6_1
      ·rw [if_pos c8] at H
       have c8b0 : decide (0 ≤ x6_1) = true := decide_eq_true c8
       clear c8
       by_cases c9 : x6_1 < (x5_1.length : Int)
       ·rw [if_pos c9] at H
        have c9b0 : decide (x6_1 < (x5_1.length : Int)) = true := decide_eq_true c9
        clear c9
        obtain ⟨y394, hy394⟩ : ∃ y_ : List Int, y_ = (x5_1.set (x6_1 : Int).toNat ((x0_1) % 256)) := ⟨_, rfl⟩
        replace H : (qaO.l0 k1 (x0_1 / 256) y394 (wrap64 (x6_1 - 1))) = some r := by first | (rw [hy394]; with_reducible exact H) | (have H2_ := (Option.bind_some _ _).symm.trans H; rw [hy394]; with_reducible exact H2_) | (have H2_ := (Option.bind_some _ _).symm.trans H; with_reducible exact H2_) | with_reducible exact H | (rw [hy394]; exact H) | exact H
        have Ny394 := Aside0.mk hy394
        clear hy394
        have H' := Aside0.mk H
        clear H
        have p10 : 0 ≤ (x6_1 : Int) := of_decide_eq_true (by first | (with_reducible assumption) | assumption)
        have q10 : (x6_1 : Int) < ((x5_1.length : Int) : Int) := of_decide_eq_true (by first | (with_reducible assumption) | assumption)
        obtain ⟨go10, co10, eo10, gb10, gl10, cl10, HG10⟩ := Kd.qdn HO_5.out (by omega)
        (first | cases eo10 | (injection eo10 with ea_ en_ ec_; (first | subst ea_ | (injection ea_ with ea_; subst ea_)); subst ec_; clear en_))
        have GB10 := Aside0.mk gb10
        have GG10 := Aside0.mk HG10
        clear gb10 gl10 HG10
        obtain ⟨hx10_0, hf10_0⟩ := Kd.qc0 0 HO_5.out (x6_1 : Int) p10 q10
        replace p10 := eq_true p10
        replace q10 := eq_true q10
        have HP11 := Kd.qel HO_5.out (x6_1 : Int) ((x0_1) % 256)
        go_wp2_with (first | ((with_reducible refine qb4 (t := 5) (p := 19) rfl ?_); refine qbU (t := 5) (p := 19) (v := ?vo_w12) (w1 := (wr.setCell ⟨go10, (x6_1 : Int).toNat, none⟩ (.int .u8 ((x0_1) % 256)))) ?hg ?ho ?hn ?hr ?_; (case ho => rfl); (case hg => rfl); (case hn => rfl); (case hr => first | (go_simp; done) | (go_simp; rfl)); intro w12 hw; have hg : wr.grownBy w12 (some go10) := (by rw [hw]; exact HP11.2); have hp_ : Kd.R (Kd.int .u8) 5 w12 w.heap.size (fun _ => True) (.slice (some ⟨go10, 0, none⟩) x5_1.length co10) y394 := (by rw [hw, Ny394.out]; exact HP11.1); clear HP11; have n0_ := Aside0.mk (hp_); have n1_ := Aside0.mk ((by rw [hw]; exact qaf (HB.out) GB10.out : Below w.heap.size w w12)); clear HO_5; clear HB; have HO_5 := n0_; have HB := n1_; clear n0_ n1_; clear hg hw hp_))
        go_roundg k1
        case measure => have := HK1.out; omega
        case rel => exact ⟨(x0_1 / 256), (y394), (wrap64 (x6_1 - 1)), (by first | rfl | (simp; done) | (simp [*]; done)), (by first | rfl | (simp; done) | (simp [*]; done)), H', ⟨by have := HK1.out; omega⟩, ⟨by (with_reducible repeat (first | apply Kd.qaY | apply Kd.qa1 | apply Kd.qa9)); exact HO_5.out⟩, ⟨by repeat (first | (with_reducible first | exact HB.out | apply qac | apply qaa | apply qab) | exact HB.out)⟩⟩
       ·rw [if_neg c9] at H
        exact absurd H (by simp)
      ·rw [if_neg c8] at H
       exact absurd H (by simp)
     ·rw [if_neg c7] at H
      have c7b0 : decide (0 ≤ x6_1) = false := decide_eq_false c7
      clear c7
      obtain rfl := Option.some.inj H
      have hcv13 := qcQ (P := Try.prog) Try.underlying52 Try.underlying5 Try.underlying9 (Kd.qcA HO_5.out)
      go_wp2
      go_ret
      exact ⟨by first | rfl | (simp [qai, qaj] <;> rfl) | (simp [*, qai, qaj] <;> rfl), by repeat (first | (with_reducible first | exact HB.out | apply qac | apply qaa | apply qab) | exact HB.out)⟩
  ·rw [if_neg c4] at H
   exact absurd H (by simp)
 ·rw [if_neg c3] at H
  exact absurd H (by simp)
end Go.Proofs.Ytenfomejccfkgaa.X
namespace Go.Proofs.Ytenfomejccfkgaa.X
open Go.RowKit Go.Proofs.YtenfomejccfkgaaW.PrintWords Go.Proofs.YtenfomejccfkgaaW.PrintLast Go.Proofs.YtenfomejccfkgaaW.PrintMore
attribute [local go_sem] qaE qaF qaG qaz qaA qaS qaT qau qav qaB qaC
set_option linter.unusedVariables false
set_option linter.unusedSimpArgs false
set_option maxRecDepth 100000
def numT (n : Int) : ByteArray := strOfNums [n / 256 % 256, n % 256]
theorem qdf (n : Int) : (numT n).size = 2 := rfl
theorem qfQ (n : Int) : Ev (fun k => qaO.f k n 2) (numT n) := by
 unfold qaO.f
 refine Ev.pos (by omega) (Ev.pos (by omega) ?_)
 rw [show (2 : Int).toNat = 2 from rfl, show List.replicate 2 (0 : Int) = [0, 0] from rfl, qbw (x := 2 - 1) (by omega) (by omega)]
 refine Ev.succ ?_
 simp only [qaO.l0]
 refine Ev.pos (by omega) (Ev.pos (by omega) (Ev.pos (by simp) ?_))
 rw [qbw (x := 2 - 1 - 1) (by omega) (by omega)]
 refine Ev.succ ?_
 simp only [qaO.l0]
 refine Ev.pos (by omega) (Ev.pos (by omega) (Ev.pos (by simp) ?_))
 rw [qbw (x := 2 - 1 - 1 - 1) (by omega) (by omega)]
 refine Ev.succ ?_
 simp only [qaO.l0]
 exact Ev.neg (by omega) (Ev.is rfl)
def qbu (a : ByteArray) (l : List ByteArray) : ByteArray := l.foldl (fun a t => a ++ (numT (t.size : Int) ++ t)) a
def qcl (l : List ByteArray) : ByteArray := qbu (strOfNums [(l.length : Int) % 256]) l
def qbW.f (l0 : List ByteArray) : Option ByteArray := if l0.length ≤ 1000000 ∧ (∀ t, t ∈ l0 → t.size ≤ 1000000) then some (qcl l0) else none
theorem qeB (B b : Nat) (bs : List Value) (c : Int) (w : World) (h : Lib.IsBuilder 202 5 B b bs w) (hlen : bs.length + 1 ≤ 140737488355328) (hBw : B ≤ w.heap.size) :
  Calls Try.prog 166 #[.pointer (some ⟨b, 0, none⟩), .int .u8 c] w fun e w' => e = .returned .nilIface ∧ (Lib.BuilderAt 202 5 B b (.pointer (some ⟨b, 0, none⟩)) (bs ++ [.int .u8 c]) w' ∧ Below B w w') := Any.Builder_WriteByte qgl qfk B b bs c w h hlen hBw
theorem qdM (B b : Nat) (bs : List Value) (s : ByteArray) (w : World) (h : Lib.IsBuilder 202 5 B b bs w) (hlen : bs.length + s.size ≤ 140737488355328) (hBw : B ≤ w.heap.size) :
  Calls Try.prog 167 #[.pointer (some ⟨b, 0, none⟩), .string s] w fun e w' => e = .returned (.tuple #[.int .i64 s.size, .nilIface]) ∧ (Lib.BuilderAt 202 5 B b (.pointer (some ⟨b, 0, none⟩)) (bs ++ Lib.strCells s) w' ∧ Below B w w') := Any.Builder_WriteString qgn qfk B b bs s w h hlen hBw
theorem qfR (B b : Nat) (l : List UInt8) (w : World) (h : Lib.IsBuilder 202 5 B b (Lib.byteCells l) w) (hBw : B ≤ w.heap.size) :
  Calls Try.prog 168 #[.pointer (some ⟨b, 0, none⟩)] w fun e w' => e = .returned (.string ⟨l.toArray⟩) ∧ Below B w w' := Any.Builder_String_any qgm qfk B b l w h hBw
theorem qdN {T e : TypeId} {B b : Nat} {bs : List Value} {w w' : World} (h : Lib.IsBuilder T e B b bs w) (hb : Below w.heap.size w w') : Lib.IsBuilder T e B b bs w' := by
 have own : ∀ v, w.ownsRow B e 1 v bs.length bs → w'.ownsRow B e 1 v bs.length bs := by
  rintro v ⟨h1, h2⟩
  refine ⟨h1, ?_⟩
  rcases h2 with hn | ⟨g, cap, cur, rfl, hB, hg, rest⟩
  ·exact .inl hn
  ·exact .inr ⟨g, cap, cur, rfl, hB, qas hg hb, rest⟩
 rcases h with ⟨hB, v, hk, ho, hn⟩ | ⟨hB, v, hk, ho, hn⟩
 ·exact .inl ⟨hB, v, qas hk hb, own v ho, hn⟩
 ·exact .inr ⟨hB, v, qas hk hb, own v ho, hn⟩
theorem qcM (a : ByteArray) (l : List ByteArray) (t : ByteArray) : qbu a (l ++ [t]) = qbu a l ++ (numT (t.size : Int) ++ t) := by
 unfold qbu
 rw [List.foldl_append]
 rfl
theorem qcm (l : List ByteArray) : ∀ a : ByteArray, (∀ t, t ∈ l → t.size ≤ 1000000) → (qbu a l).size ≤ a.size + 1000002 * l.length := by
 induction l with
 | nil => intro a _; exact Nat.le_add_right _ _
 | cons t l ih =>
  intro a h
  have h1 := h t List.mem_cons_self
  have h2 := ih (a ++ (numT (t.size : Int) ++ t)) fun x hx => h x (List.mem_cons_of_mem _ hx)
  have h3 : (a ++ (numT (t.size : Int) ++ t)).size = a.size + (2 + t.size) := by rw [ByteArray.size_append, ByteArray.size_append, qdf]
  rw [h3] at h2
  simp only [List.length_cons]
  show (qbu (a ++ (numT (t.size : Int) ++ t)) l).size ≤ _
  omega
set_option maxHeartbeats 2000000 in
theorem qbW.calls (A0 : Option Addr) (c0 : Nat) (l0 : List ByteArray) (r : ByteArray) (w : World) (hr0 : Kd.C Kd.string w A0 l0.length l0) (hc0 : l0.length ≤ c0) (h : qbW.f l0 = some r) :
  Calls Try.prog 131 #[.slice A0 l0.length c0] w fun e w' => e = .returned (.string r) ∧ Below w.heap.size w w' := by
 unfold qbW.f at h
 by_cases hs : l0.length ≤ 1000000 ∧ (∀ t, t ∈ l0 → t.size ≤ 1000000)
 ·rw [if_pos hs] at h
  obtain rfl := Option.some.inj h
  obtain ⟨hs1, hs2⟩ := hs
  have HS := Aside0.mk hs2
  have HR := Aside0.mk hr0
  clear hr0 h hs2
  have ea : strOfNums [(l0.length : Int) % 256] = strOfNums [(l0.length : Int) % 256] := rfl
  go_enter Try.func131, Try.ntmps131
  go_wp2_with fail
  have hsz : (w.alloc (.cells #[.pointer none, .slice none 0 0] 202 (0, 0))).heap.size = w.heap.size + 1 := by
   show (w.heap.push _).size = _
   rw [Array.size_push]
  refine (qeB w.heap.size w.heap.size [] ((l0.length : Int) % 256) _ (Lib.fresh_isBuilder 202 5 w) (by simp) (by omega)).mono ?_
  rintro e w1 ⟨rfl, hB1, hb1⟩
  have HB1 := Aside0.mk (show Lib.IsBuilder 202 5 w.heap.size w.heap.size (Lib.byteCells (strOfNums [(l0.length : Int) % 256]).data.toList) w1 from by
   have e : Lib.byteCells (strOfNums [(l0.length : Int) % 256]).data.toList = [] ++ [Value.int .u8 ((l0.length : Int) % 256)] := by
    simp [Lib.byteCells, strOfNums]
    omega
   rw [e]; exact .inr hB1)
  have HB := Aside0.mk (show Below w.heap.size w w1 from ((Below.refl _ w).alloc (Nat.le_refl _) _).trans hb1)
  clear hB1 hb1 hsz
  go_wp2_with fail
  go_loopw [13] (fun v13 wr => ∃ k : Nat, k ≤ l0.length ∧ v13 = .int .i64 k ∧ Aside0 (Lib.IsBuilder 202 5 w.heap.size w.heap.size (Lib.byteCells (qbu (strOfNums [(l0.length : Int) % 256]) (l0.take k)).data.toList) wr) ∧ Aside0 (Below w.heap.size w wr)) (fun v13 _ => l0.length - (intOf v13).toNat)
  case atStart => exact ⟨0, Nat.zero_le _, rfl, ⟨by rw [List.take_zero]; exact HB1.out⟩, HB⟩
  case round =>
   clear HB HB1
   obtain ⟨k, hk, rfl, HI, HB⟩ := hrel
   have hfs := qcm (l0.take k) (strOfNums [(l0.length : Int) % 256]) fun t ht => HS.out t (List.mem_of_mem_take ht)
   rw [List.length_take] at hfs
   have ha1 : (strOfNums [(l0.length : Int) % 256]).size = 1 := rfl
   rw [ha1] at hfs
   by_cases hlt : k < l0.length
   ·have c1 : decide ((k : Int) < (l0.length : Int)) = true := decide_eq_true (by omega)
    have p1 : 0 ≤ (k : Int) := by omega
    have q1 : (k : Int) < (l0.length : Int) := by omega
    obtain ⟨ad, e, hx⟩ := Kd.qbn HR.out (k : Int) p1 q1
    cases e
    have et : rdOf ByteArray.empty l0 (k : Int) = l0[k] := by unfold rdOf; rw [Int.toNat_natCast]; simp [List.getD_eq_getElem?_getD, hlt]
    rw [et, Int.toNat_natCast] at hx
    have htk : l0.take (k + 1) = l0.take k ++ [l0[k]] := List.take_succ_eq_append_getElem hlt
    have hts := HS.out l0[k] (List.getElem_mem hlt)
    replace hx := (HB.out.cell (World.block_lt_of_cell? w _ hx)).trans hx
    clear et
    generalize l0[k] = t at hx htk hts
    obtain ⟨K, hK⟩ := qfQ (t.size : Int)
    have hK2 := Aside0.mk (hK K (Nat.le_refl _))
    clear hK
    replace p1 := eq_true p1
    replace q1 := eq_true q1
    go_wp2_with fail
    refine (qaO.calls K _ _ _ _ hK2.out).mono ?_
    rintro e w2 ⟨rfl, hb2⟩
    have hns := qdf (t.size : Int)
    have hov : (9223372036854775807 < (numT (t.size : Int)).size + t.size) = False := eq_false (by omega)
    generalize hN : numT (t.size : Int) = nb at *
    go_wp2_with fail
    refine (qdM w.heap.size w.heap.size _ (nb ++ t) _ (qdN HI.out hb2) (by
     rw [Lib.byteCells_length, ByteArray.size_append, Array.length_toList]
     have : (qbu (strOfNums [(l0.length : Int) % 256]) (l0.take k)).data.size = (qbu (strOfNums [(l0.length : Int) % 256]) (l0.take k)).size := rfl
     omega) (by have := HB.out.size; have := hb2.size; omega)).mono ?_
    rintro e w3 ⟨rfl, hB3, hb3⟩
    have HB3 := Aside0.mk (qag HB.out hb2)
    have HN := Aside0.mk hN
    have HTK := Aside0.mk htk
    clear hN htk hov hns hfs
    go_wp2_with fail
    refine ⟨⟨k + 1, by omega, rfl, ⟨?_⟩, ⟨HB3.out.trans hb3⟩⟩, by simp [intOf]; omega⟩
    rw [HTK.out, qcM, HN.out]
    have e : Lib.byteCells (qbu (strOfNums [(l0.length : Int) % 256]) (l0.take k) ++ (nb ++ t)).data.toList = Lib.byteCells (qbu (strOfNums [(l0.length : Int) % 256]) (l0.take k)).data.toList ++ Lib.strCells (nb ++ t) := by
     rw [Lib.strCells_eq, ← Lib.byteCells_append, ByteArray.data_append, Array.toList_append]
    rw [e]
    exact .inr hB3
   ·have e : k = l0.length := by omega
    have c1 : decide ((k : Int) < (l0.length : Int)) = false := decide_eq_false (by omega)
    have e9 : l0.take k = l0 := by rw [e, List.take_length]
    rw [e9] at HI
    go_wp2_with fail
    refine (qfR w.heap.size w.heap.size _ _ HI.out HB.out.size).mono ?_
    rintro e w2 ⟨rfl, hb2⟩
    go_wp2_with fail
    go_ret
    exact ⟨by first | rfl | simp [qcl], HB.out.trans hb2⟩
 ·rw [if_neg hs] at h
  cases h
end Go.Proofs.Ytenfomejccfkgaa.X
namespace Go.Proofs.Ytenfomejccfkgaa.X
open Go.RowKit Go.Proofs.YtenfomejccfkgaaW.PrintWords Go.Proofs.YtenfomejccfkgaaW.PrintLast Go.Proofs.YtenfomejccfkgaaW.PrintMore
attribute [local go_sem] qaE qaF qaG qaz qaA qaS qaT qau qav qaB qaC
set_option linter.unusedVariables false
set_option linter.unusedSimpArgs false
def qa8.f (a0 : Int) (a1 : Int) (a2 : Int) : Option (Bool) := if a0 ≥ a1 then (some (decide (a0 ≤ a2))) else (some false)
set_option maxHeartbeats 8000000 in
set_option maxRecDepth 100000 in
theorem qa8.calls (a0 : Int) (a1 : Int) (a2 : Int) (r : Bool) (w : World) (h : qa8.f a0 a1 a2 = some r) :
  Calls Try.prog 120 #[.int .i64 a0, .int .i64 a1, .int .i64 a2] w fun e w' => e = .returned (.bool r) ∧ qa0 w w' := by
 have H : (if a0 ≥ a1 then (some (decide (a0 ≤ a2))) else (some false)) = some r := h
 clear h
 by_cases c4 : a0 ≥ a1
 ·rw [if_pos c4] at H
  have c4b0 : decide (a1 ≤ a0) = true := decide_eq_true c4
  clear c4
  obtain rfl := Option.some.inj H
  go_enter Try.func120, Try.ntmps120
  go_wp2
  go_ret
  exact ⟨by first | rfl | (simp; done) | (simp [*]; done), by repeat (first | exact qa0.refl _ | apply qa0.step)⟩
 ·rw [if_neg c4] at H
  have c4b0 : decide (a1 ≤ a0) = false := decide_eq_false c4
  clear c4
  obtain rfl := Option.some.inj H
  go_enter Try.func120, Try.ntmps120
  go_wp2
  go_ret
  exact ⟨by first | rfl | (simp; done) | (simp [*]; done), by repeat (first | exact qa0.refl _ | apply qa0.step)⟩
end Go.Proofs.Ytenfomejccfkgaa.X
namespace Go.Proofs.Ytenfomejccfkgaa.X
open Go.RowKit Go.Proofs.YtenfomejccfkgaaW.PrintWords Go.Proofs.YtenfomejccfkgaaW.PrintLast Go.Proofs.YtenfomejccfkgaaW.PrintMore
attribute [local go_sem] qaE qaF qaG qaz qaA qaS qaT qau qav qaB qaC
set_option linter.unusedVariables false
set_option linter.unusedSimpArgs false
def qaD.f (a0 : Int) (a1 : Int) (a2 : Int) : Option (Bool) := if a1 ≤ a0 then (some (decide (a0 ≤ a2))) else (some false)
set_option maxHeartbeats 8000000 in
set_option maxRecDepth 100000 in
theorem qaD.calls (a0 : Int) (a1 : Int) (a2 : Int) (r : Bool) (w : World) (h : qaD.f a0 a1 a2 = some r) :
  Calls Try.prog 69 #[.int .i64 a0, .int .i64 a1, .int .i64 a2] w fun e w' => e = .returned (.bool r) ∧ qa0 w w' := by
 have H : (if a1 ≤ a0 then (some (decide (a0 ≤ a2))) else (some false)) = some r := h
 clear h
 by_cases c4 : a1 ≤ a0
 ·rw [if_pos c4] at H
  have c4b0 : decide (a1 ≤ a0) = true := decide_eq_true c4
  clear c4
  obtain rfl := Option.some.inj H
  go_enter Try.func69, Try.ntmps69
  go_wp2
  go_ret
  exact ⟨by first | rfl | (simp; done) | (simp [*]; done), by repeat (first | exact qa0.refl _ | apply qa0.step)⟩
 ·rw [if_neg c4] at H
  have c4b0 : decide (a1 ≤ a0) = false := decide_eq_false c4
  clear c4
  obtain rfl := Option.some.inj H
  go_enter Try.func69, Try.ntmps69
  go_wp2
  go_ret
  exact ⟨by first | rfl | (simp; done) | (simp [*]; done), by repeat (first | exact qa0.refl _ | apply qa0.step)⟩
end Go.Proofs.Ytenfomejccfkgaa.X
namespace Go.Proofs.Ytenfomejccfkgaa.X
open Go.RowKit Go.Proofs.YtenfomejccfkgaaW.PrintWords Go.Proofs.YtenfomejccfkgaaW.PrintLast Go.Proofs.YtenfomejccfkgaaW.PrintMore
attribute [local go_sem] qaE qaF qaG qaz qaA qaS qaT qau qav qaB qaC
set_option linter.unusedVariables false
set_option linter.unusedSimpArgs false
def inB (x a b : Int) : Bool := decide (a ≤ x) && decide (x ≤ b)
theorem qgo (x a b : Int) : qaD.f x a b = some (inB x a b) := by
 unfold qaD.f inB
 by_cases h : a ≤ x <;> simp [h]
theorem qgp (x a b : Int) : qa8.f x a b = some (inB x a b) := by
 unfold qa8.f inB
 by_cases h : a ≤ x
 ·rw [if_pos (by omega)]; simp [h]
 ·rw [if_neg (by omega)]; simp [h]
end Go.Proofs.Ytenfomejccfkgaa.X
namespace Go.Proofs.Ytenfomejccfkgaa.X
open Go.RowKit Go.Proofs.YtenfomejccfkgaaW.PrintWords Go.Proofs.YtenfomejccfkgaaW.PrintLast Go.Proofs.YtenfomejccfkgaaW.PrintMore
attribute [local go_sem] qaE qaF qaG qaz qaA qaS qaT qau qav qaB qaC
set_option linter.unusedVariables false
set_option linter.unusedSimpArgs false
def qbE.f (a0 : ByteArray) : Option (Bool) := (qa8.f (a0.size : Int) 1 30).bind fun t198 => (some t198)
set_option maxHeartbeats 8000000 in
set_option maxRecDepth 100000 in
theorem qbE.calls (a0 : ByteArray) (r : Bool) (w : World) (h : qbE.f a0 = some r) :
  Calls Try.prog 71 #[.string a0] w fun e w' => e = .returned (.bool r) ∧ qa0 w w' := by
 have H : ((qa8.f (a0.size : Int) 1 30).bind fun t198 => (some t198)) = some r := h
 clear h
 replace H := Option.bind_eq_some_iff.mp H
 obtain ⟨t198, A20, H⟩ := H
 replace H : (some t198) = some r := H
 have A2 := Aside0.mk A20
 clear A20
 obtain rfl := Option.some.inj H
 go_enter Try.func71, Try.ntmps71
 go_wp2_with (first | ((with_reducible refine qaq (f := 120) rfl ?_); refine qbd (some 5) rfl rfl Try.func120 (by kernel_rfl) rfl #[.int .i64 (a0.size : Int), .int .i64 1, .int .i64 30] rfl (by (try simp only [List.map_toArray, List.map_cons, List.map_nil]); first | done | rfl | (simp only [List.length_drop, List.length_take]; rfl)) ?_; (with_reducible refine (qa8.calls (a0.size : Int) 1 30 t198 _ A2.out).mono ?_); rintro e w' ⟨rfl, ⟨nd, rfl⟩⟩; refine ⟨_, rfl, ?_⟩))
 go_ret
 exact ⟨by first | rfl | (simp; done) | (simp [*]; done), by repeat (first | exact qa0.refl _ | apply qa0.step)⟩
end Go.Proofs.Ytenfomejccfkgaa.X
namespace Go.Proofs.Ytenfomejccfkgaa.X
open Go.RowKit Go.Proofs.YtenfomejccfkgaaW.PrintWords Go.Proofs.YtenfomejccfkgaaW.PrintLast Go.Proofs.YtenfomejccfkgaaW.PrintMore
attribute [local go_sem] qaE qaF qaG qaz qaA qaS qaT qau qav qaB qaC
set_option linter.unusedVariables false
set_option linter.unusedSimpArgs false
def keyB (s : ByteArray) : Bool := decide (1 ≤ s.size) && decide (s.size ≤ 30)
theorem spec_key (s : ByteArray) : qaD.f (s.size : Int) 1 30 = some (keyB s) := by
 unfold qaD.f keyB
 by_cases h : 1 ≤ s.size
 ·rw [if_pos (by omega), decide_eq_true h]
  have e : ((s.size : Int) ≤ 30) = (s.size ≤ 30) := propext (by omega)
  simp [e]
 ·rw [if_neg (by omega), decide_eq_false h]
  rfl
theorem qfE (s : ByteArray) : qbE.f s = some (keyB s) := by
 unfold qbE.f qa8.f keyB
 by_cases h : 1 ≤ s.size
 ·rw [if_pos (by omega), decide_eq_true h]
  have e : ((s.size : Int) ≤ 30) = (s.size ≤ 30) := propext (by omega)
  simp [e]
 ·rw [if_neg (by omega), decide_eq_false h]
  rfl
end Go.Proofs.Ytenfomejccfkgaa.X
namespace Go.Proofs.Ytenfomejccfkgaa.X
open Go.RowKit Go.Proofs.YtenfomejccfkgaaW.PrintWords Go.Proofs.YtenfomejccfkgaaW.PrintLast Go.Proofs.YtenfomejccfkgaaW.PrintMore
attribute [local go_sem] qaE qaF qaG qaz qaA qaS qaT qau qav qaB qaC
set_option linter.unusedVariables false
set_option linter.unusedSimpArgs false
theorem qfl {a b c : List UInt8} (h : Op.bytesLess a b = true) (k : Op.bytesLess b c = true) : Op.bytesLess a c = true := by
 rw [bytesLess_eq] at *
 simp only [decide_eq_true_eq] at *
 exact List.lt_trans h k
end Go.Proofs.Ytenfomejccfkgaa.X
namespace Go.Proofs.Ytenfomejccfkgaa.X
open Go.RowKit Go.Proofs.YtenfomejccfkgaaW.PrintWords Go.Proofs.YtenfomejccfkgaaW.PrintLast Go.Proofs.YtenfomejccfkgaaW.PrintMore
attribute [local go_sem] qaE qaF qaG qaz qaA qaS qaT qau qav qaB qaC
set_option linter.unusedVariables false
set_option linter.unusedSimpArgs false
def qbv.f (a0_0 : ByteArray) (a0_1 : ByteArray) : Option (Bool) := (qaD.f (a0_0.size : Int) 1 30).bind fun t115 => (if t115 = true then (some (decide ((a0_1.size : Int) ≤ 90))) else (some false))
set_option maxHeartbeats 8000000 in
set_option maxRecDepth 100000 in
theorem qbv.calls (a0_0 : ByteArray) (a0_1 : ByteArray) (r : Bool) (w : World) (h : qbv.f a0_0 a0_1 = some r) :
  Calls Try.prog 162 #[.agg #[.string a0_0, .string a0_1]] w fun e w' => e = .returned (.bool r) ∧ Below w.heap.size w w' := by
 have hu99 := Try.underlying99
 have HB := Aside0.mk (Below.refl w.heap.size w)
 have H : ((qaD.f (a0_0.size : Int) 1 30).bind fun t115 => (if t115 = true then (some (decide ((a0_1.size : Int) ≤ 90))) else (some false))) = some r := h
 clear h
 replace H := Option.bind_eq_some_iff.mp H
 obtain ⟨t115, A20, H⟩ := H
 replace H : (if t115 = true then (some (decide ((a0_1.size : Int) ≤ 90))) else (some false)) = some r := H
 have A2 := Aside0.mk A20
 clear A20
 by_cases c3 : t115 = true
 ·subst c3
  have H1 : (some (decide ((a0_1.size : Int) ≤ 90))) = some r := by rw [if_pos rfl] at H; exact H
  clear H
  have H := H1
  clear H1
  obtain rfl := Option.some.inj H
  go_enter Try.func162, Try.ntmps162
  go_wp2_with (first | ((with_reducible refine qaK (N := 1) rfl ?_); (try (refine qbk (by rfl) ?_; dsimp only)); refine qaJ ?hg (N := 1) ?hd (cs := #[.string a0_0, .string a0_1]) (t := 99) ?hr ?_; (case hd => rfl); (case hg => rfl); (case hr => first | (go_simp; done) | (go_simp; rfl)); intro gb114 hg w4 hbox hb; have n0_ := Aside0.mk (qag (by repeat (first | (with_reducible first | exact HB.out | apply qac | apply qaa | apply qab) | exact HB.out)) hb); have n1_ := Aside0.mk (hbox); have n2_ := Aside0.mk ((by rw [hg]; exact (qah (by repeat (first | (with_reducible first | exact HB.out | apply qac | apply qaa | apply qab) | exact HB.out))) : w.heap.size ≤ gb114)); have n3_ := Aside0.mk ((by rw [hg]; exact (qah (by repeat (first | (with_reducible first | exact HB.out | apply qac | apply qaa | apply qab) | exact HB.out))) : w.heap.size ≤ gb114)); clear HB; have HB := n0_; have BK114 := n1_; have GW114 := n2_; have GE114 := n3_; clear n0_ n1_ n2_ n3_; clear hb hbox hg; have hcz5_0 : w4.cell? ⟨gb114, 0, none⟩ = some (.string a0_0) := (qae BK114.out 0).trans rfl; have hcz5_1 : w4.cell? ⟨gb114, 1, none⟩ = some (.string a0_1) := (qae BK114.out 1).trans rfl; have hfz5_0 := qad BK114.out 0; have hfz5_1 := qad BK114.out 1) | ((with_reducible refine qaq (f := 69) rfl ?_); refine qbd (some 6) rfl rfl Try.func69 (by kernel_rfl) rfl #[.int .i64 (a0_0.size : Int), .int .i64 1, .int .i64 30] rfl (by (try simp only [List.map_toArray, List.map_cons, List.map_nil]); first | done | rfl | (simp only [List.length_drop, List.length_take]; rfl)) ?_; (with_reducible refine (qaD.calls (a0_0.size : Int) 1 30 true _ A2.out).mono ?_); rintro e w' ⟨rfl, ⟨nd, rfl⟩⟩; refine ⟨_, rfl, ?_⟩))
  go_ret
  exact ⟨by first | rfl | (simp [qai, qaj] <;> rfl) | (simp [*, qai, qaj] <;> rfl), by repeat (first | (with_reducible first | exact HB.out | apply qac | apply qaa | apply qab | refine qaf ?_ GE114.out) | exact HB.out)⟩
 ·replace c3 := Bool.eq_false_iff.mpr c3
  subst c3
  have H1 : (some false) = some r := by rw [if_neg (show ¬ (false = true) by decide)] at H; exact H
  clear H
  have H := H1
  clear H1
  obtain rfl := Option.some.inj H
  go_enter Try.func162, Try.ntmps162
  go_wp2_with (first | ((with_reducible refine qaK (N := 1) rfl ?_); (try (refine qbk (by rfl) ?_; dsimp only)); refine qaJ ?hg (N := 1) ?hd (cs := #[.string a0_0, .string a0_1]) (t := 99) ?hr ?_; (case hd => rfl); (case hg => rfl); (case hr => first | (go_simp; done) | (go_simp; rfl)); intro gb114 hg w6 hbox hb; have n0_ := Aside0.mk (qag (by repeat (first | (with_reducible first | exact HB.out | apply qac | apply qaa | apply qab) | exact HB.out)) hb); have n1_ := Aside0.mk (hbox); have n2_ := Aside0.mk ((by rw [hg]; exact (qah (by repeat (first | (with_reducible first | exact HB.out | apply qac | apply qaa | apply qab) | exact HB.out))) : w.heap.size ≤ gb114)); have n3_ := Aside0.mk ((by rw [hg]; exact (qah (by repeat (first | (with_reducible first | exact HB.out | apply qac | apply qaa | apply qab) | exact HB.out))) : w.heap.size ≤ gb114)); clear HB; have HB := n0_; have BK114 := n1_; have GW114 := n2_; have GE114 := n3_; clear n0_ n1_ n2_ n3_; clear hb hbox hg; have hcz7_0 : w6.cell? ⟨gb114, 0, none⟩ = some (.string a0_0) := (qae BK114.out 0).trans rfl; have hcz7_1 : w6.cell? ⟨gb114, 1, none⟩ = some (.string a0_1) := (qae BK114.out 1).trans rfl; have hfz7_0 := qad BK114.out 0; have hfz7_1 := qad BK114.out 1) | ((with_reducible refine qaq (f := 69) rfl ?_); refine qbd (some 6) rfl rfl Try.func69 (by kernel_rfl) rfl #[.int .i64 (a0_0.size : Int), .int .i64 1, .int .i64 30] rfl (by (try simp only [List.map_toArray, List.map_cons, List.map_nil]); first | done | rfl | (simp only [List.length_drop, List.length_take]; rfl)) ?_; (with_reducible refine (qaD.calls (a0_0.size : Int) 1 30 false _ A2.out).mono ?_); rintro e w' ⟨rfl, ⟨nd, rfl⟩⟩; refine ⟨_, rfl, ?_⟩))
  go_ret
  exact ⟨by first | rfl | (simp [qai, qaj] <;> rfl) | (simp [*, qai, qaj] <;> rfl), by repeat (first | (with_reducible first | exact HB.out | apply qac | apply qaa | apply qab | refine qaf ?_ GE114.out) | exact HB.out)⟩
end Go.Proofs.Ytenfomejccfkgaa.X
