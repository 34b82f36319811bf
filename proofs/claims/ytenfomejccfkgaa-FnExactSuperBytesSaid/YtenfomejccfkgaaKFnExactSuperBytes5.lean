import Derived.Test.YtenfomejccfkgaaKFnExactSuperBytes4
import Derived.LoopTactic
import Derived.WalkSpells
import Derived.Lib.ConvBytes
import Derived.Shelf.Strings.Builder1
namespace Go.Proofs.Ytenfomejccfkgaa.X
open Go.RowKit Go.Proofs.YtenfomejccfkgaaW.PrintWords Go.Proofs.YtenfomejccfkgaaW.PrintLast Go.Proofs.YtenfomejccfkgaaW.PrintMore
attribute [local go_sem] xbin_geq xbin_leq xbin_gtr max2_int min2_int max_two min_two max_three min_three max_four min_four
set_option linter.unusedVariables false
set_option linter.unusedSimpArgs false
def BR (W : World) (base : Nat) (P : Nat → Prop) (v : Value) (l : List Int) : Prop :=
  (v = .slice none 0 0 ∧ l = []) ∨ ∃ g c cur lo hi, v = .slice (some ⟨g, 0, none⟩) l.length c ∧ l.length ≤ c ∧ base ≤ g ∧ P g ∧ W.heap[g]? = some (.cells cur 5 (lo, hi)) ∧ l.length ≤ 9223372036854775807 ∧ l.length ≤ lo ∧ (∀ j, j < l.length → cur[j]? = some (.int .u8 (l.getD j 0)))
theorem blk_cellF {W : World} {g : Nat} {cur : Array Value} {t : TypeId} {fr : Nat × Nat} (h : W.heap[g]? = some (.cells cur t fr)) (j : Nat) : W.cell? ⟨g, j, none⟩ = cur[j]? := by simp [World.cell?, h]
section
variable {W W1 w : World} {base base' : Nat} {P P' S : Nat → Prop} {v : Value} {l : List Int}
theorem BR.nil : BR W base P (.slice none 0 0) [] := .inl ⟨rfl, rfl⟩
theorem BR.move (h : BR W base P v l) (hm : ∀ k, P k → base ≤ k → k < W.heap.size → W1.heap[k]? = W.heap[k]?) : BR W1 base P v l := by
  rcases h with h | ⟨g, c, cur, lo, hi, h1, h2, h3, h4, h5, h6⟩
  · exact .inl h
  · exact .inr ⟨g, c, cur, lo, hi, h1, h2, h3, h4, (hm g h4 h3 (blk_lt h5)).trans h5, h6⟩
theorem BR.mono (h : BR W base P v l) (hp : ∀ k, P k → base ≤ k → k < W.heap.size → P' k) : BR W base P' v l := by
  rcases h with h | ⟨g, c, cur, lo, hi, h1, h2, h3, h4, h5, h6⟩
  · exact .inl h
  · exact .inr ⟨g, c, cur, lo, hi, h1, h2, h3, hp g h4 h3 (blk_lt h5), h5, h6⟩
theorem BR.lower (h : BR W base P v l) (hb : base' ≤ base) : BR W base' P v l := by
  rcases h with h | ⟨g, c, cur, lo, hi, h1, h2, h3, h4⟩
  · exact .inl h
  · exact .inr ⟨g, c, cur, lo, hi, h1, h2, Nat.le_trans hb h3, h4⟩
theorem BR.below (h : BR W base P v l) (hb : Below W.heap.size W W1) : BR W1 base P v l := h.move fun k _ _ hk => hb.block k hk
theorem BR.alloc (h : BR W base P v l) (o : Obj) : BR (W.alloc o) base P v l := h.below (below_alloc (Below.refl _ _) o)
theorem BR.drew (h : BR W base P v l) : BR W.drew base P v l := h.below (below_drew (Below.refl _ _))
theorem BR.kept (h : BR W base P v l) (hk : Kept W W1 S) (hne : ∀ k, P k → ¬ S k) : BR W1 base P v l := h.move fun k hp _ hlt => hk.2 k hlt (hne k hp)
theorem BR.reads (h : BR W base P v l) : ∃ A c, v = .slice A l.length c ∧ l.length ≤ c ∧ Kd.C (Kd.int .u8) W A l.length l := by
  rcases h with ⟨rfl, rfl⟩ | ⟨g, c, cur, lo, hi, rfl, h2, h3, h4, h5, h6, h7, h8⟩
  · exact ⟨none, 0, rfl, Nat.le_refl _, Kd.C_nil _ _⟩
  · refine ⟨_, c, rfl, h2, Kd.C_of_reads (d := 0) ⟨rfl, h6, fun _ => ⟨_, rfl, fun j hj => ?_⟩⟩⟩
    rw [add_plain, blk_cellF h5 j]
    exact h8 j hj
theorem BR.reads2 {A : Option Addr} {n c : Nat} (h : BR W base P (.slice A n c) l) : n = l.length ∧ n ≤ c ∧ Kd.C (Kd.int .u8) W A l.length l := by
  obtain ⟨A', c', e, h1, h2⟩ := h.reads
  injection e with e1 e2 e3
  subst e1; subst e2; subst e3
  exact ⟨rfl, h1, h2⟩
theorem BR.of_bytes (s : ByteArray) (hs : s.size ≤ 4611686018427387904) : BR (Lib.bytesWorld w 5 s) w.heap.size (fun _ => True) (.slice (some ⟨w.heap.size, 0, none⟩) s.size (grownCap w s.size 0 5)) (bytesOf s) := by
  refine .inr ⟨_, grownCap w s.size 0 5, _, _, _, by rw [bytesOf_length], ?_, Nat.le_refl _, trivial, Lib.bytesWorld_at_new w 5 s, ?_, ?_, fun j hj => ?_⟩
  · rw [bytesOf_length]; exact grownCap_ge _ _ _ _
  · rw [bytesOf_length]; omega
  · rw [bytesOf_length]
    have : (Lib.bytesCells w 5 s).size = s.size + (grownCap w s.size 0 5 - s.size) := by
      simp [Lib.bytesCells]
    omega
  · rw [bytesOf_length] at hj
    have h := Lib.bytesWorld_cell w 5 s j hj
    have h2 := blk_cellF (Lib.bytesWorld_at_new w 5 s) j
    rw [← h2, h]
    have h' : j < s.data.toList.length := by rw [data_length]; exact hj
    simp [bytesOf, List.getD_eq_getElem?_getD, List.getElem?_eq_getElem h']
theorem BR.set {A : Option Addr} {n c : Nat} (h : BR W base P (.slice A n c) l) (i : Nat) (hi : i < n) (u : Int) : ∃ g, A = some ⟨g, 0, none⟩ ∧ base ≤ g ∧ P g ∧ W.cell? ⟨g, i, none⟩ = some (.int .u8 (l.getD i 0)) ∧ W.frozen? ⟨g, i, none⟩ = false ∧ BR (W.setCell ⟨g, i, none⟩ (.int .u8 u)) base P (.slice A n c) (l.set i u) := by
  rcases h with ⟨h1, rfl⟩ | ⟨g, c', cur, lo, hi', h1, h2, h3, h4, h5, h6, h7, h8⟩
  · injection h1 with _ h1; omega
  · injection h1 with e1 e2 e3
    subst e1; subst e2; subst e3
    have hic : i < cur.size := by
      have h9 := h8 i hi
      rcases Nat.lt_or_ge i cur.size with h | h
      · exact h
      · rw [Array.getElem?_eq_none h] at h9; cases h9
    refine ⟨g, rfl, h3, h4, ?_, ?_, .inr ⟨g, c, cur.setIfInBounds i (.int .u8 u), lo, hi', by rw [List.length_set], by rw [List.length_set]; exact h2, h3, h4, ?_, by rw [List.length_set]; exact h6, by rw [List.length_set]; exact h7, fun j hj => ?_⟩⟩
    · rw [blk_cellF h5 i]; exact h8 i hi
    · simp only [World.frozen?, h5]
      have : ¬ lo ≤ i := by omega
      simp [this]
    · show (W.heap.modify g _)[g]? = _
      rw [Array.getElem?_modify, if_pos rfl, h5]
      rfl
    · rw [List.length_set] at hj
      by_cases e : j = i
      · subst e
        rw [Array.getElem?_setIfInBounds_self_of_lt hic]
        simp [List.getD_eq_getElem?_getD, hj]
      · rw [Array.getElem?_setIfInBounds_ne (fun h => e h.symm), h8 j hj]
        simp [List.getD_eq_getElem?_getD, List.getElem?_set_ne (fun h => e h.symm)]
end
set_option maxHeartbeats 4000000 in
set_option maxRecDepth 100000 in
theorem markByteS_br (P : Nat → Prop) (A : Option Addr) (c : Nat) (l : List Int) (m : Int) (w0 w : World) (hB : Below w0.heap.size w0 w) (hS : BR w w0.heap.size P (.slice A l.length c) l) (hm : 0 ≤ m) (hcost : m + (l.length : Int) ≤ 4611686018427387904) :
    Calls Try.prog 38 #[.slice A l.length c, .int .i64 m] w fun e w' => e = .returned (.int .i64 (m + (l.length : Int))) ∧ BR w' w0.heap.size P (.slice A l.length c) (mk_ByteS l m) ∧ Below w0.heap.size w0 w' ∧ Kept w w' P := by
  obtain ⟨n, hn⟩ : ∃ n, n = l.length := ⟨_, rfl⟩
  rw [← hn] at hS ⊢
  have HN := Aside0.mk hn
  have HS := Aside0.mk hS
  have HB := Aside0.mk hB
  rw [← hn] at hcost
  clear hB hS hn
  go_enter Try.func38, Try.ntmps38
  go_wp2_with fail
  go_loopw [1, 5] (fun v1 v4 wr => ∃ (i : Nat) (ys : List Int), i ≤ n ∧ v4 = .int .i64 i ∧ v1 = .int .i64 (m + (i : Int)) ∧ Aside0 (ys.length = n) ∧ Aside0 (ys.take i ++ mk_ByteS (l.drop i) (m + (i : Int)) = mk_ByteS l m) ∧ Aside0 (BR wr w0.heap.size P (.slice A n c) ys) ∧ Aside0 (Below w0.heap.size w0 wr) ∧ Aside0 (Kept w wr P)) (fun _ v4 _ => n - (intOf v4).toNat)
  case atStart => exact ⟨0, l, by omega, rfl, by simp, ⟨HN.out.symm⟩, ⟨by simp⟩, HS, HB, ⟨Kept.refl _ _⟩⟩
  case round =>
    clear HS HB
    obtain ⟨i, ys, hi, rfl, rfl, HL, HT, HS, HB, HK⟩ := hrel
    by_cases hlt : i < n
    · have c1 : decide ((i : Int) < (n : Int)) = true := decide_eq_true (by omega)
      obtain ⟨g, rfl, hbg, hP, hcs, hfr, hS2⟩ := HS.out.set i hlt ((m + (i : Int)) % 256)
      have HS2 := Aside0.mk hS2
      have HG := Aside0.mk (And.intro hbg hP)
      have p1 : (0 ≤ (i : Int)) = True := eq_true (by omega)
      have q1 : ((i : Int) < (n : Int)) = True := eq_true (by omega)
      have w1 : IntKind.i64.wrap (m + (i : Int) + 1) = m + (i : Int) + 1 := by rw [IntKind.wrap_i64]; omega
      have w2 : IntKind.i64.wrap ((i : Int) + 1) = (i : Int) + 1 := by rw [IntKind.wrap_i64]; omega
      clear hS2 hbg hP
      go_wp2_with fail
      go_roundw
      case rel => exact ⟨i + 1, ys.set i ((m + (i : Int)) % 256), by omega, by go_num, by go_num, ⟨by rw [List.length_set]; exact HL.out⟩, ⟨by
        have hy : i < ys.length := by rw [HL.out]; exact hlt
        have hl2 : i < l.length := by rw [← HN.out]; exact hlt
        rw [List.take_succ_eq_append_getElem (by rw [List.length_set]; exact hy), List.take_set_of_le (Nat.le_refl _), List.getElem_set_self, ← HT.out, List.drop_eq_getElem_cons hl2, mk_ByteS, List.append_assoc]
        rw [show m + ((i + 1 : Nat) : Int) = m + (i : Int) + 1 from by omega]
        rfl⟩, HS2, ⟨HB.out.setCell (p := ⟨g, i, none⟩) HG.out.1 _⟩, ⟨HK.out.setCell (p := ⟨g, i, none⟩) (.inl HG.out.2) _⟩⟩
      case measure => simp [intOf]; omega
    · obtain rfl : i = n := by omega
      have c1 : decide ((i : Int) < (i : Int)) = false := decide_eq_false (by omega)
      have HE := Aside0.mk (show ys = mk_ByteS l m from by
        have h := HT.out
        rw [show l.drop i = [] from by rw [HN.out, List.drop_length], mk_ByteS, List.append_nil, ← HL.out, List.take_length] at h
        exact h)
      go_wp2_with fail
      go_ret
      exact ⟨rfl, by rw [← HE.out]; exact HS.out, HB.out, HK.out⟩
end Go.Proofs.Ytenfomejccfkgaa.X
namespace Go.Proofs.Ytenfomejccfkgaa.X
open Go.RowKit Go.Proofs.YtenfomejccfkgaaW.PrintWords Go.Proofs.YtenfomejccfkgaaW.PrintLast Go.Proofs.YtenfomejccfkgaaW.PrintMore
attribute [local go_sem] xbin_geq xbin_leq xbin_gtr max2_int min2_int max_two min_two max_three min_three max_four min_four
set_option linter.unusedVariables false
set_option linter.unusedSimpArgs false
def allFrom (f : Nat → Bool) : Nat → Nat → Bool
  | _, 0 => true
  | i, d + 1 => f i && allFrom f (i + 1) d
def allB (f : Nat → Bool) (n : Nat) : Bool := allFrom f 0 n
theorem allFrom_iff (f : Nat → Bool) (d : Nat) : ∀ i, allFrom f i d = true ↔ ∀ j, i ≤ j → j < i + d → f j = true := by
  induction d with
  | zero => intro i; simp only [allFrom, true_iff]; intro j h1 h2; omega
  | succ d ih =>
    intro i
    simp only [allFrom, Bool.and_eq_true, ih]
    refine ⟨fun h j h1 h2 => ?_, fun h => ⟨h i (by omega) (by omega), fun j h1 h2 => h j (by omega) (by omega)⟩⟩
    rcases Nat.lt_or_ge i j with h3 | h3
    · exact h.2 j h3 (by omega)
    · rw [show j = i by omega]; exact h.1
theorem allB_iff {f : Nat → Bool} {n : Nat} : allB f n = true ↔ ∀ j, j < n → f j = true := by
  unfold allB
  rw [allFrom_iff]
  exact ⟨fun h j hj => h j (by omega) (by omega), fun h j _ hj => h j (by omega)⟩
theorem Ev.allFrom {g : Nat → Int → Option Bool} (f : Nat → Bool) (fin : Bool) (n : Nat) (hend : Ev (fun k => g k (n : Int)) fin) (hstep : ∀ i : Nat, i < n → ∀ r, Ev (fun k => g k ((i + 1 : Nat) : Int)) r → Ev (fun k => g k (i : Int)) (f i && r)) (d : Nat) : ∀ i : Nat, i + d = n → Ev (fun k => g k (i : Int)) (allFrom f i d && fin) := by
  induction d with
  | zero => intro i hi; rw [show i = n by omega]; simpa [X.allFrom] using hend
  | succ d ih =>
    intro i hi
    have := hstep i (by omega) _ (ih (i + 1) (by omega))
    simpa [X.allFrom, Bool.and_assoc] using this
theorem Ev.all {g : Nat → Int → Option Bool} (f : Nat → Bool) (fin : Bool) (n : Nat) (hend : Ev (fun k => g k (n : Int)) fin) (hstep : ∀ i : Nat, i < n → ∀ r, Ev (fun k => g k ((i + 1 : Nat) : Int)) r → Ev (fun k => g k (i : Int)) (f i && r)) : Ev (fun k => g k 0) (allB f n && fin) := Ev.allFrom f fin n hend hstep n 0 (by omega)
theorem wrap_less {n : Nat} (h : n < 9223372036854775807) (h0 : 0 < n) : wrap64 ((n : Int) - 1) = ((n - 1 : Nat) : Int) := by unfold wrap64; omega
end Go.Proofs.Ytenfomejccfkgaa.X
namespace Go.Proofs.Ytenfomejccfkgaa.X
open Go.RowKit Go.Proofs.YtenfomejccfkgaaW.PrintWords Go.Proofs.YtenfomejccfkgaaW.PrintLast Go.Proofs.YtenfomejccfkgaaW.PrintMore
attribute [local go_sem] xbin_geq xbin_leq xbin_gtr max2_int min2_int max_two min_two max_three min_three max_four min_four
set_option linter.unusedVariables false
set_option linter.unusedSimpArgs false
open Go.Shelf
def Trybld_ren : Go.Shelf.Ren := ⟨fun | 166 => 167 | 167 => 166 | 240 => 188 | 276 => 196 | 169 => 168 | n => n, fun | 0 => 0 | 3 => 3 | 4 => 4 | 5 => 5 | 9 => 9 | 20 => 20 | 37 => 52 | 70 => 200 | 72 => 202 | 75 => 204 | 164 => 229 | 127 => 223 | 80 => 125 | n => n, fun n => n⟩
theorem Trybld167 : Go.Proofs.Lays.n167 Try.prog Trybld_ren := {
  mixed := by kernel_rfl
  f167 := Try.func166.trans (congrArg some (by kernel_rfl))
  f240 := Try.func188.trans (congrArg some (by kernel_rfl))
  f276 := Try.func196.trans (congrArg some (by kernel_rfl))
  t0 := Try.underlying0
  a0 := Try.isAgg0
  z0 := Try.sizeOf0
  v0 := Try.zeroValue0
  t4 := Try.underlying4
  a4 := Try.isAgg4
  z4 := Try.sizeOf4
  v4 := Try.zeroValue4
  t5 := Try.underlying5
  a5 := Try.isAgg5
  z5 := Try.sizeOf5
  v5 := Try.zeroValue5
  t9 := Try.underlying9
  a9 := Try.isAgg9
  z9 := Try.sizeOf9
  v9 := Try.zeroValue9
  t20 := Try.underlying20
  a20 := Try.isAgg20
  z20 := Try.sizeOf20
  v20 := Try.zeroValue20
  t37 := Try.underlying52
  a37 := Try.isAgg52
  z37 := Try.sizeOf52
  v37 := Try.zeroValue52
  t70 := Try.underlying200
  a70 := Try.isAgg200
  z70 := Try.sizeOf200
  v70 := Try.zeroValue200
  t72 := Try.underlying202
  a72 := Try.isAgg202
  z72 := Try.sizeOf202
  v72 := Try.zeroValue202
  t75 := Try.underlying204
  a75 := Try.isAgg204
  z75 := Try.sizeOf204
  v75 := Try.zeroValue204
  t164 := Try.underlying229
  a164 := Try.isAgg229
  z164 := Try.sizeOf229
  v164 := Try.zeroValue229 }
theorem Trybld169 : Go.Proofs.Lays.n169 Try.prog Trybld_ren := {
  mixed := by kernel_rfl
  f169 := Try.func168.trans (congrArg some (by kernel_rfl))
  t0 := Try.underlying0
  a0 := Try.isAgg0
  z0 := Try.sizeOf0
  v0 := Try.zeroValue0
  t3 := Try.underlying3
  a3 := Try.isAgg3
  z3 := Try.sizeOf3
  v3 := Try.zeroValue3
  t9 := Try.underlying9
  a9 := Try.isAgg9
  z9 := Try.sizeOf9
  v9 := Try.zeroValue9
  t37 := Try.underlying52
  a37 := Try.isAgg52
  z37 := Try.sizeOf52
  v37 := Try.zeroValue52
  t70 := Try.underlying200
  a70 := Try.isAgg200
  z70 := Try.sizeOf200
  v70 := Try.zeroValue200
  t72 := Try.underlying202
  a72 := Try.isAgg202
  z72 := Try.sizeOf202
  v72 := Try.zeroValue202
  t127 := Try.underlying223
  a127 := Try.isAgg223
  z127 := Try.sizeOf223
  v127 := Try.zeroValue223 }
theorem Trybld166 : Go.Proofs.Lays.n166 Try.prog Trybld_ren := {
  mixed := by kernel_rfl
  f166 := Try.func167.trans (congrArg some (by kernel_rfl))
  f240 := Try.func188.trans (congrArg some (by kernel_rfl))
  f276 := Try.func196.trans (congrArg some (by kernel_rfl))
  t0 := Try.underlying0
  a0 := Try.isAgg0
  z0 := Try.sizeOf0
  v0 := Try.zeroValue0
  t3 := Try.underlying3
  a3 := Try.isAgg3
  z3 := Try.sizeOf3
  v3 := Try.zeroValue3
  t4 := Try.underlying4
  a4 := Try.isAgg4
  z4 := Try.sizeOf4
  v4 := Try.zeroValue4
  t9 := Try.underlying9
  a9 := Try.isAgg9
  z9 := Try.sizeOf9
  v9 := Try.zeroValue9
  t20 := Try.underlying20
  a20 := Try.isAgg20
  z20 := Try.sizeOf20
  v20 := Try.zeroValue20
  t37 := Try.underlying52
  a37 := Try.isAgg52
  z37 := Try.sizeOf52
  v37 := Try.zeroValue52
  t70 := Try.underlying200
  a70 := Try.isAgg200
  z70 := Try.sizeOf200
  v70 := Try.zeroValue200
  t72 := Try.underlying202
  a72 := Try.isAgg202
  z72 := Try.sizeOf202
  v72 := Try.zeroValue202
  t75 := Try.underlying204
  a75 := Try.isAgg204
  z75 := Try.sizeOf204
  v75 := Try.zeroValue204
  t164 := Try.underlying229
  a164 := Try.isAgg229
  z164 := Try.sizeOf229
  v164 := Try.zeroValue229 }
theorem TrybldX : Builder.Extra Try.prog Trybld_ren := {
  sizeBuilder := by kernel_rfl
  liesBuilder := by kernel_rfl
  t5 := Try.underlying5
  a5 := Try.isAgg5
  z5 := Try.sizeOf5
  v5 := Try.zeroValue5
  infoByte := by kernel_rfl
  cellsByte := by kernel_rfl
  sizeByte := by kernel_rfl
  neB5 := by decide }
end Go.Proofs.Ytenfomejccfkgaa.X
namespace Go.Proofs.Ytenfomejccfkgaa.X
open Go.RowKit Go.Proofs.YtenfomejccfkgaaW.PrintWords Go.Proofs.YtenfomejccfkgaaW.PrintLast Go.Proofs.YtenfomejccfkgaaW.PrintMore
attribute [local go_sem] xbin_geq xbin_leq xbin_gtr max2_int min2_int max_two min_two max_three min_three max_four min_four
set_option linter.unusedVariables false
set_option linter.unusedSimpArgs false
def impl_inBytes.l0 : Nat → Int → List Int → Int → Option (ByteArray)
 | 0, _, _, _ => none
 | k + 1, x0, x5, x6 => if x6 ≥ 0 then (if 0 ≤ x6 then (if x6 < (x5.length : Int) then (impl_inBytes.l0 k (x0 / 256) (x5.set (x6 : Int).toNat ((x0) % 256)) (wrap64 (x6 - 1))) else (none)) else (none)) else (some (strOfNums x5))
def impl_inBytes.f (k : Nat) (a0 : Int) (a1 : Int) : Option (ByteArray) := if 0 ≤ a1 then (if (a1 : Int).toNat ≤ 281474976710656 then (impl_inBytes.l0 k a0 (List.replicate (a1 : Int).toNat 0) (wrap64 (a1 - 1))) else (none)) else (none)
theorem impl_inBytes.mono_l : ∀ k, (∀ y0 y1 y2, LeO (impl_inBytes.l0 k y0 y1 y2) (impl_inBytes.l0 (k + 1) y0 y1 y2))
 | 0 => fun _ _ _ r h => by simp [impl_inBytes.l0] at h
 | k + 1 => by
  have ih0 := impl_inBytes.mono_l k
  ·intro y0 y1 y2
   unfold impl_inBytes.l0
   repeat' first
   | (with_reducible exact ih0 _ _ _)
   | (with_reducible exact LeO.refl _)
   | (with_reducible exact LeO.none _)
   | (with_reducible refine LeO.ite ?_ ?_)
   | (with_reducible refine LeO.bind ?_ (fun _ => ?_))
   | exact ih0 _ _ _
   | exact LeO.none _
   | refine LeO.ite ?_ ?_
   | refine LeO.bind ?_ (fun _ => ?_)
theorem impl_inBytes.mono : ∀ a0 a1 k, LeO (impl_inBytes.f k a0 a1) (impl_inBytes.f (k + 1) a0 a1) := by
 intro a0 a1 k
 have ih0 := impl_inBytes.mono_l k
 unfold impl_inBytes.f
 repeat' first
   | (with_reducible exact ih0 _ _ _)
   | (with_reducible exact LeO.refl _)
   | (with_reducible exact LeO.none _)
   | (with_reducible refine LeO.ite ?_ ?_)
   | (with_reducible refine LeO.bind ?_ (fun _ => ?_))
   | exact ih0 _ _ _
   | exact LeO.none _
   | refine LeO.ite ?_ ?_
   | refine LeO.bind ?_ (fun _ => ?_)
set_option maxHeartbeats 8000000 in
set_option maxRecDepth 100000 in
theorem impl_inBytes.calls (k : Nat) (a0 : Int) (a1 : Int) (r : ByteArray) (w : World) (h : impl_inBytes.f k a0 a1 = some r) :
  Calls Try.prog 160 #[.int .i64 a0, .int .i64 a1] w fun e w' => e = .returned (.string r) ∧ Below w.heap.size w w' := by
 have HB := Aside0.mk (Below.refl w.heap.size w)
 have H : (if 0 ≤ a1 then (if (a1 : Int).toNat ≤ 281474976710656 then (impl_inBytes.l0 k a0 (List.replicate (a1 : Int).toNat 0) (wrap64 (a1 - 1))) else (none)) else (none)) = some r := h
 clear h
 by_cases c3 : 0 ≤ a1
 ·rw [if_pos c3] at H
  have c3b0 := eq_true c3
  have c3b1 : decide (0 ≤ a1) = true := decide_eq_true c3
  clear c3
  by_cases c4 : (a1 : Int).toNat ≤ 281474976710656
  ·rw [if_pos c4] at H
   have c4b0 := eq_true c4
   have c4b1 : decide ((a1 : Int).toNat ≤ 281474976710656) = true := decide_eq_true c4
   clear c4
   obtain ⟨y334, hy334⟩ : ∃ y_ : List Int, y_ = (List.replicate (a1 : Int).toNat 0) := ⟨_, rfl⟩
   replace H : (impl_inBytes.l0 k a0 y334 (wrap64 (a1 - 1))) = some r := by first | (rw [hy334]; with_reducible exact H) | (have H2_ := (Option.bind_some _ _).symm.trans H; rw [hy334]; with_reducible exact H2_) | (have H2_ := (Option.bind_some _ _).symm.trans H; with_reducible exact H2_) | with_reducible exact H | (rw [hy334]; exact H) | exact H
   have Ny334 := Aside0.mk hy334
   clear hy334
   have H' := Aside0.mk H
   clear H
   go_enter Try.func160, Try.ntmps160
   go_wp2_with (first | ((with_reducible refine gate_dst (N := 8) rfl ?_); refine Kd.R_make (Kd.int .u8) _ 5 rfl (N := 8) rfl 52 _ _ rfl a1 rfl rfl Try.underlying52 (.int .u8 0) 1 info5 rfl (by decide) (by omega) 0 (ok := fun _ => True) (okp := fun _ => True) rfl (fun _ hk => hk) trivial (of_decide_eq_true (by first | (with_reducible assumption) | assumption)) (Nat.le_trans (Nat.mul_le_mul_right _ (of_decide_eq_true (by first | (with_reducible assumption) | assumption) : a1.toNat ≤ 281474976710656)) (by omega)) (Below.refl _ _) (Nat.le_refl _) ?_; intro v335 w5 ho6 hb hg_ hnew_; clear hg_ hnew_; (first | rw [← Ny334.out] at ho6 | (simp only [Int.reduceToNat] at ho6; rw [← Ny334.out] at ho6)); have n0_ := Aside0.mk (Kd.R_lower ho6 (below_size (by repeat (first | (with_reducible first | exact HB.out | apply below_alloc | apply pw_below_drewN | apply below_drew1) | exact HB.out)))); have n1_ := Aside0.mk (below_step (by repeat (first | (with_reducible first | exact HB.out | apply below_alloc | apply pw_below_drewN | apply below_drew1) | exact HB.out)) hb); clear HB; have HO336 := n0_; have HB := n1_; clear n0_ n1_; clear hb ho6))
   go_loopg [0, 6] k (fun kq v0 v6 w' => ∃ (x0_1 : Int) (x5_1 : List Int) (x6_1 : Int), v0 = .int .i64 x0_1 ∧ v6 = .int .i64 x6_1 ∧ Aside0 (impl_inBytes.l0 kq x0_1 x5_1 x6_1 = some r) ∧ Aside0 (kq ≤ k) ∧ Aside0 (Kd.R (Kd.int .u8) 5 w' w.heap.size (fun _ => True) v335 x5_1) ∧ Aside0 (Below w.heap.size w w'))
   case atStart => exact ⟨(a0), (y334), (wrap64 (a1 - 1)), (by first | rfl | (simp; done) | (simp [*]; done)), (by first | rfl | (simp; done) | (simp [*]; done)), H', ⟨Nat.le_refl _⟩, ⟨by (with_reducible repeat (first | apply Kd.R_alloc | apply Kd.R_drewN | apply Kd.R_drew)); exact HO336.out⟩, ⟨by repeat (first | (with_reducible first | exact HB.out | apply below_alloc | apply pw_below_drewN | apply below_drew1) | exact HB.out)⟩⟩
   case round =>
    clear H'
    try clear c1
    try clear p2
    try clear c3
    try clear c3b0
    try clear c3b1
    try clear c4
    try clear c4b0
    try clear c4b1
    try clear p6
    obtain ⟨x0_1, x5_1, x6_1, rfl, rfl, HA, HK1, HO_5, HB⟩ := hrel
    cases gk with
    | zero => exact absurd HA.out (by simp [impl_inBytes.l0])
    | succ k1 =>
     have H := HA.out
     clear HA
     simp only [impl_inBytes.l0] at H
     by_cases c7 : x6_1 ≥ 0
     ·rw [if_pos c7] at H
      have c7b0 : decide (0 ≤ x6_1) = true := decide_eq_true c7
      clear c7
      by_cases c8 : 0 ≤ x6_1
      ·rw [if_pos c8] at H
       have c8b0 : decide (0 ≤ x6_1) = true := decide_eq_true c8
       clear c8
       by_cases c9 : x6_1 < (x5_1.length : Int)
       ·rw [if_pos c9] at H
        have c9b0 : decide (x6_1 < (x5_1.length : Int)) = true := decide_eq_true c9
        clear c9
        obtain ⟨y337, hy337⟩ : ∃ y_ : List Int, y_ = (x5_1.set (x6_1 : Int).toNat ((x0_1) % 256)) := ⟨_, rfl⟩
        replace H : (impl_inBytes.l0 k1 (x0_1 / 256) y337 (wrap64 (x6_1 - 1))) = some r := by first | (rw [hy337]; with_reducible exact H) | (have H2_ := (Option.bind_some _ _).symm.trans H; rw [hy337]; with_reducible exact H2_) | (have H2_ := (Option.bind_some _ _).symm.trans H; with_reducible exact H2_) | with_reducible exact H | (rw [hy337]; exact H) | exact H
        have Ny337 := Aside0.mk hy337
        clear hy337
        have H' := Aside0.mk H
        clear H
        have p10 : 0 ≤ (x6_1 : Int) := of_decide_eq_true (by first | (with_reducible assumption) | assumption)
        have q10 : (x6_1 : Int) < ((x5_1.length : Int) : Int) := of_decide_eq_true (by first | (with_reducible assumption) | assumption)
        obtain ⟨go10, co10, eo10, gb10, gl10, cl10, HG10⟩ := Kd.R_form HO_5.out (by omega)
        (first | cases eo10 | (injection eo10 with ea_ en_ ec_; (first | subst ea_ | (injection ea_ with ea_; subst ea_)); subst ec_; clear en_))
        have GB10 := Aside0.mk gb10
        have GG10 := Aside0.mk HG10
        clear gb10 gl10 HG10
        obtain ⟨hx10_0, hf10_0⟩ := Kd.R_celln 0 HO_5.out (x6_1 : Int) p10 q10
        replace p10 := eq_true p10
        replace q10 := eq_true q10
        have HP11 := Kd.R_putg HO_5.out (x6_1 : Int) ((x0_1) % 256)
        go_wp2_with (first | ((with_reducible refine gate_store (t := 5) (p := 19) rfl ?_); refine store_event (t := 5) (p := 19) (v := ?vo_w12) (w1 := (wr.setCell ⟨go10, (x6_1 : Int).toNat, none⟩ (.int .u8 ((x0_1) % 256)))) ?hg ?ho ?hn ?hr ?_; (case ho => rfl); (case hg => rfl); (case hn => rfl); (case hr => first | (go_simp; done) | (go_simp; rfl)); intro w12 hw; have hg : wr.grownBy w12 (some go10) := (by rw [hw]; exact HP11.2); have hp_ : Kd.R (Kd.int .u8) 5 w12 w.heap.size (fun _ => True) (.slice (some ⟨go10, 0, none⟩) x5_1.length co10) y337 := (by rw [hw, Ny337.out]; exact HP11.1); clear HP11; have n0_ := Aside0.mk (hp_); have n1_ := Aside0.mk ((by rw [hw]; exact below_set (HB.out) GB10.out : Below w.heap.size w w12)); clear HO_5; clear HB; have HO_5 := n0_; have HB := n1_; clear n0_ n1_; clear hg hw hp_))
        go_roundg k1
        case measure => have := HK1.out; omega
        case rel => exact ⟨(x0_1 / 256), (y337), (wrap64 (x6_1 - 1)), (by first | rfl | (simp; done) | (simp [*]; done)), (by first | rfl | (simp; done) | (simp [*]; done)), H', ⟨by have := HK1.out; omega⟩, ⟨by (with_reducible repeat (first | apply Kd.R_alloc | apply Kd.R_drewN | apply Kd.R_drew)); exact HO_5.out⟩, ⟨by repeat (first | (with_reducible first | exact HB.out | apply below_alloc | apply pw_below_drewN | apply below_drew1) | exact HB.out)⟩⟩
       ·rw [if_neg c9] at H
        exact absurd H (by simp)
      ·rw [if_neg c8] at H
       exact absurd H (by simp)
     ·rw [if_neg c7] at H
      have c7b0 : decide (0 ≤ x6_1) = false := decide_eq_false c7
      clear c7
      obtain rfl := Option.some.inj H
      have hcv13 := own_string (P := Try.prog) Try.underlying52 Try.underlying5 Try.underlying9 (Kd.own_of_R HO_5.out)
      go_wp2
      go_ret
      exact ⟨by first | rfl | (simp [errW_none, errW_some] <;> rfl) | (simp [*, errW_none, errW_some] <;> rfl), by repeat (first | (with_reducible first | exact HB.out | apply below_alloc | apply pw_below_drewN | apply below_drew1) | exact HB.out)⟩
  ·rw [if_neg c4] at H
   exact absurd H (by simp)
 ·rw [if_neg c3] at H
  exact absurd H (by simp)
end Go.Proofs.Ytenfomejccfkgaa.X
