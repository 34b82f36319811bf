import Derived.Test.YtcpcifgpcemaeaaKFnExactDiskArm3
import Derived.Test.YtcpcifgpcemaeaaKFnExactDiskArm5
import Derived.Test.YtcpcifgpcemaeaaKFnExactDiskArm15
import Derived.Test.YtcpcifgpcemaeaaKFnExactDiskArm16
import Derived.Test.YtcpcifgpcemaeaaKFnExactDiskArm17
import Derived.Test.YtcpcifgpcemaeaaKFnExactDiskArm18
import Derived.Test.YtcpcifgpcemaeaaKFnExactDiskArm19
import Derived.Test.YtcpcifgpcemaeaaKFnExactDiskArm20
import Derived.Test.YtcpcifgpcemaeaaKFnExactDiskArm21
import Derived.Test.YtcpcifgpcemaeaaKFnExactDiskArm22
import Derived.LoopTactic
import Derived.WalkSpells
namespace Go.Proofs.Ytcpcifgpcemaeaa.X
open Go.RowKit Go.Proofs.YtcpcifgpcemaeaaW.PrintWords Go.Proofs.YtcpcifgpcemaeaaW.PrintLast Go.Proofs.YtcpcifgpcemaeaaW.PrintMore
attribute [local go_sem] xbin_geq xbin_leq xbin_gtr max2_int min2_int max_two min_two max_three min_three max_four min_four
set_option linter.unusedVariables false
set_option linter.unusedSimpArgs false
def RowsP (w0 w : World) (P : Nat → Prop) (A0 : Option Addr) (n0 c0 : Nat) (A1 : Option Addr) (n1 c1 : Nat) (A3 : Option Addr) (n3 c3 : Nat) (s : List ByteArray) (c : List S95) (q : List Int) : Prop := Kd.R Kd.string 9 w w0.heap.size P (.slice A0 n0 c0) s ∧ Kd.R k95 95 w w0.heap.size P (.slice A1 n1 c1) c ∧ Kd.R (Kd.int .i64) 3 w w0.heap.size P (.slice A3 n3 c3) q
def DiskP (w0 w : World) (P : Nat → Prop) (g : Nat) (A0 : Option Addr) (n0 c0 : Nat) (A1 : Option Addr) (n1 c1 : Nat) (A3 : Option Addr) (n3 c3 : Nat) (s : List ByteArray) (c : List S95) (a : Bool) (q : List Int) : Prop :=
  w0.heap.size ≤ g ∧ w.heap[g]? = some (.cells #[.slice A0 n0 c0, .slice A1 n1 c1, .bool a, .slice A3 n3 c3] 26 (0, 0)) ∧ RowsP w0 w P A0 n0 c0 A1 n1 c1 A3 n3 c3 s c q
section
variable {w0 w w1 : World} {P S : Nat → Prop} {g : Nat} {A0 A1 A3 : Option Addr} {n0 c0 n1 c1 n3 c3 : Nat} {s : List ByteArray} {c : List S95} {a : Bool} {q : List Int}
theorem RowsP.below (h : RowsP w0 w P A0 n0 c0 A1 n1 c1 A3 n3 c3 s c q) (hb : Below w.heap.size w w1) : RowsP w0 w1 P A0 n0 c0 A1 n1 c1 A3 n3 c3 s c q := ⟨Kd.R_below h.1 hb, Kd.R_below h.2.1 hb, Kd.R_below h.2.2 hb⟩
theorem RowsP.kept (h : RowsP w0 w P A0 n0 c0 A1 n1 c1 A3 n3 c3 s c q) (hk : Kept w w1 S) (hne : ∀ k, P k → ¬ S k) : RowsP w0 w1 P A0 n0 c0 A1 n1 c1 A3 n3 c3 s c q := ⟨Kd.R_kept h.1 hk hne, Kd.R_kept h.2.1 hk hne, Kd.R_kept h.2.2 hk hne⟩
theorem DiskP.below (h : DiskP w0 w P g A0 n0 c0 A1 n1 c1 A3 n3 c3 s c a q) (hb : Below w.heap.size w w1) : DiskP w0 w1 P g A0 n0 c0 A1 n1 c1 A3 n3 c3 s c a q := ⟨h.1, blk_below h.2.1 hb, h.2.2.below hb⟩
theorem DiskP.kept (h : DiskP w0 w P g A0 n0 c0 A1 n1 c1 A3 n3 c3 s c a q) (hk : Kept w w1 S) (hne : ∀ k, P k → ¬ S k) (hg : ¬ S g) : DiskP w0 w1 P g A0 n0 c0 A1 n1 c1 A3 n3 c3 s c a q := ⟨h.1, blk_kept h.2.1 hk hg, h.2.2.kept hk hne⟩
theorem DiskP.cells (h : DiskP w0 w P g A0 n0 c0 A1 n1 c1 A3 n3 c3 s c a q) : w.cell? ⟨g, 0, none⟩ = some (.slice A0 n0 c0) ∧ w.cell? ⟨g, 1, none⟩ = some (.slice A1 n1 c1) ∧ w.cell? ⟨g, 2, none⟩ = some (.bool a) ∧ w.cell? ⟨g, 3, none⟩ = some (.slice A3 n3 c3) :=
  ⟨blk_cell h.2.1 0, blk_cell h.2.1 1, blk_cell h.2.1 2, blk_cell h.2.1 3⟩
theorem DiskP.new {o0 o1 o3 : Nat → Prop} (hB : Below w0.heap.size w0 w) (hb : Below w.heap.size w w1) (h1 : Kd.R Kd.string 9 w1 w.heap.size o0 (.slice A0 n0 c0) s) (h2 : Kd.R k95 95 w1 w.heap.size o1 (.slice A1 n1 c1) c) (h3 : Kd.R (Kd.int .i64) 3 w1 w.heap.size o3 (.slice A3 n3 c3) q) (a : Bool) :
    DiskP w0 (w1.alloc (.cells #[.slice A0 n0 c0, .slice A1 n1 c1, .bool a, .slice A3 n3 c3] 26 (0, 0))) (fun k => w.heap.size ≤ k ∧ k < w1.heap.size) w1.heap.size A0 n0 c0 A1 n1 c1 A3 n3 c3 s c a q :=
  ⟨Nat.le_trans hB.size hb.size, blk_new _ _, Kd.R_alloc (Kd.R_lower (Kd.R_mono (Kd.R_bound h1) (fun _ hk => ⟨hk.2.1, hk.2.2.1⟩)) hB.size) _, Kd.R_alloc (Kd.R_lower (Kd.R_mono (Kd.R_bound h2) (fun _ hk => ⟨hk.2.1, hk.2.2.1⟩)) hB.size) _, Kd.R_alloc (Kd.R_lower (Kd.R_mono (Kd.R_bound h3) (fun _ hk => ⟨hk.2.1, hk.2.2.1⟩)) hB.size) _⟩
end
theorem R_reok {α : Type} {d : Kd α} {e : Nat} {w : World} {base : Nat} {ok ok' : Nat → Prop} {v : Value} {xs : List α} (hf : ∀ {o o' : Nat → Prop} {x : α} {cs : List Value}, d.M w base o x cs → d.M w base o' x cs) (h : d.R e w base ok v xs) (hv : ∀ k, v.ownBlock = some k → ok' k) : d.R e w base ok' v xs := by
  obtain ⟨h0, inner, ho, hr⟩ := h
  exact ⟨hv, inner, ho, hr.imp_ (fun _ _ hm => hf hm)⟩
theorem flat_pend {w : World} {base : Nat} {o o' : Nat → Prop} {x : S95} {cs : List Value} (h : k95.M w base o x cs) : k95.M w base o' x cs := by
  rw [k95_openM h]; exact k95_mkM _ _ _ x
theorem eqDisk_at (k : Nat) (w0 w : World) (P1 P2 : Nat → Prop) (g1 g2 : Nat) (A0 : Option Addr) (n0 c0 : Nat) (A1 : Option Addr) (n1 c1 : Nat) (A3 : Option Addr) (n3 c3 : Nat) (B0 : Option Addr) (d0 : Nat) (B1 : Option Addr) (d1 : Nat) (B3 : Option Addr) (d3 : Nat) (s : List ByteArray) (c : List S95) (a : Bool) (q : List Int) (h1 : RowsP w0 w P1 A0 n0 c0 A1 n1 c1 A3 n3 c3 s c q) (h2 : RowsP w0 w P2 B0 n0 d0 B1 n1 d1 B3 n3 d3 s c q) (he : laws_eqDisk.f k s c a q s c a q = some true) :
    Calls Try.prog 17 #[.agg #[.slice A0 n0 c0, .slice A1 n1 c1, .bool a, .slice A3 n3 c3], .agg #[.slice B0 n0 d0, .slice B1 n1 d1, .bool a, .slice B3 n3 d3]] w fun e w' => e = .returned (.bool true) ∧ Below w.heap.size w w' := by
  obtain ⟨e0, l0, r0⟩ := Kd.R_reads' h1.1
  obtain ⟨e1, l1, r1⟩ := Kd.R_reads' h1.2.1
  obtain ⟨e3, l3, r3⟩ := Kd.R_reads' h1.2.2
  obtain ⟨_, m0, t0⟩ := Kd.R_reads' h2.1
  obtain ⟨_, m1, t1⟩ := Kd.R_reads' h2.2.1
  obtain ⟨_, m3, t3⟩ := Kd.R_reads' h2.2.2
  subst e0; subst e1; subst e3
  exact laws_eqDisk.calls k A0 c0 s A1 c1 c a A3 c3 q B0 d0 s B1 d1 c a B3 d3 q true w r0 l0 r1 l1 r3 l3 t0 m0 t1 m1 t3 m3 he
theorem heldDisk_at (k : Nat) (w0 w : World) (P1 : Nat → Prop) (A0 : Option Addr) (n0 c0 : Nat) (A1 : Option Addr) (n1 c1 : Nat) (A3 : Option Addr) (n3 c3 : Nat) (s : List ByteArray) (c : List S95) (a : Bool) (q : List Int) (m r : Int) (h1 : RowsP w0 w P1 A0 n0 c0 A1 n1 c1 A3 n3 c3 s c q) (he : laws_heldDisk.f k s c a q m = some r) :
    Calls Try.prog 19 #[.agg #[.slice A0 n0 c0, .slice A1 n1 c1, .bool a, .slice A3 n3 c3], .int .i64 m] w fun e w' => e = .returned (.int .i64 r) ∧ Below w.heap.size w w' := by
  obtain ⟨e0, l0, r0⟩ := Kd.R_reads' h1.1
  obtain ⟨e1, l1, r1⟩ := Kd.R_reads' h1.2.1
  obtain ⟨e3, l3, r3⟩ := Kd.R_reads' h1.2.2
  subst e0; subst e1; subst e3
  exact laws_heldDisk.calls k A0 c0 s A1 c1 c a A3 c3 q m r w r0 l0 r1 l1 r3 l3 he
theorem markDisk_at (k : Nat) (w0 w : World) (P : Nat → Prop) (g : Nat) (A0 : Option Addr) (n0 c0 : Nat) (A1 : Option Addr) (n1 c1 : Nat) (A3 : Option Addr) (n3 c3 : Nat) (s : List ByteArray) (c : List S95) (a : Bool) (q : List Int) (m r : Int) (s' : List ByteArray) (c' : List S95) (q' : List Int) (hB : Below w0.heap.size w0 w) (h : DiskP w0 w P g A0 n0 c0 A1 n1 c1 A3 n3 c3 s c a q) (hg : ¬ P g) (hm : laws_markDisk.f k s c a q m = some (r, s', c', q')) :
    Calls Try.prog 18 #[.agg #[.slice A0 n0 c0, .slice A1 n1 c1, .bool a, .slice A3 n3 c3], .int .i64 m] w fun e w' => e = .returned (.int .i64 r) ∧ DiskP w0 w' P g A0 n0 c0 A1 n1 c1 A3 n3 c3 s' c' a q' ∧ Below w0.heap.size w0 w' ∧ Kept w w' P := by
  refine (laws_markDisk.calls k P (.slice A0 n0 c0) s P (.slice A1 n1 c1) c a P (.slice A3 n3 c3) q m r s' c' q' w0 w hB h.2.2.1 h.2.2.2.1 h.2.2.2.2 hm).mono ?_
  rintro e w' ⟨he, h0, h1, h3, hb, hk⟩
  have hk2 : Kept w w' P := hk.mono (fun k hk => by rcases hk with hk | hk | hk <;> exact hk)
  exact ⟨he, ⟨h.1, blk_kept h.2.1 hk2 hg, R_reok (fun hm => hm) h0 h.2.2.1.1, R_reok flat_pend h1 h.2.2.2.1.1, R_reok (fun hm => hm) h3 h.2.2.2.2.1⟩, hb, hk2⟩
end Go.Proofs.Ytcpcifgpcemaeaa.X
namespace Go.Proofs.Ytcpcifgpcemaeaa.X
open Go.RowKit Go.Proofs.YtcpcifgpcemaeaaW.PrintWords Go.Proofs.YtcpcifgpcemaeaaW.PrintLast Go.Proofs.YtcpcifgpcemaeaaW.PrintMore
attribute [local go_sem] xbin_geq xbin_leq xbin_gtr max2_int min2_int max_two min_two max_three min_three max_four min_four
set_option linter.unusedVariables false
set_option linter.unusedSimpArgs false
noncomputable def mk_IntS : List Int → Int → List Int
  | [], _ => []
  | _ :: xs, m => (m) :: mk_IntS xs (m + 1)
theorem mark_IntS_loop (rest : List Int) : ∀ (pre : List Int) (m : Int), 0 ≤ m → m + 1 * (rest.length : Int) ≤ 4611686018427387904 → (pre ++ rest).length ≤ 9223372036854775807 →
    Ev (fun k => laws_markIntS.l0 k (pre ++ rest) m ((pre.length : Nat) : Int)) (m + 1 * (rest.length : Int), pre ++ mk_IntS rest m) := by
  induction rest with
  | nil =>
    intro pre m h0 h1 hl
    refine Ev.succ ?_
    simp only [laws_markIntS.l0]
    exact Ev.neg (by simp) (Ev.is (by simp [mk_IntS]))
  | cons x rest ih =>
    intro pre m h0 h1 hl
    have hlt : ((pre.length : Nat) : Int) < ((pre ++ x :: rest).length : Int) := by simp; omega
    have hwp : ∀ v : Int, wrap64 (((pre.length : Nat) : Int) + 1) = (((pre ++ [v]).length : Nat) : Int) := fun v => by rw [← len_snoc]; exact wrap_at (by simp at hl; omega)
    have hset : ∀ v u : Int, (pre ++ u :: rest).set ((pre.length : Nat) : Int).toNat v = pre ++ v :: rest := fun v u => by rw [Int.toNat_natCast]; exact set_mid pre u v rest
    have hrd : ∀ u : Int, rd (pre ++ u :: rest) ((pre.length : Nat) : Int) = u := fun u => by simp [rd, List.getD_eq_getElem?_getD]
    simp only [List.length_cons] at h1
    have w1 : wrap64 (m + 1) = m + 1 := (wrap_id (by omega) (by omega)).trans (by omega)
    have hi := ih (pre ++ [(m)]) (m + 1) (by omega) (by omega) (by simpa using hl)
    refine Ev.succ ?_
    simp only [laws_markIntS.l0, w1]
    refine Ev.pos hlt ?_
    refine Ev.pos (show (0 : Int) ≤ ((pre.length : Nat) : Int) by omega) ?_
    simp only [hset, hrd]
    rw [hwp ((m))]
    have e3 : pre ++ ((m) : Int) :: rest = (pre ++ [(m)]) ++ rest := by simp
    have e4 : (m + 1 + 1 * (rest.length : Int), (pre ++ [(m)]) ++ mk_IntS rest (m + 1)) = (m + 1 * (((x :: rest).length : Nat) : Int), pre ++ mk_IntS (x :: rest) m) := by
      refine Prod.ext ?_ ?_
      · simp only [List.length_cons]; omega
      · simp [mk_IntS]
    rw [← e4, e3]
    exact hi
theorem mark_IntS (l : List Int) (m : Int) (h0 : 0 ≤ m) (h1 : m + 1 * (l.length : Int) ≤ 4611686018427387904) (hl : l.length ≤ 9223372036854775807) : Ev (fun k => laws_markIntS.f k l m) (m + 1 * (l.length : Int), mk_IntS l m) := by
  unfold laws_markIntS.f
  have h := mark_IntS_loop l [] m h0 h1 (by simpa using hl)
  simpa using h
end Go.Proofs.Ytcpcifgpcemaeaa.X
namespace Go.Proofs.Ytcpcifgpcemaeaa.X
open Go.RowKit Go.Proofs.YtcpcifgpcemaeaaW.PrintWords Go.Proofs.YtcpcifgpcemaeaaW.PrintLast Go.Proofs.YtcpcifgpcemaeaaW.PrintMore
attribute [local go_sem] xbin_geq xbin_leq xbin_gtr max2_int min2_int max_two min_two max_three min_three max_four min_four
set_option linter.unusedVariables false
set_option linter.unusedSimpArgs false
theorem markText_any (n : Nat) : ∀ (a : Int) (acc : ByteArray), a.toNat ≤ n → 0 ≤ a → a ≤ 4611686018427387904 → acc.size + n ≤ 4611686018427387905 → ∃ s, Ev (fun k => laws_markText.l0 k a acc) s := by
  induction n with
  | zero =>
    intro a acc h h0 h1 h2
    refine ⟨(⟨#[109]⟩ : ByteArray) ++ acc, Ev.succ ?_⟩
    simp only [laws_markText.l0]
    exact Ev.neg (by omega) (Ev.pos (by omega) (Ev.is rfl))
  | succ n ih =>
    intro a acc h h0 h1 h2
    by_cases hz : a > 0
    · have e : wrap64 (Int.tdiv a 10) = a / 10 := by
        rw [Int.tdiv_eq_ediv_of_nonneg h0]
        exact wrap_id (by omega) (by omega)
      have hsz : ∀ b : Int, (strOfNums [b]).size = 1 := fun b => by simp [strOfNums, ByteArray.size]
      obtain ⟨s, hs⟩ := ih (a / 10) (strOfNums [(wrap64 (48 + Int.tmod a 10)) % 256] ++ acc) (by omega) (by omega) (by omega) (by rw [ByteArray.size_append, hsz]; omega)
      refine ⟨s, Ev.succ ?_⟩
      simp only [laws_markText.l0, Option.bind_some]
      refine Ev.pos hz (Ev.pos (by rw [hsz]; omega) ?_)
      rw [e]
      exact hs
    · refine ⟨(⟨#[109]⟩ : ByteArray) ++ acc, Ev.succ ?_⟩
      simp only [laws_markText.l0]
      exact Ev.neg hz (Ev.pos (by omega) (Ev.is rfl))
theorem markText_ex (a : Int) (h : a ≤ 4611686018427387904) : ∃ s, Ev (fun k => laws_markText.f k a) s := by
  unfold laws_markText.f
  by_cases hz : a ≤ 0
  · exact ⟨_, Ev.pos hz (Ev.is rfl)⟩
  · obtain ⟨s, hs⟩ := markText_any a.toNat a (⟨#[]⟩ : ByteArray) (Nat.le_refl _) (by omega) h (by simp [ByteArray.size]; omega)
    exact ⟨s, Ev.neg hz hs⟩
noncomputable def mt (a : Int) : ByteArray := if h : a ≤ 4611686018427387904 then (markText_ex a h).choose else ByteArray.empty
theorem mt_ev {a : Int} (h : a ≤ 4611686018427387904) : Ev (fun k => laws_markText.f k a) (mt a) := by
  unfold mt
  rw [dif_pos h]
  exact (markText_ex a h).choose_spec
end Go.Proofs.Ytcpcifgpcemaeaa.X
namespace Go.Proofs.Ytcpcifgpcemaeaa.X
open Go.RowKit Go.Proofs.YtcpcifgpcemaeaaW.PrintWords Go.Proofs.YtcpcifgpcemaeaaW.PrintLast Go.Proofs.YtcpcifgpcemaeaaW.PrintMore
attribute [local go_sem] xbin_geq xbin_leq xbin_gtr max2_int min2_int max_two min_two max_three min_three max_four min_four
set_option linter.unusedVariables false
set_option linter.unusedSimpArgs false
theorem held_IntS_loop (rest : List Int) : ∀ (pre : List Int) (m : Int), 0 ≤ m → m + 1 * (rest.length : Int) ≤ 4611686018427387904 → (pre ++ rest).length ≤ 9223372036854775807 →
    Ev (fun k => laws_heldIntS.l0 k (pre ++ mk_IntS rest m) m ((pre.length : Nat) : Int)) (m + 1 * (rest.length : Int)) := by
  induction rest with
  | nil =>
    intro pre m h0 h1 hl
    refine Ev.succ ?_
    simp only [laws_heldIntS.l0]
    exact Ev.neg (by simp [mk_IntS]) (Ev.is (by simp))
  | cons x rest ih =>
    intro pre m h0 h1 hl
    simp only [mk_IntS, List.length_cons] at h1 ⊢
    have hlt : ((pre.length : Nat) : Int) < ((pre ++ ((m)) :: mk_IntS rest (m + 1)).length : Int) := by simp; omega
    have hwp : wrap64 (((pre.length : Nat) : Int) + 1) = (((pre ++ [((m))]).length : Nat) : Int) := by rw [← len_snoc]; exact wrap_at (by simp at hl; omega)
    have hrd : rd (pre ++ ((m)) :: mk_IntS rest (m + 1)) ((pre.length : Nat) : Int) = ((m)) := by simp [rd, List.getD_eq_getElem?_getD]
    have w1 : wrap64 (m + 1) = m + 1 := (wrap_id (by omega) (by omega)).trans (by omega)
    have hi := ih (pre ++ [((m))]) (m + 1) (by omega) (by omega) (by simpa using hl)
    have e3 : pre ++ ((m)) :: mk_IntS rest (m + 1) = (pre ++ [((m))]) ++ mk_IntS rest (m + 1) := by simp
    rw [← e3] at hi
    refine Ev.succ ?_
    simp only [laws_heldIntS.l0, hrd, hwp, w1]
    refine Ev.pos hlt (Ev.pos (by omega) ?_)
    repeat (first | refine Ev.bind (mt_ev (by omega)) ?_ | refine Ev.pos trivial ?_ | refine Ev.pos rfl ?_ | refine Ev.neg (by simp) ?_)
    exact Ev.same hi (by omega)
theorem held_IntS (l : List Int) (m : Int) (h0 : 0 ≤ m) (h1 : m + 1 * (l.length : Int) ≤ 4611686018427387904) (hl : l.length ≤ 9223372036854775807) : Ev (fun k => laws_heldIntS.f k (mk_IntS l m) m) (m + 1 * (l.length : Int)) := by
  unfold laws_heldIntS.f
  have h := held_IntS_loop l [] m h0 h1 (by simpa using hl)
  simpa using h
end Go.Proofs.Ytcpcifgpcemaeaa.X
namespace Go.Proofs.Ytcpcifgpcemaeaa.X
open Go.RowKit Go.Proofs.YtcpcifgpcemaeaaW.PrintWords Go.Proofs.YtcpcifgpcemaeaaW.PrintLast Go.Proofs.YtcpcifgpcemaeaaW.PrintMore
attribute [local go_sem] xbin_geq xbin_leq xbin_gtr max2_int min2_int max_two min_two max_three min_three max_four min_four
set_option linter.unusedVariables false
set_option linter.unusedSimpArgs false
noncomputable def mk_PendingS : List S95 → Int → List S95
  | [], _ => []
  | _ :: xs, m => ⟨(m), mt (m + 1)⟩ :: mk_PendingS xs (m + 2)
theorem mark_PendingS_loop (rest : List S95) : ∀ (pre : List S95) (m : Int), 0 ≤ m → m + 2 * (rest.length : Int) ≤ 4611686018427387904 → (pre ++ rest).length ≤ 9223372036854775807 →
    Ev (fun k => laws_markPendingS.l0 k (pre ++ rest) m ((pre.length : Nat) : Int)) (m + 2 * (rest.length : Int), pre ++ mk_PendingS rest m) := by
  induction rest with
  | nil =>
    intro pre m h0 h1 hl
    refine Ev.succ ?_
    simp only [laws_markPendingS.l0]
    exact Ev.neg (by simp) (Ev.is (by simp [mk_PendingS]))
  | cons x rest ih =>
    intro pre m h0 h1 hl
    have hlt : ((pre.length : Nat) : Int) < ((pre ++ x :: rest).length : Int) := by simp; omega
    have hwp : ∀ v : S95, wrap64 (((pre.length : Nat) : Int) + 1) = (((pre ++ [v]).length : Nat) : Int) := fun v => by rw [← len_snoc]; exact wrap_at (by simp at hl; omega)
    have hset : ∀ v u : S95, (pre ++ u :: rest).set ((pre.length : Nat) : Int).toNat v = pre ++ v :: rest := fun v u => by rw [Int.toNat_natCast]; exact set_mid pre u v rest
    have hrd : ∀ u : S95, rd_T95 (pre ++ u :: rest) ((pre.length : Nat) : Int) = u := fun u => by simp [rd_T95, List.getD_eq_getElem?_getD]
    simp only [List.length_cons] at h1
    have w1 : wrap64 (m + 1) = m + 1 := (wrap_id (by omega) (by omega)).trans (by omega)
    have w2 : wrap64 ((m + 1) + 1) = m + 2 := (wrap_id (by omega) (by omega)).trans (by omega)
    have hi := ih (pre ++ [⟨(m), mt (m + 1)⟩]) (m + 2) (by omega) (by omega) (by simpa using hl)
    refine Ev.succ ?_
    simp only [laws_markPendingS.l0, w1, w2]
    refine Ev.pos hlt ?_
    refine Ev.pos (show (0 : Int) ≤ ((pre.length : Nat) : Int) by omega) ?_
    refine Ev.bindk rfl ?_
    refine Ev.bind (mt_ev (by omega)) ?_
    simp only [hset, hrd]
    rw [hwp (⟨(m), mt (m + 1)⟩)]
    have e3 : pre ++ (⟨(m), mt (m + 1)⟩ : S95) :: rest = (pre ++ [⟨(m), mt (m + 1)⟩]) ++ rest := by simp
    have e4 : (m + 2 + 2 * (rest.length : Int), (pre ++ [⟨(m), mt (m + 1)⟩]) ++ mk_PendingS rest (m + 2)) = (m + 2 * (((x :: rest).length : Nat) : Int), pre ++ mk_PendingS (x :: rest) m) := by
      refine Prod.ext ?_ ?_
      · simp only [List.length_cons]; omega
      · simp [mk_PendingS]
    rw [← e4, e3]
    exact hi
theorem mark_PendingS (l : List S95) (m : Int) (h0 : 0 ≤ m) (h1 : m + 2 * (l.length : Int) ≤ 4611686018427387904) (hl : l.length ≤ 9223372036854775807) : Ev (fun k => laws_markPendingS.f k l m) (m + 2 * (l.length : Int), mk_PendingS l m) := by
  unfold laws_markPendingS.f
  have h := mark_PendingS_loop l [] m h0 h1 (by simpa using hl)
  simpa using h
end Go.Proofs.Ytcpcifgpcemaeaa.X
namespace Go.Proofs.Ytcpcifgpcemaeaa.X
open Go.RowKit Go.Proofs.YtcpcifgpcemaeaaW.PrintWords Go.Proofs.YtcpcifgpcemaeaaW.PrintLast Go.Proofs.YtcpcifgpcemaeaaW.PrintMore
attribute [local go_sem] xbin_geq xbin_leq xbin_gtr max2_int min2_int max_two min_two max_three min_three max_four min_four
set_option linter.unusedVariables false
set_option linter.unusedSimpArgs false
theorem held_PendingS_loop (rest : List S95) : ∀ (pre : List S95) (m : Int), 0 ≤ m → m + 2 * (rest.length : Int) ≤ 4611686018427387904 → (pre ++ rest).length ≤ 9223372036854775807 →
    Ev (fun k => laws_heldPendingS.l0 k (pre ++ mk_PendingS rest m) m ((pre.length : Nat) : Int)) (m + 2 * (rest.length : Int)) := by
  induction rest with
  | nil =>
    intro pre m h0 h1 hl
    refine Ev.succ ?_
    simp only [laws_heldPendingS.l0]
    exact Ev.neg (by simp [mk_PendingS]) (Ev.is (by simp))
  | cons x rest ih =>
    intro pre m h0 h1 hl
    simp only [mk_PendingS, List.length_cons] at h1 ⊢
    have hlt : ((pre.length : Nat) : Int) < ((pre ++ (⟨(m), mt (m + 1)⟩ : S95) :: mk_PendingS rest (m + 2)).length : Int) := by simp; omega
    have hwp : wrap64 (((pre.length : Nat) : Int) + 1) = (((pre ++ [(⟨(m), mt (m + 1)⟩ : S95)]).length : Nat) : Int) := by rw [← len_snoc]; exact wrap_at (by simp at hl; omega)
    have hrd : rd_T95 (pre ++ (⟨(m), mt (m + 1)⟩ : S95) :: mk_PendingS rest (m + 2)) ((pre.length : Nat) : Int) = (⟨(m), mt (m + 1)⟩ : S95) := by simp [rd_T95, List.getD_eq_getElem?_getD]
    have w1 : wrap64 (m + 1) = m + 1 := (wrap_id (by omega) (by omega)).trans (by omega)
    have w2 : wrap64 ((m + 1) + 1) = m + 2 := (wrap_id (by omega) (by omega)).trans (by omega)
    have hi := ih (pre ++ [(⟨(m), mt (m + 1)⟩ : S95)]) (m + 2) (by omega) (by omega) (by simpa using hl)
    have e3 : pre ++ (⟨(m), mt (m + 1)⟩ : S95) :: mk_PendingS rest (m + 2) = (pre ++ [(⟨(m), mt (m + 1)⟩ : S95)]) ++ mk_PendingS rest (m + 2) := by simp
    rw [← e3] at hi
    refine Ev.succ ?_
    simp only [laws_heldPendingS.l0, hrd, hwp, w1, w2]
    refine Ev.pos hlt (Ev.pos (by omega) ?_)
    repeat (first | refine Ev.bind (mt_ev (by omega)) ?_ | refine Ev.pos trivial ?_ | refine Ev.pos rfl ?_ | refine Ev.neg (by simp) ?_)
    exact Ev.same hi (by omega)
theorem held_PendingS (l : List S95) (m : Int) (h0 : 0 ≤ m) (h1 : m + 2 * (l.length : Int) ≤ 4611686018427387904) (hl : l.length ≤ 9223372036854775807) : Ev (fun k => laws_heldPendingS.f k (mk_PendingS l m) m) (m + 2 * (l.length : Int)) := by
  unfold laws_heldPendingS.f
  have h := held_PendingS_loop l [] m h0 h1 (by simpa using hl)
  simpa using h
end Go.Proofs.Ytcpcifgpcemaeaa.X
namespace Go.Proofs.Ytcpcifgpcemaeaa.X
open Go.RowKit Go.Proofs.YtcpcifgpcemaeaaW.PrintWords Go.Proofs.YtcpcifgpcemaeaaW.PrintLast Go.Proofs.YtcpcifgpcemaeaaW.PrintMore
attribute [local go_sem] xbin_geq xbin_leq xbin_gtr max2_int min2_int max_two min_two max_three min_three max_four min_four
set_option linter.unusedVariables false
set_option linter.unusedSimpArgs false
noncomputable def mk_StringS : List ByteArray → Int → List ByteArray
  | [], _ => []
  | _ :: xs, m => mt m :: mk_StringS xs (m + 1)
theorem mark_StringS_loop (rest : List ByteArray) : ∀ (pre : List ByteArray) (m : Int), 0 ≤ m → m + 1 * (rest.length : Int) ≤ 4611686018427387904 → (pre ++ rest).length ≤ 9223372036854775807 →
    Ev (fun k => laws_markStringS.l0 k (pre ++ rest) m ((pre.length : Nat) : Int)) (m + 1 * (rest.length : Int), pre ++ mk_StringS rest m) := by
  induction rest with
  | nil =>
    intro pre m h0 h1 hl
    refine Ev.succ ?_
    simp only [laws_markStringS.l0]
    exact Ev.neg (by simp) (Ev.is (by simp [mk_StringS]))
  | cons x rest ih =>
    intro pre m h0 h1 hl
    have hlt : ((pre.length : Nat) : Int) < ((pre ++ x :: rest).length : Int) := by simp; omega
    have hwp : ∀ v : ByteArray, wrap64 (((pre.length : Nat) : Int) + 1) = (((pre ++ [v]).length : Nat) : Int) := fun v => by rw [← len_snoc]; exact wrap_at (by simp at hl; omega)
    have hset : ∀ v u : ByteArray, (pre ++ u :: rest).set ((pre.length : Nat) : Int).toNat v = pre ++ v :: rest := fun v u => by rw [Int.toNat_natCast]; exact set_mid pre u v rest
    have hrd : ∀ u : ByteArray, rdOf ByteArray.empty (pre ++ u :: rest) ((pre.length : Nat) : Int) = u := fun u => by simp [rdOf, List.getD_eq_getElem?_getD]
    simp only [List.length_cons] at h1
    have w1 : wrap64 (m + 1) = m + 1 := (wrap_id (by omega) (by omega)).trans (by omega)
    have hi := ih (pre ++ [mt m]) (m + 1) (by omega) (by omega) (by simpa using hl)
    refine Ev.succ ?_
    simp only [laws_markStringS.l0, w1]
    refine Ev.pos hlt ?_
    refine Ev.bind (mt_ev (by omega)) ?_
    refine Ev.pos (show (0 : Int) ≤ ((pre.length : Nat) : Int) by omega) ?_
    simp only [hset, hrd]
    rw [hwp (mt m)]
    have e3 : pre ++ (mt m : ByteArray) :: rest = (pre ++ [mt m]) ++ rest := by simp
    have e4 : (m + 1 + 1 * (rest.length : Int), (pre ++ [mt m]) ++ mk_StringS rest (m + 1)) = (m + 1 * (((x :: rest).length : Nat) : Int), pre ++ mk_StringS (x :: rest) m) := by
      refine Prod.ext ?_ ?_
      · simp only [List.length_cons]; omega
      · simp [mk_StringS]
    rw [← e4, e3]
    exact hi
theorem mark_StringS (l : List ByteArray) (m : Int) (h0 : 0 ≤ m) (h1 : m + 1 * (l.length : Int) ≤ 4611686018427387904) (hl : l.length ≤ 9223372036854775807) : Ev (fun k => laws_markStringS.f k l m) (m + 1 * (l.length : Int), mk_StringS l m) := by
  unfold laws_markStringS.f
  have h := mark_StringS_loop l [] m h0 h1 (by simpa using hl)
  simpa using h
end Go.Proofs.Ytcpcifgpcemaeaa.X
namespace Go.Proofs.Ytcpcifgpcemaeaa.X
open Go.RowKit Go.Proofs.YtcpcifgpcemaeaaW.PrintWords Go.Proofs.YtcpcifgpcemaeaaW.PrintLast Go.Proofs.YtcpcifgpcemaeaaW.PrintMore
attribute [local go_sem] xbin_geq xbin_leq xbin_gtr max2_int min2_int max_two min_two max_three min_three max_four min_four
set_option linter.unusedVariables false
set_option linter.unusedSimpArgs false
theorem held_StringS_loop (rest : List ByteArray) : ∀ (pre : List ByteArray) (m : Int), 0 ≤ m → m + 1 * (rest.length : Int) ≤ 4611686018427387904 → (pre ++ rest).length ≤ 9223372036854775807 →
    Ev (fun k => laws_heldStringS.l0 k (pre ++ mk_StringS rest m) m ((pre.length : Nat) : Int)) (m + 1 * (rest.length : Int)) := by
  induction rest with
  | nil =>
    intro pre m h0 h1 hl
    refine Ev.succ ?_
    simp only [laws_heldStringS.l0]
    exact Ev.neg (by simp [mk_StringS]) (Ev.is (by simp))
  | cons x rest ih =>
    intro pre m h0 h1 hl
    simp only [mk_StringS, List.length_cons] at h1 ⊢
    have hlt : ((pre.length : Nat) : Int) < ((pre ++ (mt m) :: mk_StringS rest (m + 1)).length : Int) := by simp; omega
    have hwp : wrap64 (((pre.length : Nat) : Int) + 1) = (((pre ++ [(mt m)]).length : Nat) : Int) := by rw [← len_snoc]; exact wrap_at (by simp at hl; omega)
    have hrd : rdOf ByteArray.empty (pre ++ (mt m) :: mk_StringS rest (m + 1)) ((pre.length : Nat) : Int) = (mt m) := by simp [rdOf, List.getD_eq_getElem?_getD]
    have w1 : wrap64 (m + 1) = m + 1 := (wrap_id (by omega) (by omega)).trans (by omega)
    have hi := ih (pre ++ [(mt m)]) (m + 1) (by omega) (by omega) (by simpa using hl)
    have e3 : pre ++ (mt m) :: mk_StringS rest (m + 1) = (pre ++ [(mt m)]) ++ mk_StringS rest (m + 1) := by simp
    rw [← e3] at hi
    refine Ev.succ ?_
    simp only [laws_heldStringS.l0, hrd, hwp, w1]
    refine Ev.pos hlt (Ev.pos (by omega) ?_)
    repeat (first | refine Ev.bind (mt_ev (by omega)) ?_ | refine Ev.pos trivial ?_ | refine Ev.pos rfl ?_ | refine Ev.neg (by simp) ?_)
    exact Ev.same hi (by omega)
theorem held_StringS (l : List ByteArray) (m : Int) (h0 : 0 ≤ m) (h1 : m + 1 * (l.length : Int) ≤ 4611686018427387904) (hl : l.length ≤ 9223372036854775807) : Ev (fun k => laws_heldStringS.f k (mk_StringS l m) m) (m + 1 * (l.length : Int)) := by
  unfold laws_heldStringS.f
  have h := held_StringS_loop l [] m h0 h1 (by simpa using hl)
  simpa using h
end Go.Proofs.Ytcpcifgpcemaeaa.X
namespace Go.Proofs.Ytcpcifgpcemaeaa.X
open Go.RowKit Go.Proofs.YtcpcifgpcemaeaaW.PrintWords Go.Proofs.YtcpcifgpcemaeaaW.PrintLast Go.Proofs.YtcpcifgpcemaeaaW.PrintMore
attribute [local go_sem] xbin_geq xbin_leq xbin_gtr max2_int min2_int max_two min_two max_three min_three max_four min_four
set_option linter.unusedVariables false
set_option linter.unusedSimpArgs false
theorem mark_Disk (x : S26) (m : Int) (h0 : 0 ≤ m) (h1 : m + 1 * (x.f0.length : Int) + 2 * (x.f1.length : Int) + 1 * (x.f3.length : Int) ≤ 4611686018427387904) (l0 : x.f0.length ≤ 9223372036854775807) (l1 : x.f1.length ≤ 9223372036854775807) (l3 : x.f3.length ≤ 9223372036854775807) :
    Ev (fun k => laws_markDisk.f k x.f0 x.f1 x.f2 x.f3 m) (m + 1 * (x.f0.length : Int) + 2 * (x.f1.length : Int) + 1 * (x.f3.length : Int), mk_StringS x.f0 m, mk_PendingS x.f1 (m + 1 * (x.f0.length : Int)), mk_IntS x.f3 (m + 1 * (x.f0.length : Int) + 2 * (x.f1.length : Int))) := by
  unfold laws_markDisk.f
  exact Ev.bind (mark_StringS _ m h0 (by omega) l0) (Ev.bind (mark_PendingS _ _ (by simp only; omega) (by simp only; omega) l1) (Ev.bind (mark_IntS _ _ (by simp only; omega) (by simp only; omega) l3) (Ev.is rfl)))
theorem held_Disk (x : S26) (m : Int) (h0 : 0 ≤ m) (h1 : m + 1 * (x.f0.length : Int) + 2 * (x.f1.length : Int) + 1 * (x.f3.length : Int) ≤ 4611686018427387904) (l0 : x.f0.length ≤ 9223372036854775807) (l1 : x.f1.length ≤ 9223372036854775807) (l3 : x.f3.length ≤ 9223372036854775807) :
    Ev (fun k => laws_heldDisk.f k (mk_StringS x.f0 m) (mk_PendingS x.f1 (m + 1 * (x.f0.length : Int))) x.f2 (mk_IntS x.f3 (m + 1 * (x.f0.length : Int) + 2 * (x.f1.length : Int))) m) (m + 1 * (x.f0.length : Int) + 2 * (x.f1.length : Int) + 1 * (x.f3.length : Int)) := by
  unfold laws_heldDisk.f
  exact Ev.bind (held_StringS _ m h0 (by omega) l0) (Ev.neg (by omega) (Ev.bind (held_PendingS _ _ (by omega) (by omega) l1) (Ev.neg (by omega) (Ev.bind (held_IntS _ _ (by omega) (by omega) l3) (Ev.neg (by omega) (Ev.is rfl))))))
end Go.Proofs.Ytcpcifgpcemaeaa.X
namespace Go.Proofs.Ytcpcifgpcemaeaa.X
open Go.RowKit Go.Proofs.YtcpcifgpcemaeaaW.PrintWords Go.Proofs.YtcpcifgpcemaeaaW.PrintLast Go.Proofs.YtcpcifgpcemaeaaW.PrintMore
attribute [local go_sem] xbin_geq xbin_leq xbin_gtr max2_int min2_int max_two min_two max_three min_three max_four min_four
set_option linter.unusedVariables false
set_option linter.unusedSimpArgs false
theorem eq_IntS_loop (rest : List Int) : ∀ (pre : List Int), (pre ++ rest).length ≤ 9223372036854775807 → (True) → Ev (fun k => laws_eqIntS.l0 k (pre ++ rest) (pre ++ rest) ((pre.length : Nat) : Int)) true := by
  induction rest with
  | nil =>
    intro pre hl hs
    refine Ev.succ ?_
    simp only [laws_eqIntS.l0]
    exact Ev.neg (by simp) (Ev.is rfl)
  | cons x rest ih =>
    intro pre hl hs
    have hx : rd (pre ++ x :: rest) ((pre.length : Nat) : Int) = x := by simp [rd, List.getD_eq_getElem?_getD]
    have hlt : ((pre.length : Nat) : Int) < ((pre ++ x :: rest).length : Int) := by simp; omega
    have hwp : wrap64 (((pre.length : Nat) : Int) + 1) = (((pre ++ [x]).length : Nat) : Int) := by rw [← len_snoc]; exact wrap_at (by simp at hl; omega)
    have e1 : pre ++ x :: rest = (pre ++ [x]) ++ rest := by simp
    have hi := ih (pre ++ [x]) (by rw [← e1]; exact hl) trivial
    rw [← e1] at hi
    refine Ev.succ ?_
    simp only [laws_eqIntS.l0, hx, hwp]
    exact Ev.pos hlt (Ev.pos (by omega) (Ev.pos hlt (Ev.pos (by first | trivial | rfl) hi)))
theorem eq_IntS (l : List Int) (h : l.length ≤ 9223372036854775807) : Ev (fun k => laws_eqIntS.f k l l) true := by
  unfold laws_eqIntS.f
  have hh := eq_IntS_loop l [] (by simpa using h) trivial
  exact Ev.pos rfl (by simpa using hh)
end Go.Proofs.Ytcpcifgpcemaeaa.X
namespace Go.Proofs.Ytcpcifgpcemaeaa.X
open Go.RowKit Go.Proofs.YtcpcifgpcemaeaaW.PrintWords Go.Proofs.YtcpcifgpcemaeaaW.PrintLast Go.Proofs.YtcpcifgpcemaeaaW.PrintMore
attribute [local go_sem] xbin_geq xbin_leq xbin_gtr max2_int min2_int max_two min_two max_three min_three max_four min_four
set_option linter.unusedVariables false
set_option linter.unusedSimpArgs false
def len95 (x : S95) : Prop := True ∧ True
theorem eq_Pending (x : S95) (h : len95 x) : Ev (fun k => laws_eqPending.f (x.f0) (x.f1) (x.f0) (x.f1)) true := by
  unfold laws_eqPending.f
  exact Ev.pos rfl (Ev.pos rfl (Ev.is rfl))
end Go.Proofs.Ytcpcifgpcemaeaa.X
