import Derived.Test.YtcdokcpiahbejaaKFnRefs11
namespace Go.Proofs.Ytcdokcpiahbejaa.X
open Go.RowKit Go.Proofs.YtcdokcpiahbejaaW.PrintWords Go.Proofs.YtcdokcpiahbejaaW.PrintLast Go.Proofs.YtcdokcpiahbejaaW.PrintMore
attribute [local go_sem] qax qay qaz qat qau qaJ qaK qam qan qav qaw
set_option linter.unusedVariables false
set_option linter.unusedSimpArgs false
structure GoodF (h : List S75) (root kept : Int) (i : Nat) : Prop where
 len : h.length = 50
 tiny : TinyN h
 root : ∃ d ps pg, 1 ≤ d ∧ d + i ≤ 20 ∧ qcW h d root ps pg ∧ Fine ps ∧ ps.length + i ≤ 19
 kept : ∃ d ps pg, d ≤ 21 ∧ qcW h d kept ps pg ∧ Fine ps ∧ ps.length ≤ 19
def qbh (h : List S75) (root kept : Int) (drop : Bool) (key v : ByteArray) : List S75 × Int × Bool := qbC h root (qcf h [root, kept]) (dopB drop key v) key [⟨key, v⟩]
theorem qhB (h : List S75) (a b : Int) : qcf h [a, b] = orW (orW noneW (walkR h a).2.1) (walkR h b).2.1 := rfl
theorem qjV {pg : List Nat} {i : Nat} (hi : i ∈ pg) (h : i < 50) : qbj (markL noneW pg) i := by
 unfold qbj;rw [List.getD_eq_getElem?_getD, qdE pg noneW i (by unfold noneW; rw [List.length_replicate]; exact h), decide_eq_true hi, Bool.or_true];rfl
theorem PD_pages {T : Nat → List S77 → List Nat → Prop} {P : Nat → Prop} (hT : ∀ k p g, T k p g → ∀ i, i ∈ g → P i) : ∀ (ms : List (ByteArray × Nat)) (ps : List S77) (pg : List Nat), PD T ms ps pg → ∀ i, i ∈ pg → P i := by
 intro ms
 induction ms with
 | nil => intro ps pg h i hi; obtain ⟨_, rfl⟩ := h; cases hi
 | cons m r ih =>
  intro ps pg h i hi;obtain ⟨p1, p2, g1, g2, e1, e2, h1, h2, h3⟩ := h;rw [e2] at hi
  rcases List.mem_append.1 hi with hi | hi
  ·exact hT _ _ _ h1 i hi
  ·exact ih p2 g2 h3 i hi
theorem TrD_page {ns : List S75} : ∀ (d k : Nat) (ps : List S77) (pg : List Nat), TrD ns d k ps pg → ∀ i, i ∈ pg → i < ns.length := by
 intro d
 induction d with
 | zero => intro k ps pg h; exact h.elim
 | succ d ih =>
  intro k ps pg h i hi;obtain ⟨x, hx, _, _, h⟩ := h;have hk : k < ns.length := by
   rcases Nat.lt_or_ge k ns.length with h1 | h1
   ·exact h1
   ·rw [List.getElem?_eq_none h1] at hx; cases hx
  rcases h with ⟨_, _, rfl⟩ | ⟨_, pg', rfl, hp⟩
  ·obtain rfl := List.mem_singleton.1 hi; exact hk
  ·rcases List.mem_cons.1 hi with rfl | hi
   ·exact hk
   ·exact PD_pages (P := fun i => i < ns.length) (fun k p g => ih k p g) _ _ _ hp i hi
theorem qdp {ns : List S75} {d : Nat} {r : Int} {ps : List S77} {pg : List Nat} (h : qcW ns d r ps pg) : ∀ i, i ∈ pg → i < ns.length := by
 rcases h with ⟨_, _, rfl⟩ | ⟨k, _, ht, _⟩
 ·intro i hi; cases hi
 ·exact TrD_page _ _ _ _ ht
theorem qh4 {ns : List S75} {d e : Nat} {r : Int} {ps : List S77} {pg : List Nat} (hd : d ≤ e) (h : qcW ns d r ps pg) : qcW ns e r ps pg := by
 rcases h with h | ⟨k, e1, ht, hn⟩
 ·exact .inl h
 ·exact .inr ⟨k, e1, qiu hd ht, hn⟩
theorem qez {h : List S75} {d : Nat} {r : Int} {ps : List S77} {pg : List Nat} (hl : h.length = 50) (hd : d ≤ 21) (ht : qcW h d r ps pg) (hf : Fine ps) (hp : ps.length ≤ 60) : ∀ i, i ∈ pg → qbj (walkR h r).2.1 i := by
 intro i hi;rw [qej hl hd ht hf hp];exact qjV hi (by have := qdp ht i hi; omega)
theorem qgM {h : List S75} {a b : Int} {i : Nat} (hi : i < 50) (hu : qbj (walkR h a).2.1 i ∨ qbj (walkR h b).2.1 i) : qbj (qcf h [a, b]) i := by
 rw [qhB, qdS hi, qdS hi]
 rcases hu with hu | hu
 ·exact .inl (.inr hu)
 ·exact .inr hu
theorem qhC (drop : Bool) {key v : ByteArray} (hk : keyB key = true) (hv : v.size ≤ 90) : LocalOp (dopB drop key v) key := by
 cases drop with
 | true => exact qiR key
 | false => exact qjL key v hk hv
theorem qgN (drop : Bool) (key v : ByteArray) (l : List S77) : (dopB drop key v l).length ≤ l.length + 1 := by
 unfold dopB
 split
 ·have := qjM key l;omega
 ·have h_ := qdP l key v
  split at h_ <;> omega
theorem has_none (key : ByteArray) : hasAt ([] : List S77) key = false := by
 cases h : hasAt ([] : List S77) key with
 | false => rfl
 | true => have := qfl h; simp at this
theorem qhD {hs : List S75} {root : Int} {keep : List Bool} {drop : Bool} {key v : ByteArray} (ht : TinyN hs) : TinyN (qbC hs root keep (dopB drop key v) key [⟨key, v⟩]).1 := by
 unfold qbC
 split
 ·exact ht
 ·refine qfL ?_;have h5 : TinyN (onlyN hs keep) := qfL ht;unfold qbX;refine qhy ?_ ?_
  ·split
   ·exact qex _ _
   ·exact qdo _ _ _ _ _
  ·split
   ·exact qey zbW h5
   ·exact qfO (fun l => qgN drop key v l) _ _ _ h5
theorem fine_one {key v : ByteArray} (hk : keyB key = true) (hv : v.size ≤ 90) : Fine [(⟨key, v⟩ : S77)] := qir (l := []) ⟨fun p hp => (by cases hp), List.Pairwise.nil⟩ hk hv
theorem qiX {h : List S75} {root : Int} {keep : List Bool} {drop : Bool} {key v : ByteArray} (hd : drop = true → root ≠ -1) : qbC h root keep (dopB drop key v) key [⟨key, v⟩] = qbC h root keep (dopB drop key v) key (dopB drop key v []) := by
 cases drop with
 | false => rfl
 | true =>
  have hr := hd rfl;unfold qbC qbX;rw [if_neg hr, if_neg hr]
theorem GoodF.used {h : List S75} {root kept : Int} {i : Nat} (hg : GoodF h root kept i) {d : Nat} {ps : List S77} {pg : List Nat} (hd : d ≤ 21) (ht : qcW h d root ps pg) (hf : Fine ps) (hl : ps.length ≤ 60) : ∀ j, j ∈ pg → qbj (qcf h [root, kept]) j := fun j hj => qgM (by have := qdp ht j hj; rw [hg.len] at this; exact this) (.inl (qez hg.len hd ht hf hl j hj))
theorem good_step {h : List S75} {root kept : Int} {i : Nat} {drop : Bool} {key v : ByteArray} (hg : GoodF h root kept (i + 1)) (hk : keyB key = true) (hv : v.size ≤ 90) (hd : drop = true → hasAt (walkR h root).1 key = true) :
  GoodF (qbh h root kept drop key v).1 (qbh h root kept drop key v).2.1 kept i ∧ GoodF (qbh h root kept drop key v).1 (qbh h root kept drop key v).2.1 (qbh h root kept drop key v).2.1 i := by
 obtain ⟨d, ps, pg, d1, d2, ht, hf, hl⟩ := hg.root;obtain ⟨e, ps2, SP, e1, ht2, hf2, hl2⟩ := hg.kept;have hw := qej hg.len zbV ht hf zbV;have hu : ∀ j, j ∈ pg → qbj (qcf h [root, kept]) j := fun j hj => qgM (by have := qdp ht j hj; rw [hg.len] at this; exact this) (.inl (qez hg.len zbV ht hf zbV j hj))
 have hu2 : ∀ j, j ∈ SP → qbj (qcf h [root, kept]) j := fun j hj => qgM (by have := qdp ht2 j hj; rw [hg.len] at this; exact this) (.inr (qez hg.len e1 ht2 hf2 zbV j hj))
 have hdr : drop = true → root ≠ -1 := fun h1 h2 => by
  have h3 := hd h1;have h4 : (walkR h root).1 = [] := by
   rw [hw]
   rcases ht with ⟨_, rfl, _⟩ | ⟨k, hk1, _, _⟩
   ·rfl
   ·omega
  rw [h4, has_none] at h3
  cases h3
 cases hr : (qbh h root kept drop key v).2.2 with
 | false =>
  have he : qbh h root kept drop key v = (h, root, false) := by
   unfold qbh qbC at hr ⊢
   split at hr
   ·rename_i hc; rw [if_pos hc]
   ·cases hr
  rw [he];exact ⟨⟨hg.len, hg.tiny, ⟨d, ps, pg, d1, zbV, ht, hf, zbV⟩, hg.kept⟩, ⟨hg.len, hg.tiny, ⟨d, ps, pg, d1, zbV, ht, hf, zbV⟩, ⟨d, ps, pg, zbV, ht, hf, zbV⟩⟩⟩
 | true =>
  have hti : TinyN (qbh h root kept drop key v).1 := qhD hg.tiny;have hlo := qhC drop hk hv;have hps := qgN drop key v ps;have h0 := qgN drop key v [];unfold qbh at hr hti ⊢;rw [qiX hdr] at hr hti ⊢;obtain ⟨f, pg', f1, f2, ht', _, hl', hsame, hf', _⟩ := qiS hg.len (qdI _ _) ht hu hf hlo ⟨rfl, by simp at h0; omega⟩ (.inl ⟨d1, zbV⟩) zbV hr;have hroot : ∃ d ps pg, 1 ≤ d ∧ d + i ≤ 20 ∧ qcW (qbC h root (qcf h [root, kept]) (dopB drop key v) key (dopB drop key v [])).1 d (qbC h root (qcf h [root, kept]) (dopB drop key v) key (dopB drop key v [])).2.1 ps pg ∧ Fine ps ∧ ps.length + i ≤ 19 := ⟨f + 1 - min f 1, _, pg', zbV, zbV, qh4 zbV ht', hf', zbV⟩
  refine ⟨⟨hl', hti, hroot, ⟨e, ps2, SP, e1, qfb ht2 (fun j hj => hsame j (hu2 j hj)), hf2, hl2⟩⟩, ⟨hl', hti, hroot, ⟨f, _, pg', f1, ht', hf', zbV⟩⟩⟩
theorem good_start {h : List S75} (hl : h.length = 50) (ht : TinyN h) (i : Nat) (hi : i ≤ 19) : GoodF h (-1) (-1) i :=
 ⟨hl, ht, ⟨1, [], [], zbV, zbV, .inl ⟨rfl, rfl, rfl⟩, ⟨fun p hp => (by cases hp), List.Pairwise.nil⟩, by simpa using hi⟩, ⟨1, [], [], zbV, .inl ⟨rfl, rfl, rfl⟩, ⟨fun p hp => (by cases hp), List.Pairwise.nil⟩, zbW⟩⟩
def IsS94 (w0 W : World) (g : Nat) (f0 : List Int) (f1 : Int) (f2 : Int) : Prop := ∃ A0 c0, W.heap[g]? = some (.cells #[.slice A0 f0.length c0, .int .i64 f1, .int .i64 f2] 94 (0, 0)) ∧ w0.heap.size ≤ g ∧ Kd.C (Kd.int .u8) w0 A0 f0.length f0
theorem IsS94.grown {w0 W : World} {g : Nat} {f0 : List Int} {f1 : Int} {f2 : Int} {W1 : World} {row : Option Nat} (h : IsS94 w0 W g f0 f1 f2) (hw : W.grownBy W1 row) (hne : some g ≠ row) : IsS94 w0 W1 g f0 f1 f2 := by
 obtain ⟨A0, c0, hb, hg, hr0⟩ := h;exact ⟨A0, c0, qbd hb hw hne, hg, hr0⟩
theorem IsS94.kept {w0 W : World} {g : Nat} {f0 : List Int} {f1 : Int} {f2 : Int} {W1 : World} {S : Nat → Prop} (h : IsS94 w0 W g f0 f1 f2) (hk : Kept W W1 S) (hne : ¬ S g) : IsS94 w0 W1 g f0 f1 f2 := by
 obtain ⟨A0, c0, hb, hg, hr0⟩ := h;exact ⟨A0, c0, blk_kept hb hk hne, hg, hr0⟩
theorem IsS94.below {w0 W : World} {g : Nat} {f0 : List Int} {f1 : Int} {f2 : Int} {W1 : World} (h : IsS94 w0 W g f0 f1 f2) (hw : Below W.heap.size W W1) : IsS94 w0 W1 g f0 f1 f2 := h.grown (qel hw none) zbW
theorem IsS94.alloc {w0 W : World} {g : Nat} {f0 : List Int} {f1 : Int} {f2 : Int} (h : IsS94 w0 W g f0 f1 f2) (o : Obj) : IsS94 w0 (W.alloc o) g f0 f1 f2 := h.below (qas (Below.refl _ _) o)
theorem IsS94.drewN {w0 W : World} {g : Nat} {f0 : List Int} {f1 : Int} {f2 : Int} (h : IsS94 w0 W g f0 f1 f2) (m : Nat) : IsS94 w0 (W.drewN m) g f0 f1 f2 := h
theorem IsS94.drew {w0 W : World} {g : Nat} {f0 : List Int} {f1 : Int} {f2 : Int} (h : IsS94 w0 W g f0 f1 f2) : IsS94 w0 W.drew g f0 f1 f2 := h
theorem IsS94.at_ {w0 W : World} {g : Nat} {f0 : List Int} {f1 : Int} {f2 : Int} {w' : World} {m : Nat} (hq : W.drewN m = w') (h : IsS94 w0 W g f0 f1 f2) : IsS94 w0 w' g f0 f1 f2 := by subst hq; exact IsS94.drewN h m
theorem IsS94.apart {w0 W : World} {g : Nat} {f0 : List Int} {f1 : Int} {f2 : Int} {α : Type} {d : Kd α} {e : Nat} {base : Nat} {ok : Nat → Prop} {v : Value} {xs : List α} (h : IsS94 w0 W g f0 f1 f2) (ho : d.R e W base ok v xs) (ht : ∀ q, q ∈ e :: d.E → q ≠ 94) : d.R e W base (fun k => ok k ∧ k ≠ g) v xs := by
 obtain ⟨A0, c0, hb, hg, hr0⟩ := h;exact Kd.qbu ho hb ht
theorem IsS94.own_ne {w0 W : World} {g : Nat} {f0 : List Int} {f1 : Int} {f2 : Int} {α : Type} {d : Kd α} {e : Nat} {base : Nat} {ok : Nat → Prop} {v : Value} {xs : List α} (h : IsS94 w0 W g f0 f1 f2) (ho : d.R e W base ok v xs) (ht : e ≠ 94) : some g ≠ v.ownBlock := by
 obtain ⟨A0, c0, hb, hg, hr0⟩ := h;exact Kd.R_ne ho hb ht
theorem IsS94.lt {w0 W : World} {g : Nat} {f0 : List Int} {f1 : Int} {f2 : Int} (h : IsS94 w0 W g f0 f1 f2) : g < W.heap.size := by
 obtain ⟨A0, c0, hb, hg, hr0⟩ := h;exact qbH hb
theorem IsS94.ge {w0 W : World} {g : Nat} {f0 : List Int} {f1 : Int} {f2 : Int} (h : IsS94 w0 W g f0 f1 f2) : w0.heap.size ≤ g := by
 obtain ⟨A0, c0, hb, hg, hr0⟩ := h;exact hg
theorem IsS94.qiC {w0 W : World} {g : Nat} {f0 : List Int} {f1 : Int} {f2 : Int} {a : Nat} {cs : Array Value} {t : TypeId} {fr : Nat × Nat} (h : IsS94 w0 W g f0 f1 f2) (hb2 : W.heap[a]? = some (.cells cs t fr)) (ht : t ≠ 94) : g ≠ a := by
 obtain ⟨A0, c0, hb, hg, hr0⟩ := h;rintro rfl;rw [hb] at hb2;injection hb2 with hb2
 injection hb2 with _ ht2
 exact ht ht2.symm
theorem IsS94.far {w0 W : World} {g : Nat} {f0 : List Int} {f1 : Int} {f2 : Int} {p : Addr} (h : IsS94 w0 W g f0 f1 f2) (hne : g ≠ p.block) (u : Value) : IsS94 w0 (W.setCell p u) g f0 f1 f2 := by
 obtain ⟨A0, c0, hb, hg, hr0⟩ := h;exact ⟨A0, c0, qbF hb hne u, hg, hr0⟩
theorem IsS94.qff {w0 W : World} {g : Nat} {f0 : List Int} {f1 : Int} {f2 : Int} (h : IsS94 w0 W g f0 f1 f2) (x : Int) : IsS94 w0 (W.setCell ⟨g, 1, none⟩ (.int .i64 x)) g f0 x f2 := by
 obtain ⟨A0, c0, hb, hg, hr0⟩ := h;exact ⟨A0, c0, by simpa using qdg hb 1 (.int .i64 x), hg, hr0⟩
theorem IsS94.qfg {w0 W : World} {g : Nat} {f0 : List Int} {f1 : Int} {f2 : Int} (h : IsS94 w0 W g f0 f1 f2) (x : Int) : IsS94 w0 (W.setCell ⟨g, 2, none⟩ (.int .i64 x)) g f0 f1 x := by
 obtain ⟨A0, c0, hb, hg, hr0⟩ := h;exact ⟨A0, c0, by simpa using qdg hb 2 (.int .i64 x), hg, hr0⟩
theorem IsS94.new (w0 W : World) (A0 : Option Addr) (c0 : Nat) (f0 : List Int) (f1 : Int) (f2 : Int) (hB : Below w0.heap.size w0 W) (hr0 : Kd.C (Kd.int .u8) w0 A0 f0.length f0) : IsS94 w0 (W.alloc (.cells #[.slice A0 f0.length c0, .int .i64 f1, .int .i64 f2] 94)) W.heap.size f0 f1 f2 := ⟨A0, c0, by simpa using heap_alloc_new W _, hB.size, hr0⟩
def qct.f (l0 : List Int) : Option (List Int × Int × Int) := some (l0, 0, (l0.length : Int) % 1000)
set_option maxHeartbeats 8000000 in
set_option maxRecDepth 100000 in
theorem qct.calls (A0 : Option Addr) (c0 : Nat) (l0 : List Int) (r1 : List Int) (r2 : Int) (r3 : Int) (w0 w : World) (hB : Below w0.heap.size w0 w) (hr0 : Kd.C (Kd.int .u8) w0 A0 l0.length l0) (hc0 : l0.length ≤ c0) (h : qct.f l0 = some (r1, r2, r3)) :
  Calls Try.prog 23 #[.slice A0 l0.length c0] w fun e w' => ∃ g_ : Nat, e = .returned (.pointer (some ⟨g_, 0, none⟩)) ∧ IsS94 w0 w' g_ r1 r2 r3 ∧ Below w0.heap.size w0 w' ∧ Below w.heap.size w w' := by
 have hu94 := Try.underlying94;have I7 := z_ hr0;have OF := z_ hc0;clear hr0 hc0;have HBW := z_ (Below.refl w.heap.size w);have HW0 := z_ hB.size;have HB := z_ hB;clear hB;have H : (some (l0, 0, (l0.length : Int) % 1000)) = some (r1, r2, r3) := h;clear h;simp only [Option.some.injEq, Prod.mk.injEq] at H;obtain ⟨rfl, rfl, rfl⟩ := H
 go_enter Try.func23, Try.ntmps23
 go_wp2_with (first | ((with_reducible refine qaG (N := 8) rfl ?_); refine qaS zbX (N := 8) zbX (cs := #[.slice A0 l0.length c0, .int .i64 0, .int .i64 ((l0.length : Int) % 1000)]) (t := 94) zbv ?_; intro LM hg w2 hbox hb; have H0 := z_ (qad HBW.o hb); have I0 := z_ (qad zaq hb); have K0 := z_ (hbox); have U0 := z_ ((zak : w.heap.size ≤ LM)); have N5 := z_ ((Nat.le_trans HW0.o (zak : w.heap.size ≤ LM) : w0.heap.size ≤ LM)); clear HBW HB; have HBW := H0; have HB := I0; have TZ := K0; have iY := U0; have pU := N5; clear H0 I0 K0 U0 N5; clear hb hbox hg))
 go_ret
 exact ⟨_, rfl, (show IsS94 w0 _ LM l0 0 ((l0.length : Int) % 1000) from ⟨_, _, by (with_reducible repeat (first | refine qaj ?_ _ | refine qai ?_ | refine qah ?_ _)); exact TZ.o, pU.o, I7.o⟩), zab pU.o, by repeat (first | (with_reducible first | exact HBW.o | apply qas | apply qaQ | apply qaP | refine qa4 ?_ iY.o) | exact HBW.o)⟩
def byteF (code : List Int) (n seed : Int) : Int × Int × Int :=
 if n + 1 ≤ (code.length : Int) then (rd code n, n + 1, Int.tmod (seed * 31 + rd code n + 7) 2147483648)
 else if 3000 < n + 1 then (0, n + 1, seed)
 else (Int.tmod (Int.tdiv (Int.tmod (seed * 1103515245 + 12345) 2147483648) 65536) 256, n + 1, Int.tmod (seed * 1103515245 + 12345) 2147483648)
def qcn (code : List Int) (n seed : Int) : Prop := (∀ c, c ∈ code → 0 ≤ c ∧ c < 256) ∧ 0 ≤ n ∧ n ≤ 1000000000000 ∧ 0 ≤ seed ∧ seed < 2147483648
instance srcFitsDec (code : List Int) (n seed : Int) : Decidable (qcn code n seed) := by unfold qcn; infer_instance
def qaZ.f (M1 : List Int) (N4 V1 : Int) : Option (Int × Int × Int) := if qcn M1 N4 V1 then some (byteF M1 N4 V1) else none
def qbG.T2 : Bool × List (List Nat × List Nat) := (true, [([], []), ([0], [0]), ([1], [1]), ([2], [2]), ([], []), ([4], [4]), ([5], [5]), ([6], [6]), ([7], [7]), ([3, 8], [3, 8])])
def qbG.B2 : List Nat := [0, 1, 3, 7, 0, 16, 48, 112, 240, 511]
theorem qbG.tab2 : rtab .any (opsOf Try.f82 2) = qbG.T2 := zbS
theorem qbG.bits2 : qbv qbG.T2.2 qbG.B2 = true := zbS
def qbG.T3 : Bool × List (List Nat × List Nat) := (true, [([], []), ([], []), ([1], [1]), ([2], [2]), ([3], [3]), ([4], [4]), ([], []), ([6], [6]), ([7], [7]), ([8], [8]), ([], []), ([10], [10]), ([11], [11]), ([12], [12]), ([13], [13]), ([9, 14], [9, 14]), ([15], [15]), ([16], [16]), ([5, 17], [5, 17]), ([18], [18]), ([19], [19]), ([0, 0, 1, 2, 3, 4, 5, 6, 7, 8, 9, 10, 11, 12, 13, 14, 15, 16, 17, 18, 19, 20], [0]), ([21, 0, 1, 2, 3, 4, 5, 6, 7, 8, 9, 10, 11, 12, 13, 14, 15, 16, 17, 18, 19, 20], [21]), ([22, 20, 0, 1, 2, 3, 4, 5, 6, 7, 8, 9, 10, 11, 12, 13, 14, 15, 16, 17, 18, 19, 20], [20, 22])])
def qbG.B3 : List Nat := [0, 0, 2, 6, 14, 30, 0, 64, 192, 448, 0, 1024, 3072, 7168, 15360, 32704, 65472, 131008, 262142, 524286, 1048574, 2097151, 4194303, 8388607]
theorem qbG.tab3 : rtab .any (opsOf Try.f82 3) = qbG.T3 := zbS
theorem qbG.bits3 : qbv qbG.T3.2 qbG.B3 = true := zbS
def qbG.T4 : Bool × List (List Nat × List Nat) := (true, [([], []), ([0], [0]), ([1], [1]), ([2], [2]), ([], []), ([4], [4]), ([5], [5]), ([6], [6]), ([7], [7]), ([3, 8], [3, 8]), ([9], [9]), ([10], [10]), ([11, 0, 1, 2, 3, 4, 5, 6, 7, 8, 9, 10, 11], [11])])
def qbG.B4 : List Nat := [0, 1, 3, 7, 0, 16, 48, 112, 240, 511, 1023, 2047, 4095]
theorem qbG.tab4 : rtab .any (opsOf Try.f82 4) = qbG.T4 := zbS
theorem qbG.bits4 : qbv qbG.T4.2 qbG.B4 = true := zbS
set_option maxHeartbeats 16000000 in
set_option maxRecDepth 100000 in
theorem qaZ.calls (g : Nat) (M1 : List Int) (N4 : Int) (V1 : Int) (r1 : Int) (r2 : Int) (r3 : Int) (w0 w : World) (hI : IsS94 w0 w g M1 N4 V1) (hB : Below w0.heap.size w0 w) (h : qaZ.f M1 N4 V1 = some (r1, r2, r3)) :
  Calls Try.prog 82 #[.pointer (some ⟨g, 0, none⟩)] w fun e w' => e = .returned (.int .i64 r1) ∧ IsS94 w0 w' g M1 r2 r3 ∧ Below w0.heap.size w0 w' ∧ qaT w w' g none := by
 unfold qaZ.f at h
 by_cases hs : qcn M1 N4 V1
 case neg => rw [if_neg hs] at h; cases h
 rw [if_pos hs] at h;have h := Option.some.inj h;obtain ⟨hc, hn0, hn1, hs0, hs1⟩ := hs;obtain ⟨n, rfl⟩ : ∃ n : Nat, N4 = (n : Int) := ⟨N4.toNat, zbV⟩
 obtain ⟨A, c, hb, hg, hr⟩ := hI;have hu := Try.underlying94;have w1 : IntKind.i64.wrap ((n : Int) + 1) = (n : Int) + 1 := zbF;have HG := z_ hg;have HR := z_ hr;obtain ⟨d0, d1, d2, f1, f2⟩ : w.cell? ⟨g, 0, none⟩ = some (.slice A M1.length c) ∧ w.cell? ⟨g, 1, none⟩ = some (.int .i64 (n : Int)) ∧ w.cell? ⟨g, 2, none⟩ = some (.int .i64 V1) ∧ w.frozen? ⟨g, 1, none⟩ = false ∧ w.frozen? ⟨g, 2, none⟩ = false := ⟨qac hb 0, qac hb 1, qac hb 2, qab hb 1, qab hb 2⟩;obtain ⟨W1, hW1⟩ : ∃ W1, W1 = w.setCell ⟨g, 1, none⟩ (.int .i64 ((n : Int) + 1)) := ⟨_, rfl⟩
 have HB1 := z_ (show Below w0.heap.size w0 W1 from hW1 ▸ hB.setCell (p := ⟨g, 1, none⟩) hg _);have KB1 := z_ (show W1.heap[g]? = some (.cells #[.slice A M1.length c, .int .i64 ((n : Int) + 1), .int .i64 V1] 94 (0, 0)) from hW1 ▸ qdg hb 1 _);have q7 := z_ (show qaT w W1 g none from hW1 ▸ (qaT.refl w g none).set_ 1 _);have hm : M1.length ≤ 9223372036854775807 := hr.2.1;have HC := z_ hc;have HS := z_ (And.intro hs0 hs1);have HN := z_ (And.intro hn0 hn1);clear hb hg hr hB hc hs0 hs1 hn0 hn1 d0 d2 f2
 go_enter Try.func82, Try.ntmps82
 go_upto_region 2 with fail
 rw [← hW1];clear hW1 d1 f1;have sB := z_ (qai KB1.o);have HB2 := z_ (qaW HB1.o);have p7 := z_ (q7.o.trans (qaT.of_below (qaW (Below.refl _ _)) g none) (.inl rfl));clear KB1 HB1 q7
 by_cases hle : (n : Int) + 1 ≤ (M1.length : Int)
 ·have hE : (rd M1 (n : Int), (n : Int) + 1, Int.tmod (V1 * 31 + rd M1 (n : Int) + 7) 2147483648) = (r1, r2, r3) := by rw [← h]; unfold byteF; rw [if_pos hle]
  have c1 : decide ((n : Int) + 1 ≤ (M1.length : Int)) = true := decide_eq_true hle;have CL := z_ c1;obtain ⟨ad, eA, hx⟩ := Kd.qbN HR.o (n : Int) zbV zbV;subst eA;rw [Int.toNat_natCast] at hx;have hbt : 0 ≤ rd M1 (n : Int) ∧ rd M1 (n : Int) < 256 := by
   have : rd M1 (n : Int) = M1[n]'zbV := by unfold rd; rw [Int.toNat_natCast]; simp [List.getD_eq_getElem?_getD, show n < M1.length from zbV]
   rw [this];exact HC.o _ (List.getElem_mem _)
  obtain ⟨bt, hbv⟩ : ∃ bt, bt = rd M1 (n : Int) := ⟨_, rfl⟩
  rw [← hbv] at hE hx hbt;have HX := z_ hx;have HI1 := z_ (show (0 : Int) ≤ (n : Int) ∧ (n : Int) < (M1.length : Int) from ⟨zbV, zbV⟩);have HE := z_ hE;have HW := z_ (show IntKind.i64.wrap (V1 * 31) = V1 * 31 ∧ IntKind.i64.wrap (n : Int) = (n : Int) ∧ IntKind.i64.wrap bt = bt ∧ IntKind.i64.wrap (V1 * 31 + bt) = V1 * 31 + bt ∧ IntKind.i64.wrap (V1 * 31 + bt + 7) = V1 * 31 + bt + 7 ∧ IntKind.i64.wrap (Int.tmod (V1 * 31 + bt + 7) 2147483648) = Int.tmod (V1 * 31 + bt + 7) 2147483648 from by
   have h0 := HS.o.1;have h1 := HS.o.2;have h2 : Int.tmod (V1 * 31 + bt + 7) 2147483648 = (V1 * 31 + bt + 7) % 2147483648 := Int.tmod_eq_emod_of_nonneg zbV;have h3 := HN.o.2;simp only [IntKind.wrap_i64, h2];omega)
  clear hE hx hbt hbv h hle c1;refine qbY (n := 10) (S := fun w' => True) (ds := []) #[false, false, false, false, false, false, false, false, false, false] zbS rfl rfl trivial (fun hHeld => ?_);refine qbg qbG.tab2 qbG.bits2 (fun l4 R6 => ?_);generalize W1.drew = wd at sB HB2 p7 ⊢;refine qcd [0, 1, 2, 3, 4, 5, 6, 7, 8, 9] (fun E8 b a w' => a = qa7 E8 b [(0, 10, .pointer (some ⟨g, 0, none⟩)), (1, 11, .pointer (some ⟨g, 0, none⟩)), (2, 12, .pointer (some ⟨g, 1, none⟩)), (3, 13, .int .i64 ((n : Int) + 1)), (4, 14, .pointer (some ⟨g, 0, none⟩)), (5, 15, .pointer (some ⟨g, 0, none⟩)), (6, 16, .pointer (some ⟨g, 0, none⟩)), (7, 17, .slice (some ad) M1.length c), (8, 18, .int .i64 (M1.length : Int)), (9, 19, .bool true)] ∧ (w'.heap[g]? = some (.cells #[.slice (some ad) M1.length c, .int .i64 ((n : Int) + 1), .int .i64 V1] 94 (0, 0))) ∧ (Below w0.heap.size w0 w') ∧ (qaT w w' g none)) l4.o R6.o zbS zbS ?_ ?_ ?_
  ·exact ⟨zaO, sB.o, HB2.o, p7.o⟩
  ·skip;clear HB2 p7 sB;refine qaa ?_ ?_
   ·rintro b a w' ⟨ha, QT⟩ hb_ hon hoff;refine ⟨_, rfl, fun K hK => ?_⟩;have e0 : a.tmps[0]? = some (.pointer (some ⟨g, 0, none⟩)) := zbu;replace ha := z_ ha;refine qae (w1 := w') (v := .pointer (some ⟨g, 0, none⟩)) zbX rfl zbt ?_;refine hK.o _ _ ⟨zbg, QT⟩
   refine qaa ?_ ?_
   ·rintro b a w' ⟨ha, QT⟩ hb_ hon hoff;refine ⟨_, rfl, fun K hK => ?_⟩;have e10 : a.tmps[10]? = some (.pointer (some ⟨g, 0, none⟩)) := zon_ ha 0 rfl rfl hon;replace ha := z_ ha;refine qae (w1 := w') (v := .pointer (some ⟨g, 0, none⟩)) zbX rfl zbt ?_;refine hK.o _ _ ⟨zbh, QT⟩
   refine qaa ?_ ?_
   ·rintro b a w' ⟨ha, QT⟩ hb_ hon hoff;refine ⟨_, rfl, fun K hK => ?_⟩;have e11 : a.tmps[11]? = some (.pointer (some ⟨g, 0, none⟩)) := zon_ ha 1 rfl rfl hon;replace ha := z_ ha;refine qae (w1 := w') (v := .pointer (some ⟨g, 1, none⟩)) zbX rfl zbt ?_;refine hK.o _ _ ⟨zbi, QT⟩
   refine qaa ?_ ?_
   ·rintro b a w' ⟨ha, QT⟩ hb_ hon hoff;refine ⟨_, rfl, fun K hK => ?_⟩;have e12 : a.tmps[12]? = some (.pointer (some ⟨g, 1, none⟩)) := zon_ ha 2 rfl rfl hon;replace ha := z_ ha;have sB := z_ QT.1;have L7 := qac sB.o 1;simp only [List.getElem?_toArray, List.getElem?_cons_zero, List.getElem?_cons_succ] at L7;refine qae (w1 := w') (v := .int .i64 ((n : Int) + 1)) zbX rfl zbt ?_;refine hK.o _ _ ⟨zbj, QT⟩
   refine qaa ?_ ?_
   ·rintro b a w' ⟨ha, QT⟩ hb_ hon hoff;refine ⟨_, rfl, fun K hK => ?_⟩;have e0 : a.tmps[0]? = some (.pointer (some ⟨g, 0, none⟩)) := zbu;replace ha := z_ ha;refine qae (w1 := w') (v := .pointer (some ⟨g, 0, none⟩)) zbX rfl zbt ?_;refine hK.o _ _ ⟨zbk, QT⟩
   refine qaa ?_ ?_
   ·rintro b a w' ⟨ha, QT⟩ hb_ hon hoff;refine ⟨_, rfl, fun K hK => ?_⟩;have e14 : a.tmps[14]? = some (.pointer (some ⟨g, 0, none⟩)) := zon_ ha 4 rfl rfl hon;replace ha := z_ ha;refine qae (w1 := w') (v := .pointer (some ⟨g, 0, none⟩)) zbX rfl zbt ?_;refine hK.o _ _ ⟨zbl, QT⟩
   refine qaa ?_ ?_
   ·rintro b a w' ⟨ha, QT⟩ hb_ hon hoff;refine ⟨_, rfl, fun K hK => ?_⟩;have e15 : a.tmps[15]? = some (.pointer (some ⟨g, 0, none⟩)) := zon_ ha 5 rfl rfl hon;replace ha := z_ ha;refine qae (w1 := w') (v := .pointer (some ⟨g, 0, none⟩)) zbX rfl zbt ?_;refine hK.o _ _ ⟨zbm, QT⟩
   refine qaa ?_ ?_
   ·rintro b a w' ⟨ha, QT⟩ hb_ hon hoff;refine ⟨_, rfl, fun K hK => ?_⟩;have e16 : a.tmps[16]? = some (.pointer (some ⟨g, 0, none⟩)) := zon_ ha 6 rfl rfl hon;replace ha := z_ ha;have sB := z_ QT.1;have L7 := qac sB.o 0;simp only [List.getElem?_toArray, List.getElem?_cons_zero, List.getElem?_cons_succ] at L7;refine qae (w1 := w') (v := .slice (some ad) M1.length c) zbX rfl zbt ?_;refine hK.o _ _ ⟨zbn, QT⟩
   refine qaa ?_ ?_
   ·rintro b a w' ⟨ha, QT⟩ hb_ hon hoff;refine ⟨_, rfl, fun K hK => ?_⟩;have e17 : a.tmps[17]? = some (.slice (some ad) M1.length c) := zon_ ha 7 rfl rfl hon;replace ha := z_ ha;refine qae (w1 := w') (v := .int .i64 (M1.length : Int)) zbX rfl zbt ?_;refine hK.o _ _ ⟨zbo, QT⟩
   refine qaa ?_ ?_
   ·rintro b a w' ⟨ha, QT⟩ hb_ hon hoff;refine ⟨_, rfl, fun K hK => ?_⟩;have e13 : a.tmps[13]? = some (.int .i64 ((n : Int) + 1)) := zon_ ha 3 rfl rfl hon;have e18 : a.tmps[18]? = some (.int .i64 (M1.length : Int)) := zon_ ha 8 rfl rfl hon;replace ha := z_ ha;have hl_ := CL.o;refine qae (w1 := w') (v := .bool true) zbX rfl zbt ?_;refine hK.o _ _ ⟨zbp, QT⟩
   exact qbo
  rintro b a wB hall ⟨ha, QF, RF, UF⟩;clear HB2 p7 sB;have X2 := hall 0 zbS;have X1 := hall 1 zbS;have N2 := hall 2 zbS;have M2 := hall 3 zbS;have I2 := hall 4 zbS;have D3 := hall 5 zbS;have j3 := hall 6 zbS;have i3 := hall 7 zbS;have U2 := hall 8 zbS;have Y2 := hall 9 zbS;subst ha;simp only [qa7, X2, X1, N2, M2, I2, D3, j3, i3, U2, Y2, if_true, Act.put, List.setIfInBounds_toArray, List.set_cons_zero, List.set_cons_succ];have sB := z_ QF;clear QF;have HB2 := z_ RF;clear RF;have p7 := z_ UF;clear UF hall X2 X1 N2 M2 I2 D3 j3 i3 U2 Y2
  go_upto_region 3 with fail
  have CM := z_ (qai sB.o);have HB3 := z_ (qaW HB2.o);have oB := z_ (p7.o.trans (qaT.of_below (qaW (Below.refl _ _)) g none) (.inl rfl));clear sB HB2 p7;refine qbY (n := 24) (S := fun w' => True) (ds := []) #[false, false, false, false, false, false, false, false, false, false, false, false, false, false, false, false, false, false, false, false, false, false, false, false] zbS rfl rfl trivial (fun hHeld => ?_);refine qbg qbG.tab3 qbG.bits3 (fun l4 R6 => ?_);generalize wB.drew = wd at CM HB3 oB ⊢;refine qcd [0, 1, 2, 3, 4, 5, 6, 7, 8, 9, 10, 11, 12, 13, 14, 15, 16, 17, 18, 19, 20, 21, 22, 23] (fun E8 b a w' => a = qa7 E8 b [(0, 20, .pointer (some ⟨g, 0, none⟩)), (1, 21, .pointer (some ⟨g, 0, none⟩)), (2, 22, .pointer (some ⟨g, 0, none⟩)), (3, 23, .pointer (some ⟨g, 2, none⟩)), (4, 24, .int .i64 V1), (5, 25, .int .i64 (V1 * 31)), (6, 26, .pointer (some ⟨g, 0, none⟩)), (7, 27, .pointer (some ⟨g, 0, none⟩)), (8, 28, .pointer (some ⟨g, 0, none⟩)), (9, 29, .slice (some ad) M1.length c), (10, 30, .pointer (some ⟨g, 0, none⟩)), (11, 31, .pointer (some ⟨g, 0, none⟩)), (12, 32, .pointer (some ⟨g, 1, none⟩)), (13, 33, .int .i64 ((n : Int) + 1)), (14, 34, .int .i64 (n : Int)), (15, 35, .pointer (some (ad.add n))), (16, 36, .int .u8 bt), (17, 37, .int .i64 bt), (18, 38, .int .i64 (V1 * 31 + bt)), (19, 39, .int .i64 (V1 * 31 + bt + 7)), (20, 40, .int .i64 (Int.tmod (V1 * 31 + bt + 7) 2147483648)), (21, 41, .pointer (some ⟨g, 0, none⟩)), (22, 42, .pointer (some ⟨g, 2, none⟩))] ∧ (b 23 = false → w'.heap[g]? = some (.cells #[.slice (some ad) M1.length c, .int .i64 ((n : Int) + 1), .int .i64 V1] 94 (0, 0))) ∧ (Below w0.heap.size w0 w') ∧ (qaT w w' g none) ∧ (b 23 = true → w'.heap[g]? = some (.cells #[.slice (some ad) M1.length c, .int .i64 ((n : Int) + 1), .int .i64 (Int.tmod (V1 * 31 + bt + 7) 2147483648)] 94 (0, 0)))) l4.o R6.o zbS zbS ?_ ?_ ?_
  ·exact ⟨zaO, fun _ => CM.o, HB3.o, oB.o, fun h_ => absurd h_ zbT⟩
  ·skip;clear HB3 oB CM;refine qaa ?_ ?_
   ·rintro b a w' ⟨ha, QT⟩ hb_ hon hoff;refine ⟨_, rfl, fun K hK => ?_⟩;have e0 : a.tmps[0]? = some (.pointer (some ⟨g, 0, none⟩)) := zbu;replace ha := z_ ha;refine qae (w1 := w') (v := .pointer (some ⟨g, 0, none⟩)) zbX rfl zbt ?_;refine hK.o _ _ ⟨zbg, QT⟩
   refine qaa ?_ ?_
   ·rintro b a w' ⟨ha, QT⟩ hb_ hon hoff;refine ⟨_, rfl, fun K hK => ?_⟩;have e0 : a.tmps[0]? = some (.pointer (some ⟨g, 0, none⟩)) := zbu;replace ha := z_ ha;refine qae (w1 := w') (v := .pointer (some ⟨g, 0, none⟩)) zbX rfl zbt ?_;refine hK.o _ _ ⟨zbh, QT⟩
   refine qaa ?_ ?_
   ·rintro b a w' ⟨ha, QT⟩ hb_ hon hoff;refine ⟨_, rfl, fun K hK => ?_⟩;have e21 : a.tmps[21]? = some (.pointer (some ⟨g, 0, none⟩)) := zon_ ha 1 rfl rfl hon;replace ha := z_ ha;refine qae (w1 := w') (v := .pointer (some ⟨g, 0, none⟩)) zbX rfl zbt ?_;refine hK.o _ _ ⟨zbi, QT⟩
   refine qaa ?_ ?_
   ·rintro b a w' ⟨ha, QT⟩ hb_ hon hoff;refine ⟨_, rfl, fun K hK => ?_⟩;have e22 : a.tmps[22]? = some (.pointer (some ⟨g, 0, none⟩)) := zon_ ha 2 rfl rfl hon;replace ha := z_ ha;refine qae (w1 := w') (v := .pointer (some ⟨g, 2, none⟩)) zbX rfl zbt ?_;refine hK.o _ _ ⟨zbj, QT⟩
   refine qaa ?_ ?_
   ·rintro b a w' ⟨ha, QT⟩ hb_ hon hoff;refine ⟨_, rfl, fun K hK => ?_⟩;have e23 : a.tmps[23]? = some (.pointer (some ⟨g, 2, none⟩)) := zon_ ha 3 rfl rfl hon;replace ha := z_ ha;have CM := z_ (QT.1 (hoff 23 zbS));have L7 := qac CM.o 2;simp only [List.getElem?_toArray, List.getElem?_cons_zero, List.getElem?_cons_succ] at L7;refine qae (w1 := w') (v := .int .i64 V1) zbX rfl zbt ?_;refine hK.o _ _ ⟨zbk, QT⟩
   refine qaa ?_ ?_
   ·rintro b a w' ⟨ha, QT⟩ hb_ hon hoff;refine ⟨_, rfl, fun K hK => ?_⟩;have e24 : a.tmps[24]? = some (.int .i64 V1) := zon_ ha 4 rfl rfl hon;replace ha := z_ ha;obtain ⟨mR, xS, SU, lV, aX, kV⟩ := HW.o;refine qae (w1 := w') (v := .int .i64 (V1 * 31)) zbX rfl zbt ?_;refine hK.o _ _ ⟨zbl, QT⟩
   refine qaa ?_ ?_
   ·rintro b a w' ⟨ha, QT⟩ hb_ hon hoff;refine ⟨_, rfl, fun K hK => ?_⟩;have e0 : a.tmps[0]? = some (.pointer (some ⟨g, 0, none⟩)) := zbu;replace ha := z_ ha;refine qae (w1 := w') (v := .pointer (some ⟨g, 0, none⟩)) zbX rfl zbt ?_;refine hK.o _ _ ⟨zbm, QT⟩
   refine qaa ?_ ?_
   ·rintro b a w' ⟨ha, QT⟩ hb_ hon hoff;refine ⟨_, rfl, fun K hK => ?_⟩;have e26 : a.tmps[26]? = some (.pointer (some ⟨g, 0, none⟩)) := zon_ ha 6 rfl rfl hon;replace ha := z_ ha;refine qae (w1 := w') (v := .pointer (some ⟨g, 0, none⟩)) zbX rfl zbt ?_;refine hK.o _ _ ⟨zbn, QT⟩
   refine qaa ?_ ?_
   ·rintro b a w' ⟨ha, QT⟩ hb_ hon hoff;refine ⟨_, rfl, fun K hK => ?_⟩;have e27 : a.tmps[27]? = some (.pointer (some ⟨g, 0, none⟩)) := zon_ ha 7 rfl rfl hon;replace ha := z_ ha;refine qae (w1 := w') (v := .pointer (some ⟨g, 0, none⟩)) zbX rfl zbt ?_;refine hK.o _ _ ⟨zbo, QT⟩
   refine qaa ?_ ?_
   ·rintro b a w' ⟨ha, QT⟩ hb_ hon hoff;refine ⟨_, rfl, fun K hK => ?_⟩;have e28 : a.tmps[28]? = some (.pointer (some ⟨g, 0, none⟩)) := zon_ ha 8 rfl rfl hon;replace ha := z_ ha;have CM := z_ (QT.1 (hoff 23 zbS));have L7 := qac CM.o 0;simp only [List.getElem?_toArray, List.getElem?_cons_zero, List.getElem?_cons_succ] at L7;refine qae (w1 := w') (v := .slice (some ad) M1.length c) zbX rfl zbt ?_;refine hK.o _ _ ⟨zbp, QT⟩
   refine qaa ?_ ?_
   ·rintro b a w' ⟨ha, QT⟩ hb_ hon hoff;refine ⟨_, rfl, fun K hK => ?_⟩;have e0 : a.tmps[0]? = some (.pointer (some ⟨g, 0, none⟩)) := zbu;replace ha := z_ ha;refine qae (w1 := w') (v := .pointer (some ⟨g, 0, none⟩)) zbX rfl zbt ?_;refine hK.o _ _ ⟨zaP, QT⟩
   refine qaa ?_ ?_
   ·rintro b a w' ⟨ha, QT⟩ hb_ hon hoff;refine ⟨_, rfl, fun K hK => ?_⟩;have e30 : a.tmps[30]? = some (.pointer (some ⟨g, 0, none⟩)) := zon_ ha 10 rfl rfl hon;replace ha := z_ ha;refine qae (w1 := w') (v := .pointer (some ⟨g, 0, none⟩)) zbX rfl zbt ?_;refine hK.o _ _ ⟨zaQ, QT⟩
   refine qaa ?_ ?_
   ·rintro b a w' ⟨ha, QT⟩ hb_ hon hoff;refine ⟨_, rfl, fun K hK => ?_⟩;have e31 : a.tmps[31]? = some (.pointer (some ⟨g, 0, none⟩)) := zon_ ha 11 rfl rfl hon;replace ha := z_ ha;refine qae (w1 := w') (v := .pointer (some ⟨g, 1, none⟩)) zbX rfl zbt ?_;refine hK.o _ _ ⟨zaR, QT⟩
   refine qaa ?_ ?_
   ·rintro b a w' ⟨ha, QT⟩ hb_ hon hoff;refine ⟨_, rfl, fun K hK => ?_⟩;have e32 : a.tmps[32]? = some (.pointer (some ⟨g, 1, none⟩)) := zon_ ha 12 rfl rfl hon;replace ha := z_ ha;have CM := z_ (QT.1 (hoff 23 zbS));have L7 := qac CM.o 1;simp only [List.getElem?_toArray, List.getElem?_cons_zero, List.getElem?_cons_succ] at L7;refine qae (w1 := w') (v := .int .i64 ((n : Int) + 1)) zbX rfl zbt ?_;refine hK.o _ _ ⟨zaS, QT⟩
   refine qaa ?_ ?_
   ·rintro b a w' ⟨ha, QT⟩ hb_ hon hoff;refine ⟨_, rfl, fun K hK => ?_⟩;have e33 : a.tmps[33]? = some (.int .i64 ((n : Int) + 1)) := zon_ ha 13 rfl rfl hon;replace ha := z_ ha;obtain ⟨mR, xS, SU, lV, aX, kV⟩ := HW.o;refine qae (w1 := w') (v := .int .i64 (n : Int)) zbX rfl zbt ?_;refine hK.o _ _ ⟨zaT, QT⟩
   refine qaa ?_ ?_
   ·rintro b a w' ⟨ha, QT⟩ hb_ hon hoff;refine ⟨_, rfl, fun K hK => ?_⟩;have e29 : a.tmps[29]? = some (.slice (some ad) M1.length c) := zon_ ha 9 rfl rfl hon;have e34 : a.tmps[34]? = some (.int .i64 (n : Int)) := zon_ ha 14 rfl rfl hon;replace ha := z_ ha;obtain ⟨mR, xS⟩ := HI1.o;refine qae (w1 := w') (v := .pointer (some (ad.add n))) zbX rfl zbt ?_;refine hK.o _ _ ⟨zaU, QT⟩
   refine qaa ?_ ?_
   ·rintro b a w' ⟨ha, QT⟩ hb_ hon hoff;refine ⟨_, rfl, fun K hK => ?_⟩;have e35 : a.tmps[35]? = some (.pointer (some (ad.add n))) := zon_ ha 15 rfl rfl hon;replace ha := z_ ha;have HB3 := z_ QT.2.1;have L7 := (HB3.o.cell (World.block_lt_of_cell? w0 _ HX.o)).trans HX.o;refine qae (w1 := w') (v := .int .u8 bt) zbX rfl zbt ?_;refine hK.o _ _ ⟨zaV, QT⟩
   refine qaa ?_ ?_
   ·rintro b a w' ⟨ha, QT⟩ hb_ hon hoff;refine ⟨_, rfl, fun K hK => ?_⟩;have e36 : a.tmps[36]? = some (.int .u8 bt) := zon_ ha 16 rfl rfl hon;replace ha := z_ ha;obtain ⟨mR, xS, SU, lV, aX, kV⟩ := HW.o;refine qae (w1 := w') (v := .int .i64 bt) zbX rfl zbt ?_;refine hK.o _ _ ⟨zaW, QT⟩
   refine qaa ?_ ?_
   ·rintro b a w' ⟨ha, QT⟩ hb_ hon hoff;refine ⟨_, rfl, fun K hK => ?_⟩;have e25 : a.tmps[25]? = some (.int .i64 (V1 * 31)) := zon_ ha 5 rfl rfl hon;have e37 : a.tmps[37]? = some (.int .i64 bt) := zon_ ha 17 rfl rfl hon;replace ha := z_ ha;obtain ⟨mR, xS, SU, lV, aX, kV⟩ := HW.o;refine qae (w1 := w') (v := .int .i64 (V1 * 31 + bt)) zbX rfl zbt ?_;refine hK.o _ _ ⟨zaX, QT⟩
   refine qaa ?_ ?_
   ·rintro b a w' ⟨ha, QT⟩ hb_ hon hoff;refine ⟨_, rfl, fun K hK => ?_⟩;have e38 : a.tmps[38]? = some (.int .i64 (V1 * 31 + bt)) := zon_ ha 18 rfl rfl hon;replace ha := z_ ha;obtain ⟨mR, xS, SU, lV, aX, kV⟩ := HW.o;refine qae (w1 := w') (v := .int .i64 (V1 * 31 + bt + 7)) zbX rfl zbt ?_;refine hK.o _ _ ⟨zaY, QT⟩
   refine qaa ?_ ?_
   ·rintro b a w' ⟨ha, QT⟩ hb_ hon hoff;refine ⟨_, rfl, fun K hK => ?_⟩;have e39 : a.tmps[39]? = some (.int .i64 (V1 * 31 + bt + 7)) := zon_ ha 19 rfl rfl hon;replace ha := z_ ha;obtain ⟨mR, xS, SU, lV, aX, kV⟩ := HW.o;refine qae (w1 := w') (v := .int .i64 (Int.tmod (V1 * 31 + bt + 7) 2147483648)) zbX rfl zbt ?_;refine hK.o _ _ ⟨zaZ, QT⟩
   refine qaa ?_ ?_
   ·rintro b a w' ⟨ha, QT⟩ hb_ hon hoff;refine ⟨_, rfl, fun K hK => ?_⟩;have e20 : a.tmps[20]? = some (.pointer (some ⟨g, 0, none⟩)) := zon_ ha 0 rfl rfl hon;replace ha := z_ ha;refine qae (w1 := w') (v := .pointer (some ⟨g, 0, none⟩)) zbX rfl zbt ?_;refine hK.o _ _ ⟨zba, QT⟩
   refine qaa ?_ ?_
   ·rintro b a w' ⟨ha, QT⟩ hb_ hon hoff;refine ⟨_, rfl, fun K hK => ?_⟩;have e41 : a.tmps[41]? = some (.pointer (some ⟨g, 0, none⟩)) := zon_ ha 21 rfl rfl hon;replace ha := z_ ha;refine qae (w1 := w') (v := .pointer (some ⟨g, 2, none⟩)) zbX rfl zbt ?_;refine hK.o _ _ ⟨zbb, QT⟩
   refine qaa ?_ ?_
   ·rintro b a w' ⟨ha, FP, iM, QM, PK⟩ hb_ hon hoff;refine ⟨_, rfl, fun K hK => ?_⟩;have e42 : a.tmps[42]? = some (.pointer (some ⟨g, 2, none⟩)) := zon_ ha 22 rfl rfl hon;have e40 : a.tmps[40]? = some (.int .i64 (Int.tmod (V1 * 31 + bt + 7) 2147483648)) := zon_ ha 20 rfl rfl hon;replace ha := z_ ha;have CM := z_ (FP hb_);have HB3 := z_ iM;have oB := z_ QM;have L7 := qac CM.o 2;have hf_ := qab CM.o 2;simp only [List.getElem?_toArray, List.getElem?_cons_zero, List.getElem?_cons_succ] at L7;refine qeR (w1 := w'.setCell ⟨g, 2, none⟩ (.int .i64 (Int.tmod (V1 * 31 + bt + 7) 2147483648))) zbX rfl (by go_simp) ?_;refine hK.o _ _ ⟨zbq, fun N7 => absurd ((qa5 b 23).symm.trans N7) zbT, HB3.o.setCell (p := ⟨g, 2, none⟩) HG.o _, oB.o.set_ 2 _, fun _ => qdg CM.o 2 _⟩
   exact qbo
  rintro b a wC hall ⟨ha, FP, iM, QM, PK⟩;clear HB3 oB CM;have X2 := hall 0 zbS;have X1 := hall 1 zbS;have N2 := hall 2 zbS;have M2 := hall 3 zbS;have I2 := hall 4 zbS;have D3 := hall 5 zbS;have j3 := hall 6 zbS;have i3 := hall 7 zbS;have U2 := hall 8 zbS;have Y2 := hall 9 zbS;have D2 := hall 10 zbS;have Q2 := hall 11 zbS;have F2 := hall 12 zbS;have j4 := hall 13 zbS;have D4 := hall 14 zbS;have n6 := hall 15 zbS;have q6 := hall 16 zbS;have m6 := hall 17 zbS;have s6 := hall 18 zbS;have r6 := hall 19 zbS;have j6 := hall 20 zbS;have o6 := hall 21 zbS;have u7 := hall 22 zbS;have G9 := hall 23 zbS;subst ha;simp only [qa7, X2, X1, N2, M2, I2, D3, j3, i3, U2, Y2, D2, Q2, F2, j4, D4, n6, q6, m6, s6, r6, j6, o6, u7, G9, if_true, Act.put, List.setIfInBounds_toArray, List.set_cons_zero, List.set_cons_succ];clear FP;have HB3 := z_ iM;clear iM;have oB := z_ QM;clear QM;have nZ := z_ (PK G9);clear PK hall X2 X1 N2 M2 I2 D3 j3 i3 U2 Y2 D2 Q2 F2 j4 D4 n6 q6 m6 s6 r6 j6 o6 u7 G9
  go_upto_region 4 with fail
  have tQ := z_ (qai nZ.o);have cI := z_ (qaW HB3.o);have lH := z_ (oB.o.trans (qaT.of_below (qaW (Below.refl _ _)) g none) (.inl rfl));clear nZ HB3 oB;refine qbY (n := 13) (S := fun w' => True) (ds := []) #[false, false, false, false, false, false, false, false, false, false, false, false, false] zbS rfl rfl trivial (fun hHeld => ?_);refine qbg qbG.tab4 qbG.bits4 (fun l4 R6 => ?_);generalize wC.drew = wd at tQ cI lH ⊢;refine qcd [0, 1, 2, 3, 4, 5, 6, 7, 8, 9, 10, 11, 12] (fun E8 b a w' => a = qa7 E8 b [(0, 43, .pointer (some ⟨g, 0, none⟩)), (1, 44, .pointer (some ⟨g, 0, none⟩)), (2, 45, .pointer (some ⟨g, 0, none⟩)), (3, 46, .slice (some ad) M1.length c), (4, 47, .pointer (some ⟨g, 0, none⟩)), (5, 48, .pointer (some ⟨g, 0, none⟩)), (6, 49, .pointer (some ⟨g, 1, none⟩)), (7, 50, .int .i64 ((n : Int) + 1)), (8, 51, .int .i64 (n : Int)), (9, 52, .pointer (some (ad.add n))), (10, 53, .int .u8 bt), (11, 54, .int .i64 bt), (12, 2, .int .i64 bt)] ∧ (w'.heap[g]? = some (.cells #[.slice (some ad) M1.length c, .int .i64 ((n : Int) + 1), .int .i64 (Int.tmod (V1 * 31 + bt + 7) 2147483648)] 94 (0, 0))) ∧ (Below w0.heap.size w0 w') ∧ (qaT w w' g none)) l4.o R6.o zbS zbS ?_ ?_ ?_
  ·exact ⟨zaO, tQ.o, cI.o, lH.o⟩
  ·skip;clear cI lH tQ;refine qaa ?_ ?_
   ·rintro b a w' ⟨ha, QT⟩ hb_ hon hoff;refine ⟨_, rfl, fun K hK => ?_⟩;have e0 : a.tmps[0]? = some (.pointer (some ⟨g, 0, none⟩)) := zbu;replace ha := z_ ha;refine qae (w1 := w') (v := .pointer (some ⟨g, 0, none⟩)) zbX rfl zbt ?_;refine hK.o _ _ ⟨zbg, QT⟩
   refine qaa ?_ ?_
   ·rintro b a w' ⟨ha, QT⟩ hb_ hon hoff;refine ⟨_, rfl, fun K hK => ?_⟩;have e43 : a.tmps[43]? = some (.pointer (some ⟨g, 0, none⟩)) := zon_ ha 0 rfl rfl hon;replace ha := z_ ha;refine qae (w1 := w') (v := .pointer (some ⟨g, 0, none⟩)) zbX rfl zbt ?_;refine hK.o _ _ ⟨zbh, QT⟩
   refine qaa ?_ ?_
   ·rintro b a w' ⟨ha, QT⟩ hb_ hon hoff;refine ⟨_, rfl, fun K hK => ?_⟩;have e44 : a.tmps[44]? = some (.pointer (some ⟨g, 0, none⟩)) := zon_ ha 1 rfl rfl hon;replace ha := z_ ha;refine qae (w1 := w') (v := .pointer (some ⟨g, 0, none⟩)) zbX rfl zbt ?_;refine hK.o _ _ ⟨zbi, QT⟩
   refine qaa ?_ ?_
   ·rintro b a w' ⟨ha, QT⟩ hb_ hon hoff;refine ⟨_, rfl, fun K hK => ?_⟩;have e45 : a.tmps[45]? = some (.pointer (some ⟨g, 0, none⟩)) := zon_ ha 2 rfl rfl hon;replace ha := z_ ha;have tQ := z_ QT.1;have L7 := qac tQ.o 0;simp only [List.getElem?_toArray, List.getElem?_cons_zero, List.getElem?_cons_succ] at L7;refine qae (w1 := w') (v := .slice (some ad) M1.length c) zbX rfl zbt ?_;refine hK.o _ _ ⟨zbj, QT⟩
   refine qaa ?_ ?_
   ·rintro b a w' ⟨ha, QT⟩ hb_ hon hoff;refine ⟨_, rfl, fun K hK => ?_⟩;have e0 : a.tmps[0]? = some (.pointer (some ⟨g, 0, none⟩)) := zbu;replace ha := z_ ha;refine qae (w1 := w') (v := .pointer (some ⟨g, 0, none⟩)) zbX rfl zbt ?_;refine hK.o _ _ ⟨zbk, QT⟩
   refine qaa ?_ ?_
   ·rintro b a w' ⟨ha, QT⟩ hb_ hon hoff;refine ⟨_, rfl, fun K hK => ?_⟩;have e47 : a.tmps[47]? = some (.pointer (some ⟨g, 0, none⟩)) := zon_ ha 4 rfl rfl hon;replace ha := z_ ha;refine qae (w1 := w') (v := .pointer (some ⟨g, 0, none⟩)) zbX rfl zbt ?_;refine hK.o _ _ ⟨zbl, QT⟩
   refine qaa ?_ ?_
   ·rintro b a w' ⟨ha, QT⟩ hb_ hon hoff;refine ⟨_, rfl, fun K hK => ?_⟩;have e48 : a.tmps[48]? = some (.pointer (some ⟨g, 0, none⟩)) := zon_ ha 5 rfl rfl hon;replace ha := z_ ha;refine qae (w1 := w') (v := .pointer (some ⟨g, 1, none⟩)) zbX rfl zbt ?_;refine hK.o _ _ ⟨zbm, QT⟩
   refine qaa ?_ ?_
   ·rintro b a w' ⟨ha, QT⟩ hb_ hon hoff;refine ⟨_, rfl, fun K hK => ?_⟩;have e49 : a.tmps[49]? = some (.pointer (some ⟨g, 1, none⟩)) := zon_ ha 6 rfl rfl hon;replace ha := z_ ha;have tQ := z_ QT.1;have L7 := qac tQ.o 1;simp only [List.getElem?_toArray, List.getElem?_cons_zero, List.getElem?_cons_succ] at L7;refine qae (w1 := w') (v := .int .i64 ((n : Int) + 1)) zbX rfl zbt ?_;refine hK.o _ _ ⟨zbn, QT⟩
   refine qaa ?_ ?_
   ·rintro b a w' ⟨ha, QT⟩ hb_ hon hoff;refine ⟨_, rfl, fun K hK => ?_⟩;have e50 : a.tmps[50]? = some (.int .i64 ((n : Int) + 1)) := zon_ ha 7 rfl rfl hon;replace ha := z_ ha;obtain ⟨mR, xS, SU, lV, aX, kV⟩ := HW.o;refine qae (w1 := w') (v := .int .i64 (n : Int)) zbX rfl zbt ?_;refine hK.o _ _ ⟨zbo, QT⟩
   refine qaa ?_ ?_
   ·rintro b a w' ⟨ha, QT⟩ hb_ hon hoff;refine ⟨_, rfl, fun K hK => ?_⟩;have e46 : a.tmps[46]? = some (.slice (some ad) M1.length c) := zon_ ha 3 rfl rfl hon;have e51 : a.tmps[51]? = some (.int .i64 (n : Int)) := zon_ ha 8 rfl rfl hon;replace ha := z_ ha;obtain ⟨mR, xS⟩ := HI1.o;refine qae (w1 := w') (v := .pointer (some (ad.add n))) zbX rfl zbt ?_;refine hK.o _ _ ⟨zbp, QT⟩
   refine qaa ?_ ?_
   ·rintro b a w' ⟨ha, QT⟩ hb_ hon hoff;refine ⟨_, rfl, fun K hK => ?_⟩;have e52 : a.tmps[52]? = some (.pointer (some (ad.add n))) := zon_ ha 9 rfl rfl hon;replace ha := z_ ha;have cI := z_ QT.2.1;have L7 := (cI.o.cell (World.block_lt_of_cell? w0 _ HX.o)).trans HX.o;refine qae (w1 := w') (v := .int .u8 bt) zbX rfl zbt ?_;refine hK.o _ _ ⟨zaP, QT⟩
   refine qaa ?_ ?_
   ·rintro b a w' ⟨ha, QT⟩ hb_ hon hoff;refine ⟨_, rfl, fun K hK => ?_⟩;have e53 : a.tmps[53]? = some (.int .u8 bt) := zon_ ha 10 rfl rfl hon;replace ha := z_ ha;obtain ⟨mR, xS, SU, lV, aX, kV⟩ := HW.o;refine qae (w1 := w') (v := .int .i64 bt) zbX rfl zbt ?_;refine hK.o _ _ ⟨zaQ, QT⟩
   refine qaa ?_ ?_
   ·rintro b a w' ⟨ha, QT⟩ hb_ hon hoff;refine ⟨_, rfl, fun K hK => ?_⟩;have e54 : a.tmps[54]? = some (.int .i64 bt) := zon_ ha 11 rfl rfl hon;replace ha := z_ ha;refine qae (w1 := w') (v := .int .i64 bt) zbX rfl zbt ?_;refine hK.o _ _ ⟨zaR, QT⟩
   exact qbo
  rintro b a wD hall ⟨ha, PS, CT, bU⟩;clear cI lH tQ;have X2 := hall 0 zbS;have X1 := hall 1 zbS;have N2 := hall 2 zbS;have M2 := hall 3 zbS;have I2 := hall 4 zbS;have D3 := hall 5 zbS;have j3 := hall 6 zbS;have i3 := hall 7 zbS;have U2 := hall 8 zbS;have Y2 := hall 9 zbS;have D2 := hall 10 zbS;have Q2 := hall 11 zbS;have F2 := hall 12 zbS;subst ha;simp only [qa7, X2, X1, N2, M2, I2, D3, j3, i3, U2, Y2, D2, Q2, F2, if_true, Act.put, List.setIfInBounds_toArray, List.set_cons_zero, List.set_cons_succ];have tQ := z_ PS;clear PS;have cI := z_ CT;clear CT;have lH := z_ bU;clear bU hall X2 X1 N2 M2 I2 D3 j3 i3 U2 Y2 D2 Q2 F2
  go_wp2_with fail
  go_ret
  have hE := HE.o;injection hE with e1 hE
  injection hE with e2 e3
  exact ⟨congrArg (fun z => Ending.returned (Value.int .i64 z)) e1, ⟨_, _, by rw [← e2, ← e3]; exact tQ.o, HG.o, HR.o⟩, cI.o, lH.o⟩
 ·have c1 : decide ((n : Int) + 1 ≤ (M1.length : Int)) = false := decide_eq_false hle;have CL := z_ c1
  by_cases hgt : 3000 < (n : Int) + 1
  ·have HE := z_ (show ((0 : Int), (n : Int) + 1, V1) = (r1, r2, r3) from by rw [← h]; unfold byteF; rw [if_neg hle, if_pos hgt]);have c2 : decide (3000 < (n : Int) + 1) = true := decide_eq_true hgt;clear h hle hgt c1;refine qbY (n := 10) (S := fun w' => True) (ds := []) #[false, false, false, false, false, false, false, false, false, false] zbS rfl rfl trivial (fun hHeld => ?_);refine qbg qbG.tab2 qbG.bits2 (fun l4 R6 => ?_);generalize W1.drew = wd at sB HB2 p7 ⊢;refine qcd [0, 1, 2, 3, 4, 5, 6, 7, 8, 9] (fun E8 b a w' => a = qa7 E8 b [(0, 10, .pointer (some ⟨g, 0, none⟩)), (1, 11, .pointer (some ⟨g, 0, none⟩)), (2, 12, .pointer (some ⟨g, 1, none⟩)), (3, 13, .int .i64 ((n : Int) + 1)), (4, 14, .pointer (some ⟨g, 0, none⟩)), (5, 15, .pointer (some ⟨g, 0, none⟩)), (6, 16, .pointer (some ⟨g, 0, none⟩)), (7, 17, .slice A M1.length c), (8, 18, .int .i64 (M1.length : Int)), (9, 19, .bool false)] ∧ (w'.heap[g]? = some (.cells #[.slice A M1.length c, .int .i64 ((n : Int) + 1), .int .i64 V1] 94 (0, 0))) ∧ (Below w0.heap.size w0 w') ∧ (qaT w w' g none)) l4.o R6.o zbS zbS ?_ ?_ ?_
   ·exact ⟨zaO, sB.o, HB2.o, p7.o⟩
   ·skip;clear HB2 p7 sB;refine qaa ?_ ?_
    ·rintro b a w' ⟨ha, QT⟩ hb_ hon hoff;refine ⟨_, rfl, fun K hK => ?_⟩;have e0 : a.tmps[0]? = some (.pointer (some ⟨g, 0, none⟩)) := zbu;replace ha := z_ ha;refine qae (w1 := w') (v := .pointer (some ⟨g, 0, none⟩)) zbX rfl zbt ?_;refine hK.o _ _ ⟨zbg, QT⟩
    refine qaa ?_ ?_
    ·rintro b a w' ⟨ha, QT⟩ hb_ hon hoff;refine ⟨_, rfl, fun K hK => ?_⟩;have e10 : a.tmps[10]? = some (.pointer (some ⟨g, 0, none⟩)) := zon_ ha 0 rfl rfl hon;replace ha := z_ ha;refine qae (w1 := w') (v := .pointer (some ⟨g, 0, none⟩)) zbX rfl zbt ?_;refine hK.o _ _ ⟨zbh, QT⟩
    refine qaa ?_ ?_
    ·rintro b a w' ⟨ha, QT⟩ hb_ hon hoff;refine ⟨_, rfl, fun K hK => ?_⟩;have e11 : a.tmps[11]? = some (.pointer (some ⟨g, 0, none⟩)) := zon_ ha 1 rfl rfl hon;replace ha := z_ ha;refine qae (w1 := w') (v := .pointer (some ⟨g, 1, none⟩)) zbX rfl zbt ?_;refine hK.o _ _ ⟨zbi, QT⟩
    refine qaa ?_ ?_
    ·rintro b a w' ⟨ha, QT⟩ hb_ hon hoff;refine ⟨_, rfl, fun K hK => ?_⟩;have e12 : a.tmps[12]? = some (.pointer (some ⟨g, 1, none⟩)) := zon_ ha 2 rfl rfl hon;replace ha := z_ ha;have sB := z_ QT.1;have L7 := qac sB.o 1;simp only [List.getElem?_toArray, List.getElem?_cons_zero, List.getElem?_cons_succ] at L7;refine qae (w1 := w') (v := .int .i64 ((n : Int) + 1)) zbX rfl zbt ?_;refine hK.o _ _ ⟨zbj, QT⟩
    refine qaa ?_ ?_
    ·rintro b a w' ⟨ha, QT⟩ hb_ hon hoff;refine ⟨_, rfl, fun K hK => ?_⟩;have e0 : a.tmps[0]? = some (.pointer (some ⟨g, 0, none⟩)) := zbu;replace ha := z_ ha;refine qae (w1 := w') (v := .pointer (some ⟨g, 0, none⟩)) zbX rfl zbt ?_;refine hK.o _ _ ⟨zbk, QT⟩
    refine qaa ?_ ?_
    ·rintro b a w' ⟨ha, QT⟩ hb_ hon hoff;refine ⟨_, rfl, fun K hK => ?_⟩;have e14 : a.tmps[14]? = some (.pointer (some ⟨g, 0, none⟩)) := zon_ ha 4 rfl rfl hon;replace ha := z_ ha;refine qae (w1 := w') (v := .pointer (some ⟨g, 0, none⟩)) zbX rfl zbt ?_;refine hK.o _ _ ⟨zbl, QT⟩
    refine qaa ?_ ?_
    ·rintro b a w' ⟨ha, QT⟩ hb_ hon hoff;refine ⟨_, rfl, fun K hK => ?_⟩;have e15 : a.tmps[15]? = some (.pointer (some ⟨g, 0, none⟩)) := zon_ ha 5 rfl rfl hon;replace ha := z_ ha;refine qae (w1 := w') (v := .pointer (some ⟨g, 0, none⟩)) zbX rfl zbt ?_;refine hK.o _ _ ⟨zbm, QT⟩
    refine qaa ?_ ?_
    ·rintro b a w' ⟨ha, QT⟩ hb_ hon hoff;refine ⟨_, rfl, fun K hK => ?_⟩;have e16 : a.tmps[16]? = some (.pointer (some ⟨g, 0, none⟩)) := zon_ ha 6 rfl rfl hon;replace ha := z_ ha;have sB := z_ QT.1;have L7 := qac sB.o 0;simp only [List.getElem?_toArray, List.getElem?_cons_zero, List.getElem?_cons_succ] at L7;refine qae (w1 := w') (v := .slice A M1.length c) zbX rfl zbt ?_;refine hK.o _ _ ⟨zbn, QT⟩
    refine qaa ?_ ?_
    ·rintro b a w' ⟨ha, QT⟩ hb_ hon hoff;refine ⟨_, rfl, fun K hK => ?_⟩;have e17 : a.tmps[17]? = some (.slice A M1.length c) := zon_ ha 7 rfl rfl hon;replace ha := z_ ha;refine qae (w1 := w') (v := .int .i64 (M1.length : Int)) zbX rfl zbt ?_;refine hK.o _ _ ⟨zbo, QT⟩
    refine qaa ?_ ?_
    ·rintro b a w' ⟨ha, QT⟩ hb_ hon hoff;refine ⟨_, rfl, fun K hK => ?_⟩;have e13 : a.tmps[13]? = some (.int .i64 ((n : Int) + 1)) := zon_ ha 3 rfl rfl hon;have e18 : a.tmps[18]? = some (.int .i64 (M1.length : Int)) := zon_ ha 8 rfl rfl hon;replace ha := z_ ha;have hl_ := CL.o;refine qae (w1 := w') (v := .bool false) zbX rfl zbt ?_;refine hK.o _ _ ⟨zbp, QT⟩
    exact qbo
   rintro b a wB hall ⟨ha, QF, RF, UF⟩;clear HB2 p7 sB;have X2 := hall 0 zbS;have X1 := hall 1 zbS;have N2 := hall 2 zbS;have M2 := hall 3 zbS;have I2 := hall 4 zbS;have D3 := hall 5 zbS;have j3 := hall 6 zbS;have i3 := hall 7 zbS;have U2 := hall 8 zbS;have Y2 := hall 9 zbS;subst ha;simp only [qa7, X2, X1, N2, M2, I2, D3, j3, i3, U2, Y2, if_true, Act.put, List.setIfInBounds_toArray, List.set_cons_zero, List.set_cons_succ];have sB := z_ QF;clear QF;have HB2 := z_ RF;clear RF;have p7 := z_ UF;clear UF hall X2 X1 N2 M2 I2 D3 j3 i3 U2 Y2;have d1 := qac sB.o 1;simp only [List.getElem?_toArray, List.getElem?_cons_zero, List.getElem?_cons_succ] at d1
   go_wp2_with fail
   go_ret
   have hE := HE.o;injection hE with e1 hE
   injection hE with e2 e3
   exact ⟨congrArg (fun z => Ending.returned (Value.int .i64 z)) e1, ⟨_, _, by rw [← e2, ← e3]; exact sB.o, HG.o, HR.o⟩, HB2.o, p7.o⟩
  ·have HE := z_ (show (Int.tmod (Int.tdiv (Int.tmod (V1 * 1103515245 + 12345) 2147483648) 65536) 256, (n : Int) + 1, Int.tmod (V1 * 1103515245 + 12345) 2147483648) = (r1, r2, r3) from by rw [← h]; unfold byteF; rw [if_neg hle, if_neg hgt]);have c2 : decide (3000 < (n : Int) + 1) = false := decide_eq_false hgt;have hsd : Int.tmod (V1 * 1103515245 + 12345) 2147483648 = (V1 * 1103515245 + 12345) % 2147483648 := Int.tmod_eq_emod_of_nonneg (by have := HS.o.1; omega);have w2 : IntKind.i64.wrap (V1 * 1103515245) = V1 * 1103515245 := by have := HS.o.1; have := HS.o.2; rw [IntKind.wrap_i64]; omega
   have w3 : IntKind.i64.wrap (V1 * 1103515245 + 12345) = V1 * 1103515245 + 12345 := by have := HS.o.1; have := HS.o.2; rw [IntKind.wrap_i64]; omega
   have w4 : IntKind.i64.wrap (Int.tmod (V1 * 1103515245 + 12345) 2147483648) = Int.tmod (V1 * 1103515245 + 12345) 2147483648 := by rw [hsd, IntKind.wrap_i64]; omega
   have hq : Int.tdiv (Int.tmod (V1 * 1103515245 + 12345) 2147483648) 65536 = (Int.tmod (V1 * 1103515245 + 12345) 2147483648) / 65536 := Int.tdiv_eq_ediv_of_nonneg (by rw [hsd]; omega);have w5 : IntKind.i64.wrap (Int.tdiv (Int.tmod (V1 * 1103515245 + 12345) 2147483648) 65536) = Int.tdiv (Int.tmod (V1 * 1103515245 + 12345) 2147483648) 65536 := by rw [hq, hsd, IntKind.wrap_i64]; omega
   have w6 : IntKind.i64.wrap (Int.tmod (Int.tdiv (Int.tmod (V1 * 1103515245 + 12345) 2147483648) 65536) 256) = Int.tmod (Int.tdiv (Int.tmod (V1 * 1103515245 + 12345) 2147483648) 65536) 256 := by rw [Int.tmod_eq_emod_of_nonneg (by rw [hq, hsd]; omega), hq, hsd, IntKind.wrap_i64]; omega
   clear h hle hgt c1 hsd hq;refine qbY (n := 10) (S := fun w' => True) (ds := []) #[false, false, false, false, false, false, false, false, false, false] zbS rfl rfl trivial (fun hHeld => ?_);refine qbg qbG.tab2 qbG.bits2 (fun l4 R6 => ?_);generalize W1.drew = wd at sB HB2 p7 ⊢;refine qcd [0, 1, 2, 3, 4, 5, 6, 7, 8, 9] (fun E8 b a w' => a = qa7 E8 b [(0, 10, .pointer (some ⟨g, 0, none⟩)), (1, 11, .pointer (some ⟨g, 0, none⟩)), (2, 12, .pointer (some ⟨g, 1, none⟩)), (3, 13, .int .i64 ((n : Int) + 1)), (4, 14, .pointer (some ⟨g, 0, none⟩)), (5, 15, .pointer (some ⟨g, 0, none⟩)), (6, 16, .pointer (some ⟨g, 0, none⟩)), (7, 17, .slice A M1.length c), (8, 18, .int .i64 (M1.length : Int)), (9, 19, .bool false)] ∧ (w'.heap[g]? = some (.cells #[.slice A M1.length c, .int .i64 ((n : Int) + 1), .int .i64 V1] 94 (0, 0))) ∧ (Below w0.heap.size w0 w') ∧ (qaT w w' g none)) l4.o R6.o zbS zbS ?_ ?_ ?_
   ·exact ⟨zaO, sB.o, HB2.o, p7.o⟩
   ·skip;clear HB2 p7 sB;refine qaa ?_ ?_
    ·rintro b a w' ⟨ha, QT⟩ hb_ hon hoff;refine ⟨_, rfl, fun K hK => ?_⟩;have e0 : a.tmps[0]? = some (.pointer (some ⟨g, 0, none⟩)) := zbu;replace ha := z_ ha;refine qae (w1 := w') (v := .pointer (some ⟨g, 0, none⟩)) zbX rfl zbt ?_;refine hK.o _ _ ⟨zbg, QT⟩
    refine qaa ?_ ?_
    ·rintro b a w' ⟨ha, QT⟩ hb_ hon hoff;refine ⟨_, rfl, fun K hK => ?_⟩;have e10 : a.tmps[10]? = some (.pointer (some ⟨g, 0, none⟩)) := zon_ ha 0 rfl rfl hon;replace ha := z_ ha;refine qae (w1 := w') (v := .pointer (some ⟨g, 0, none⟩)) zbX rfl zbt ?_;refine hK.o _ _ ⟨zbh, QT⟩
    refine qaa ?_ ?_
    ·rintro b a w' ⟨ha, QT⟩ hb_ hon hoff;refine ⟨_, rfl, fun K hK => ?_⟩;have e11 : a.tmps[11]? = some (.pointer (some ⟨g, 0, none⟩)) := zon_ ha 1 rfl rfl hon;replace ha := z_ ha;refine qae (w1 := w') (v := .pointer (some ⟨g, 1, none⟩)) zbX rfl zbt ?_;refine hK.o _ _ ⟨zbi, QT⟩
    refine qaa ?_ ?_
    ·rintro b a w' ⟨ha, QT⟩ hb_ hon hoff;refine ⟨_, rfl, fun K hK => ?_⟩;have e12 : a.tmps[12]? = some (.pointer (some ⟨g, 1, none⟩)) := zon_ ha 2 rfl rfl hon;replace ha := z_ ha;have sB := z_ QT.1;have L7 := qac sB.o 1;simp only [List.getElem?_toArray, List.getElem?_cons_zero, List.getElem?_cons_succ] at L7;refine qae (w1 := w') (v := .int .i64 ((n : Int) + 1)) zbX rfl zbt ?_;refine hK.o _ _ ⟨zbj, QT⟩
    refine qaa ?_ ?_
    ·rintro b a w' ⟨ha, QT⟩ hb_ hon hoff;refine ⟨_, rfl, fun K hK => ?_⟩;have e0 : a.tmps[0]? = some (.pointer (some ⟨g, 0, none⟩)) := zbu;replace ha := z_ ha;refine qae (w1 := w') (v := .pointer (some ⟨g, 0, none⟩)) zbX rfl zbt ?_;refine hK.o _ _ ⟨zbk, QT⟩
    refine qaa ?_ ?_
    ·rintro b a w' ⟨ha, QT⟩ hb_ hon hoff;refine ⟨_, rfl, fun K hK => ?_⟩;have e14 : a.tmps[14]? = some (.pointer (some ⟨g, 0, none⟩)) := zon_ ha 4 rfl rfl hon;replace ha := z_ ha;refine qae (w1 := w') (v := .pointer (some ⟨g, 0, none⟩)) zbX rfl zbt ?_;refine hK.o _ _ ⟨zbl, QT⟩
    refine qaa ?_ ?_
    ·rintro b a w' ⟨ha, QT⟩ hb_ hon hoff;refine ⟨_, rfl, fun K hK => ?_⟩;have e15 : a.tmps[15]? = some (.pointer (some ⟨g, 0, none⟩)) := zon_ ha 5 rfl rfl hon;replace ha := z_ ha;refine qae (w1 := w') (v := .pointer (some ⟨g, 0, none⟩)) zbX rfl zbt ?_;refine hK.o _ _ ⟨zbm, QT⟩
    refine qaa ?_ ?_
    ·rintro b a w' ⟨ha, QT⟩ hb_ hon hoff;refine ⟨_, rfl, fun K hK => ?_⟩;have e16 : a.tmps[16]? = some (.pointer (some ⟨g, 0, none⟩)) := zon_ ha 6 rfl rfl hon;replace ha := z_ ha;have sB := z_ QT.1;have L7 := qac sB.o 0;simp only [List.getElem?_toArray, List.getElem?_cons_zero, List.getElem?_cons_succ] at L7;refine qae (w1 := w') (v := .slice A M1.length c) zbX rfl zbt ?_;refine hK.o _ _ ⟨zbn, QT⟩
    refine qaa ?_ ?_
    ·rintro b a w' ⟨ha, QT⟩ hb_ hon hoff;refine ⟨_, rfl, fun K hK => ?_⟩;have e17 : a.tmps[17]? = some (.slice A M1.length c) := zon_ ha 7 rfl rfl hon;replace ha := z_ ha;refine qae (w1 := w') (v := .int .i64 (M1.length : Int)) zbX rfl zbt ?_;refine hK.o _ _ ⟨zbo, QT⟩
    refine qaa ?_ ?_
    ·rintro b a w' ⟨ha, QT⟩ hb_ hon hoff;refine ⟨_, rfl, fun K hK => ?_⟩;have e13 : a.tmps[13]? = some (.int .i64 ((n : Int) + 1)) := zon_ ha 3 rfl rfl hon;have e18 : a.tmps[18]? = some (.int .i64 (M1.length : Int)) := zon_ ha 8 rfl rfl hon;replace ha := z_ ha;have hl_ := CL.o;refine qae (w1 := w') (v := .bool false) zbX rfl zbt ?_;refine hK.o _ _ ⟨zbp, QT⟩
    exact qbo
   rintro b a wB hall ⟨ha, QF, RF, UF⟩;clear HB2 p7 sB;have X2 := hall 0 zbS;have X1 := hall 1 zbS;have N2 := hall 2 zbS;have M2 := hall 3 zbS;have I2 := hall 4 zbS;have D3 := hall 5 zbS;have j3 := hall 6 zbS;have i3 := hall 7 zbS;have U2 := hall 8 zbS;have Y2 := hall 9 zbS;subst ha;simp only [qa7, X2, X1, N2, M2, I2, D3, j3, i3, U2, Y2, if_true, Act.put, List.setIfInBounds_toArray, List.set_cons_zero, List.set_cons_succ];have sB := z_ QF;clear QF;have HB2 := z_ RF;clear RF;have p7 := z_ UF;clear UF hall X2 X1 N2 M2 I2 D3 j3 i3 U2 Y2;have d1 := qac sB.o 1;have d2 := qac sB.o 2;have f2 := qab sB.o 2;simp only [List.getElem?_toArray, List.getElem?_cons_zero, List.getElem?_cons_succ] at d1 d2
   go_wp2_with fail
   go_ret
   have hE := HE.o;injection hE with e1 hE
   injection hE with e2 e3
   exact ⟨congrArg (fun z => Ending.returned (Value.int .i64 z)) e1, ⟨_, _, by rw [← e2, ← e3]; exact qdg sB.o 2 _, HG.o, HR.o⟩, HB2.o.setCell (p := ⟨g, 2, none⟩) HG.o _, p7.o.set_ 2 _⟩
def qbp.f (M1 : List Int) (N4 : Int) (V1 : Int) (a1 : Int) : Option (Int × Int × Int) := if a1 ≤ 1 then (some (0, N4, V1)) else (if a1 ≤ 256 then ((qaZ.f M1 N4 V1).bind fun UG => (if a1 = 0 then (none) else (some (Int.tmod UG.1 a1, UG.2.1, UG.2.2)))) else ((qaZ.f M1 N4 V1).bind fun KG => ((qaZ.f M1 KG.2.1 KG.2.2).bind fun JG => ((qaZ.f M1 JG.2.1 JG.2.2).bind fun TG => (if a1 = 0 then (none) else (some (Int.tmod (wrap64 ((wrap64 ((wrap64 (KG.1 * 65536)) + (wrap64 (JG.1 * 256)))) + TG.1)) a1, TG.2.1, TG.2.2)))))))
set_option maxHeartbeats 8000000 in
set_option maxRecDepth 100000 in
theorem qbp.calls (g : Nat) (M1 : List Int) (N4 : Int) (V1 : Int) (a1 : Int) (r1 : Int) (r2 : Int) (r3 : Int) (w0 w : World) (hI : IsS94 w0 w g M1 N4 V1) (hB : Below w0.heap.size w0 w) (h : qbp.f M1 N4 V1 a1 = some (r1, r2, r3)) :
  Calls Try.prog 55 #[.pointer (some ⟨g, 0, none⟩), .int .i64 a1] w fun e w' => e = .returned (.int .i64 r1) ∧ IsS94 w0 w' g M1 r2 r3 ∧ Below w0.heap.size w0 w' ∧ qaT w w' g none := by
 have HI0 := z_ hI;have HK := z_ (qaT.refl w g none);have HL := z_ hB.size;clear hI;have HW0 := z_ hB.size;have HB := z_ hB;clear hB;have H : (if a1 ≤ 1 then (some (0, N4, V1)) else (if a1 ≤ 256 then ((qaZ.f M1 N4 V1).bind fun UG => (if a1 = 0 then (none) else (some (Int.tmod UG.1 a1, UG.2.1, UG.2.2)))) else ((qaZ.f M1 N4 V1).bind fun KG => ((qaZ.f M1 KG.2.1 KG.2.2).bind fun JG => ((qaZ.f M1 JG.2.1 JG.2.2).bind fun TG => (if a1 = 0 then (none) else (some (Int.tmod (wrap64 ((wrap64 ((wrap64 (KG.1 * 65536)) + (wrap64 (JG.1 * 256)))) + TG.1)) a1, TG.2.1, TG.2.2)))))))) = some (r1, r2, r3) := h;clear h
 by_cases c3 : a1 ≤ 1
 ·rw [if_pos c3] at H;have M9 : decide (a1 ≤ 1) = true := decide_eq_true c3;clear c3;simp only [Option.some.injEq, Prod.mk.injEq] at H;obtain ⟨rfl, rfl, rfl⟩ := H
  go_enter Try.func55, Try.ntmps55
  go_wp2
  go_ret
  exact ⟨zaF, zai, by repeat (first | (with_reducible first | exact HB.o | apply qas | apply qaQ | apply qaP | refine qa4 ?_ (IsS94.ge HI0.o)) | exact HB.o), zam⟩
 ·rw [if_neg c3] at H;have M9 : decide (a1 ≤ 1) = false := decide_eq_false c3;clear c3
  by_cases c4 : a1 ≤ 256
  ·rw [if_pos c4] at H;have GB : decide (a1 ≤ 256) = true := decide_eq_true c4;clear c4;replace H := Option.bind_eq_some_iff.mp H;obtain ⟨⟨Bg, t143, Qg⟩, JI, H⟩ := H;try dsimp only at H
   have A5 := z_ JI;clear JI
   by_cases c6 : a1 = 0
   ·rw [if_pos c6] at H;exact absurd H zbW
   ·rw [if_neg c6] at H;have mH : (a1 == 0) = false := beq_eq_false_iff_ne.mpr c6;have uL : (a1 != 0) = true := bne_iff_ne.mpr c6;simp only [Option.some.injEq, Prod.mk.injEq] at H;obtain ⟨rfl, rfl, rfl⟩ := H
    go_enter Try.func55, Try.ntmps55
    go_wp2_with (first | ((with_reducible refine qaD (f := 82) rfl ?_); refine qbk (some 13) rfl rfl Try.func82 zbS rfl #[.pointer (some ⟨g, 0, none⟩)] rfl zao ?_; (with_reducible refine (qaZ.calls g M1 N4 V1 Bg t143 Qg w0 _ ?side1 ?side2 A5.o).mono ?_); (case side1 => repeat (first | (with_reducible first | exact HI0.o | apply IsS94.alloc | apply IsS94.drewN | apply IsS94.drew | apply IsS94.qff | apply IsS94.qfg) | exact HI0.o)); (case side2 => repeat (first | (with_reducible first | exact HB.o | apply qas | apply qaQ | apply qaP | refine qa4 ?_ (IsS94.ge HI0.o)) | exact HB.o)); rintro e w7 ⟨rfl, hi, hb, hk⟩; refine ⟨_, rfl, ?_⟩; have H0 := z_ (qaT.trans zam hk (.inl rfl)); have I0 := z_ (hb); have K0 := z_ (hi); clear HK HB HI0; have HK := H0; have HB := I0; have HI0 := K0; clear H0 I0 K0; (try clear hb); (try clear hb2); (try clear hk); (try clear hi)))
    go_ret
    exact ⟨zaF, zai, by repeat (first | (with_reducible first | exact HB.o | apply qas | apply qaQ | apply qaP | refine qa4 ?_ (IsS94.ge HI0.o)) | exact HB.o), zam⟩
  ·rw [if_neg c4] at H;have GB : decide (a1 ≤ 256) = false := decide_eq_false c4;clear c4;replace H := Option.bind_eq_some_iff.mp H;obtain ⟨⟨t145, t146, Ia⟩, jT, H⟩ := H;try dsimp only at H
   have A8 := z_ jT;clear jT;replace H := Option.bind_eq_some_iff.mp H;obtain ⟨⟨t148, SX, sZ⟩, RT, H⟩ := H;try dsimp only at H
   have A9 := z_ RT;clear RT;replace H := Option.bind_eq_some_iff.mp H;obtain ⟨⟨uf, t152, zh⟩, iJ, H⟩ := H;try dsimp only at H
   have kR := z_ iJ;clear iJ
   by_cases c11 : a1 = 0
   ·rw [if_pos c11] at H;exact absurd H zbW
   ·rw [if_neg c11] at H;have CE : (a1 == 0) = false := beq_eq_false_iff_ne.mpr c11;have Ca : (a1 != 0) = true := bne_iff_ne.mpr c11;simp only [Option.some.injEq, Prod.mk.injEq] at H;obtain ⟨rfl, rfl, rfl⟩ := H
    go_enter Try.func55, Try.ntmps55
    go_wp2_with (first | ((with_reducible refine qaD (f := 82) rfl ?_); refine qbk (some 17) rfl rfl Try.func82 zbS rfl #[.pointer (some ⟨g, 0, none⟩)] rfl zao ?_; (with_reducible refine (qaZ.calls g M1 N4 V1 t145 t146 Ia w0 _ ?side1 ?side2 A8.o).mono ?_); (case side1 => repeat (first | (with_reducible first | exact HI0.o | apply IsS94.alloc | apply IsS94.drewN | apply IsS94.drew | apply IsS94.qff | apply IsS94.qfg) | exact HI0.o)); (case side2 => repeat (first | (with_reducible first | exact HB.o | apply qas | apply qaQ | apply qaP | refine qa4 ?_ (IsS94.ge HI0.o)) | exact HB.o)); rintro e sL ⟨rfl, hi, hb, hk⟩; refine ⟨_, rfl, ?_⟩; have H0 := z_ (qaT.trans zam hk (.inl rfl)); have I0 := z_ (hb); have K0 := z_ (hi); clear HK HB HI0; have HK := H0; have HB := I0; have HI0 := K0; clear H0 I0 K0; (try clear hb); (try clear hb2); (try clear hk); (try clear hi)) | ((with_reducible refine qaD (f := 82) rfl ?_); refine qbk (some 19) rfl rfl Try.func82 zbS rfl #[.pointer (some ⟨g, 0, none⟩)] rfl zao ?_; (with_reducible refine (qaZ.calls g M1 t146 Ia t148 SX sZ w0 _ ?side1 ?side2 A9.o).mono ?_); (case side1 => repeat (first | (with_reducible first | exact HI0.o | apply IsS94.alloc | apply IsS94.drewN | apply IsS94.drew | apply IsS94.qff | apply IsS94.qfg) | exact HI0.o)); (case side2 => repeat (first | (with_reducible first | exact HB.o | apply qas | apply qaQ | apply qaP | refine qa4 ?_ (IsS94.ge HI0.o)) | exact HB.o)); rintro e DI ⟨rfl, hi, hb, hk⟩; refine ⟨_, rfl, ?_⟩; have H0 := z_ (qaT.trans zam hk (.inl rfl)); have I0 := z_ (hb); have K0 := z_ (hi); clear HK HB HI0; have HK := H0; have HB := I0; have HI0 := K0; clear H0 I0 K0; (try clear hb); (try clear hb2); (try clear hk); (try clear hi)) | ((with_reducible refine qaD (f := 82) rfl ?_); refine qbk (some 21) rfl rfl Try.func82 zbS rfl #[.pointer (some ⟨g, 0, none⟩)] rfl zao ?_; (with_reducible refine (qaZ.calls g M1 SX sZ uf t152 zh w0 _ ?side1 ?side2 kR.o).mono ?_); (case side1 => repeat (first | (with_reducible first | exact HI0.o | apply IsS94.alloc | apply IsS94.drewN | apply IsS94.drew | apply IsS94.qff | apply IsS94.qfg) | exact HI0.o)); (case side2 => repeat (first | (with_reducible first | exact HB.o | apply qas | apply qaQ | apply qaP | refine qa4 ?_ (IsS94.ge HI0.o)) | exact HB.o)); rintro e CK ⟨rfl, hi, hb, hk⟩; refine ⟨_, rfl, ?_⟩; have H0 := z_ (qaT.trans zam hk (.inl rfl)); have I0 := z_ (hb); have K0 := z_ (hi); clear HK HB HI0; have HK := H0; have HB := I0; have HI0 := K0; clear H0 I0 K0; (try clear hb); (try clear hb2); (try clear hk); (try clear hi)))
    go_ret
    exact ⟨zaF, zai, by repeat (first | (with_reducible first | exact HB.o | apply qas | apply qaQ | apply qaP | refine qa4 ?_ (IsS94.ge HI0.o)) | exact HB.o), zam⟩
def qbl.f (M1 : List Int) (N4 : Int) (V1 : Int) (l1 : List ByteArray) : Option (ByteArray × Int × Int) := if (l1.length : Int) = 0 then (some ((⟨#[]⟩ : ByteArray), N4, V1)) else ((qbp.f M1 N4 V1 (l1.length : Int)).bind fun rB => (if 0 ≤ rB.1 then (if rB.1 < (l1.length : Int) then (some (rdOf ByteArray.empty l1 rB.1, rB.2.1, rB.2.2)) else (none)) else (none)))
set_option maxHeartbeats 8000000 in
set_option maxRecDepth 100000 in
theorem qbl.calls (g : Nat) (M1 : List Int) (N4 : Int) (V1 : Int) (A1 : Option Addr) (c1 : Nat) (l1 : List ByteArray) (r1 : ByteArray) (r2 : Int) (r3 : Int) (w0 w : World) (hI : IsS94 w0 w g M1 N4 V1) (hB : Below w0.heap.size w0 w) (hr1 : Kd.C Kd.string w A1 l1.length l1) (hc1 : l1.length ≤ c1) (hf1 : ∀ ad, A1 = some ad → 0 < l1.length → ad.block ≠ g) (h : qbl.f M1 N4 V1 l1 = some (r1, r2, r3)) :
  Calls Try.prog 57 #[.pointer (some ⟨g, 0, none⟩), .slice A1 l1.length c1] w fun e w' => e = .returned (.string r1) ∧ IsS94 w0 w' g M1 r2 r3 ∧ Below w0.heap.size w0 w' ∧ qaT w w' g none := by
 have HR1 := z_ hr1;have eG := z_ hc1;clear hr1 hc1;have HI0 := z_ hI;have HK := z_ (qaT.refl w g none);have HL := z_ hB.size;clear hI;have HW0 := z_ hB.size;have HB := z_ hB;clear hB;have H : (if (l1.length : Int) = 0 then (some ((⟨#[]⟩ : ByteArray), N4, V1)) else ((qbp.f M1 N4 V1 (l1.length : Int)).bind fun rB => (if 0 ≤ rB.1 then (if rB.1 < (l1.length : Int) then (some (rdOf ByteArray.empty l1 rB.1, rB.2.1, rB.2.2)) else (none)) else (none)))) = some (r1, r2, r3) := h;clear h
 by_cases c3 : (l1.length : Int) = 0
 ·rw [if_pos c3] at H;have M9 : ((l1.length : Int) == 0) = true := beq_iff_eq.mpr c3;have nB : ((l1.length : Int) != 0) = false := bne_eq_false_iff_eq.mpr c3;clear c3;simp only [Option.some.injEq, Prod.mk.injEq] at H;obtain ⟨rfl, rfl, rfl⟩ := H
  go_enter Try.func57, Try.ntmps57
  go_wp2
  go_ret
  exact ⟨zaF, zai, by repeat (first | (with_reducible first | exact HB.o | apply qas | apply qaQ | apply qaP | refine qa4 ?_ (IsS94.ge HI0.o)) | exact HB.o), zam⟩
 ·rw [if_neg c3] at H;have M9 : ((l1.length : Int) == 0) = false := beq_eq_false_iff_ne.mpr c3;have nB : ((l1.length : Int) != 0) = true := bne_iff_ne.mpr c3;have AU : ¬ (l1 = []) := fun h_ => c3 (by rw [h_]; rfl)
  replace H := Option.bind_eq_some_iff.mp H;obtain ⟨⟨t154, Qf, t156⟩, KO, H⟩ := H;try dsimp only at H
  have A4 := z_ KO;clear KO
  by_cases c5 : 0 ≤ t154
  ·rw [if_pos c5] at H;have fE : decide (0 ≤ t154) = true := decide_eq_true c5;clear c5
   by_cases c6 : t154 < (l1.length : Int)
   ·rw [if_pos c6] at H;have mH : decide (t154 < (l1.length : Int)) = true := decide_eq_true c6;clear c6;simp only [Option.some.injEq, Prod.mk.injEq] at H;obtain ⟨rfl, rfl, rfl⟩ := H
    go_enter Try.func57, Try.ntmps57
    go_wp2_with (first | ((with_reducible refine qaD (f := 55) rfl ?_); refine qbk (some 12) rfl rfl Try.func55 zbS rfl #[.pointer (some ⟨g, 0, none⟩), .int .i64 (l1.length : Int)] rfl zao ?_; (with_reducible refine (qbp.calls g M1 N4 V1 (l1.length : Int) t154 Qf t156 w0 _ ?side1 ?side2 A4.o).mono ?_); (case side1 => repeat (first | (with_reducible first | exact HI0.o | apply IsS94.alloc | apply IsS94.drewN | apply IsS94.drew | apply IsS94.qff | apply IsS94.qfg) | exact HI0.o)); (case side2 => repeat (first | (with_reducible first | exact HB.o | apply qas | apply qaQ | apply qaP | refine qa4 ?_ (IsS94.ge HI0.o)) | exact HB.o)); rintro e w7 ⟨rfl, hi, hb, hk⟩; refine ⟨_, rfl, ?_⟩; have H0 := z_ (qaT.trans zam hk (.inl rfl)); have I0 := z_ (hb); have K0 := z_ (hi); clear HK HB HI0; have HK := H0; have HB := I0; have HI0 := K0; clear H0 I0 K0; (try clear hb); (try clear hb2); (try clear hk); (try clear hi); have GW : 0 ≤ (t154 : Int) := of_decide_eq_true zaN; have ZU : t154 < (l1.length : Int) := of_decide_eq_true zaN; obtain ⟨aZ, mf, BN⟩ := Kd.qbA HR1.o t154 GW ZU; cases mf; replace BN := qgY HK.o BN (by first | (rw [add_block]; exact hf1 _ rfl zbV) | exact hf1 _ rfl zbV | exact hf1 aZ rfl zbV); replace GW := eq_true GW; replace ZU := eq_true ZU))
    go_ret
    exact ⟨zaF, zai, by repeat (first | (with_reducible first | exact HB.o | apply qas | apply qaQ | apply qaP | refine qa4 ?_ (IsS94.ge HI0.o)) | exact HB.o), zam⟩
   ·rw [if_neg c6] at H;exact absurd H zbW
  ·rw [if_neg c5] at H;exact absurd H zbW
def qb4.f (M1 : List Int) (N4 : Int) (V1 : Int) : Option (ByteArray × Int × Int) := (qbl.f M1 N4 V1 (([(⟨#[97]⟩ : ByteArray), (⟨#[97, 98]⟩ : ByteArray), (⟨#[97, 98, 99]⟩ : ByteArray), (⟨#[98]⟩ : ByteArray), (⟨#[98, 47, 49]⟩ : ByteArray), (⟨#[98, 47, 50]⟩ : ByteArray), (⟨#[99]⟩ : ByteArray), (⟨#[100]⟩ : ByteArray), (⟨#[101]⟩ : ByteArray), (⟨#[102]⟩ : ByteArray), (⟨#[103]⟩ : ByteArray), (⟨#[104]⟩ : ByteArray)] : List ByteArray))).bind fun yB => (some (yB.1, yB.2.1, yB.2.2))
set_option maxHeartbeats 8000000 in
set_option maxRecDepth 100000 in
theorem qb4.calls (g : Nat) (M1 : List Int) (N4 : Int) (V1 : Int) (r1 : ByteArray) (r2 : Int) (r3 : Int) (w0 w : World) (hI : IsS94 w0 w g M1 N4 V1) (hB : Below w0.heap.size w0 w) (h : qb4.f M1 N4 V1 = some (r1, r2, r3)) :
  Calls Try.prog 30 #[.pointer (some ⟨g, 0, none⟩)] w fun e w' => e = .returned (.string r1) ∧ IsS94 w0 w' g M1 r2 r3 ∧ Below w0.heap.size w0 w' ∧ qaT w w' g none := by
 have HI0 := z_ hI;have HK := z_ (qaT.refl w g none);have HL := z_ hB.size;clear hI;have HW0 := z_ hB.size;have HB := z_ hB;clear hB;have H : ((qbl.f M1 N4 V1 (([(⟨#[97]⟩ : ByteArray), (⟨#[97, 98]⟩ : ByteArray), (⟨#[97, 98, 99]⟩ : ByteArray), (⟨#[98]⟩ : ByteArray), (⟨#[98, 47, 49]⟩ : ByteArray), (⟨#[98, 47, 50]⟩ : ByteArray), (⟨#[99]⟩ : ByteArray), (⟨#[100]⟩ : ByteArray), (⟨#[101]⟩ : ByteArray), (⟨#[102]⟩ : ByteArray), (⟨#[103]⟩ : ByteArray), (⟨#[104]⟩ : ByteArray)] : List ByteArray))).bind fun yB => (some (yB.1, yB.2.1, yB.2.2))) = some (r1, r2, r3) := h;clear h;obtain ⟨y158, hy158⟩ : ∃ y_ : List ByteArray, y_ = (([(⟨#[97]⟩ : ByteArray), (⟨#[97, 98]⟩ : ByteArray), (⟨#[97, 98, 99]⟩ : ByteArray), (⟨#[98]⟩ : ByteArray), (⟨#[98, 47, 49]⟩ : ByteArray), (⟨#[98, 47, 50]⟩ : ByteArray), (⟨#[99]⟩ : ByteArray), (⟨#[100]⟩ : ByteArray), (⟨#[101]⟩ : ByteArray), (⟨#[102]⟩ : ByteArray), (⟨#[103]⟩ : ByteArray), (⟨#[104]⟩ : ByteArray)] : List ByteArray)) := ⟨_, rfl⟩
 replace H : ((qbl.f M1 N4 V1 y158).bind fun yB => (some (yB.1, yB.2.1, yB.2.2))) = some (r1, r2, r3) := by first | (rw [hy158]; with_reducible exact H) | (have Y1 := (Option.bind_some _ _).symm.trans H; rw [hy158]; with_reducible exact Y1) | (have Y1 := (Option.bind_some _ _).symm.trans H; with_reducible exact Y1) | with_reducible exact H | (rw [hy158]; exact H) | exact H
 have rU := z_ hy158;clear hy158;replace H := Option.bind_eq_some_iff.mp H;obtain ⟨⟨bf, t162, tg⟩, LH, H⟩ := H;try dsimp only at H
 have A2 := z_ LH;clear LH;simp only [Option.some.injEq, Prod.mk.injEq] at H;obtain ⟨rfl, rfl, rfl⟩ := H
 go_enter Try.func30, Try.ntmps30
 go_wp2_with (first | ((with_reducible refine qaG (N := 4) rfl ?_); refine Kd.qcD Kd.string _ 9 zbX (N := 4) zbX (xs := ([(⟨#[97]⟩ : ByteArray), (⟨#[97, 98]⟩ : ByteArray), (⟨#[97, 98, 99]⟩ : ByteArray), (⟨#[98]⟩ : ByteArray), (⟨#[98, 47, 49]⟩ : ByteArray), (⟨#[98, 47, 50]⟩ : ByteArray), (⟨#[99]⟩ : ByteArray), (⟨#[100]⟩ : ByteArray), (⟨#[101]⟩ : ByteArray), (⟨#[102]⟩ : ByteArray), (⟨#[103]⟩ : ByteArray), (⟨#[104]⟩ : ByteArray)] : List ByteArray)) (inner := [.string (⟨#[97]⟩ : ByteArray), .string (⟨#[97, 98]⟩ : ByteArray), .string (⟨#[97, 98, 99]⟩ : ByteArray), .string (⟨#[98]⟩ : ByteArray), .string (⟨#[98, 47, 49]⟩ : ByteArray), .string (⟨#[98, 47, 50]⟩ : ByteArray), .string (⟨#[99]⟩ : ByteArray), .string (⟨#[100]⟩ : ByteArray), .string (⟨#[101]⟩ : ByteArray), .string (⟨#[102]⟩ : ByteArray), .string (⟨#[103]⟩ : ByteArray), .string (⟨#[104]⟩ : ByteArray)]) (ok := fun _ => True) (okp := fun _ => True) zbv ?hp (fun _ hk => hk) trivial (Below.refl _ _) (Nat.le_refl _) zbW ?_; (case hp => exact (Reps.one (show Kd.M Kd.string _ _ _ (⟨#[97]⟩ : ByteArray) [.string (⟨#[97]⟩ : ByteArray)] from rfl) (Reps.one (show Kd.M Kd.string _ _ _ (⟨#[97, 98]⟩ : ByteArray) [.string (⟨#[97, 98]⟩ : ByteArray)] from rfl) (Reps.one (show Kd.M Kd.string _ _ _ (⟨#[97, 98, 99]⟩ : ByteArray) [.string (⟨#[97, 98, 99]⟩ : ByteArray)] from rfl) (Reps.one (show Kd.M Kd.string _ _ _ (⟨#[98]⟩ : ByteArray) [.string (⟨#[98]⟩ : ByteArray)] from rfl) (Reps.one (show Kd.M Kd.string _ _ _ (⟨#[98, 47, 49]⟩ : ByteArray) [.string (⟨#[98, 47, 49]⟩ : ByteArray)] from rfl) (Reps.one (show Kd.M Kd.string _ _ _ (⟨#[98, 47, 50]⟩ : ByteArray) [.string (⟨#[98, 47, 50]⟩ : ByteArray)] from rfl) (Reps.one (show Kd.M Kd.string _ _ _ (⟨#[99]⟩ : ByteArray) [.string (⟨#[99]⟩ : ByteArray)] from rfl) (Reps.one (show Kd.M Kd.string _ _ _ (⟨#[100]⟩ : ByteArray) [.string (⟨#[100]⟩ : ByteArray)] from rfl) (Reps.one (show Kd.M Kd.string _ _ _ (⟨#[101]⟩ : ByteArray) [.string (⟨#[101]⟩ : ByteArray)] from rfl) (Reps.one (show Kd.M Kd.string _ _ _ (⟨#[102]⟩ : ByteArray) [.string (⟨#[102]⟩ : ByteArray)] from rfl) (Reps.one (show Kd.M Kd.string _ _ _ (⟨#[103]⟩ : ByteArray) [.string (⟨#[103]⟩ : ByteArray)] from rfl) (Reps.one (show Kd.M Kd.string _ _ _ (⟨#[104]⟩ : ByteArray) [.string (⟨#[104]⟩ : ByteArray)] from rfl) (Reps.none _ _)))))))))))))); intro v159 w3 FF hb F5 Z1; clear F5 Z1; (first | rw [← rU.o] at FF | (simp only [Int.reduceToNat] at FF; rw [← rU.o] at FF)); have H0 := z_ (Kd.qa9 FF (qja (w := w) (g := g) (row := none) zam)); have I0 := z_ (IsS94.below zai hb); have K0 := z_ (qaT.trans zam (qaT.of_below hb g none) (.inl rfl)); have U0 := z_ (qad (by repeat (first | (with_reducible first | exact HB.o | apply qas | apply qaQ | apply qaP | refine qa4 ?_ (IsS94.ge HI0.o)) | exact HB.o)) hb); clear HI0 HK HB; have ZG := H0; have HI0 := I0; have HK := K0; have HB := U0; clear H0 I0 K0 U0 hb FF; obtain ⟨Lc, Hc, Ng⟩ := Kd.qbi ZG.o; subst Ng) | ((with_reducible refine qaD (f := 57) rfl ?_); refine qbk (some 5) rfl rfl Try.func57 zbS rfl #[.pointer (some ⟨g, 0, none⟩), .slice Lc y158.length Hc] rfl zao ?_; (with_reducible refine (qbl.calls g M1 N4 V1 _ _ y158 bf t162 tg w0 _ ?side1 ?side2 ?side3 ?side4 ?side5 A2.o).mono ?_); (case side1 => repeat (first | (with_reducible first | exact HI0.o | apply IsS94.alloc | apply IsS94.drewN | apply IsS94.drew | apply IsS94.qff | apply IsS94.qfg) | exact HI0.o)); (case side2 => repeat (first | (with_reducible first | exact HB.o | apply qas | apply qaQ | apply qaP | refine qa4 ?_ (IsS94.ge HI0.o)) | exact HB.o)); (case side3 => exact zad ((Kd.qaU ZG.o).2.2)); (case side4 => exact (Kd.qaU ZG.o).2.1); (case side5 => exact qi9 (IsS94.own_ne HI0.o ZG.o zbT)); rintro e w6 ⟨rfl, hi, hb, hk⟩; refine ⟨_, rfl, ?_⟩; have H0 := z_ (Kd.qbb (Kd.R_keep (IsS94.apart (show IsS94 w0 _ g M1 N4 V1 from zai) (zae ZG.o) zbT) hk (fun _ h => h.2)) (fun _ h => h.1)); have I0 := z_ (qaT.trans zam hk (.inl rfl)); have K0 := z_ (hb); have U0 := z_ (hi); clear ZG HK HB HI0; have ZG := H0; have HK := I0; have HB := K0; have HI0 := U0; clear H0 I0 K0 U0; (try clear hb); (try clear hb2); (try clear hk); (try clear hi)))
 go_ret
 exact ⟨zaF, zai, by repeat (first | (with_reducible first | exact HB.o | apply qas | apply qaQ | apply qaP | refine qa4 ?_ (IsS94.ge HI0.o)) | exact HB.o), zam⟩
def qbn.f (M1 : List Int) (N4 : Int) (V1 : Int) (a1 : Int) : Option (Bool × Int × Int) := (qbp.f M1 N4 V1 a1).bind fun PG => (some ((PG.1 == (wrap64 (a1 - 1))), PG.2.1, PG.2.2))
set_option maxHeartbeats 8000000 in
set_option maxRecDepth 100000 in
theorem qbn.calls (g : Nat) (M1 : List Int) (N4 : Int) (V1 : Int) (a1 : Int) (r1 : Bool) (r2 : Int) (r3 : Int) (w0 w : World) (hI : IsS94 w0 w g M1 N4 V1) (hB : Below w0.heap.size w0 w) (h : qbn.f M1 N4 V1 a1 = some (r1, r2, r3)) :
  Calls Try.prog 56 #[.pointer (some ⟨g, 0, none⟩), .int .i64 a1] w fun e w' => e = .returned (.bool r1) ∧ IsS94 w0 w' g M1 r2 r3 ∧ Below w0.heap.size w0 w' ∧ qaT w w' g none := by
 have HI0 := z_ hI;have HK := z_ (qaT.refl w g none);have HL := z_ hB.size;clear hI;have HW0 := z_ hB.size;have HB := z_ hB;clear hB;have H : ((qbp.f M1 N4 V1 a1).bind fun PG => (some ((PG.1 == (wrap64 (a1 - 1))), PG.2.1, PG.2.2))) = some (r1, r2, r3) := h;clear h;replace H := Option.bind_eq_some_iff.mp H;obtain ⟨⟨Wf, Ge, lh⟩, jI, H⟩ := H;try dsimp only at H
 have A3 := z_ jI;clear jI;simp only [Option.some.injEq, Prod.mk.injEq] at H;obtain ⟨rfl, rfl, rfl⟩ := H
 go_enter Try.func56, Try.ntmps56
 go_wp2_with (first | ((with_reducible refine qaD (f := 55) rfl ?_); refine qbk (some 7) rfl rfl Try.func55 zbS rfl #[.pointer (some ⟨g, 0, none⟩), .int .i64 a1] rfl zao ?_; (with_reducible refine (qbp.calls g M1 N4 V1 a1 Wf Ge lh w0 _ ?side1 ?side2 A3.o).mono ?_); (case side1 => repeat (first | (with_reducible first | exact HI0.o | apply IsS94.alloc | apply IsS94.drewN | apply IsS94.drew | apply IsS94.qff | apply IsS94.qfg) | exact HI0.o)); (case side2 => repeat (first | (with_reducible first | exact HB.o | apply qas | apply qaQ | apply qaP | refine qa4 ?_ (IsS94.ge HI0.o)) | exact HB.o)); rintro e w4 ⟨rfl, hi, hb, hk⟩; refine ⟨_, rfl, ?_⟩; have H0 := z_ (qaT.trans zam hk (.inl rfl)); have I0 := z_ (hb); have K0 := z_ (hi); clear HK HB HI0; have HK := H0; have HB := I0; have HI0 := K0; clear H0 I0 K0; (try clear hb); (try clear hb2); (try clear hk); (try clear hi)))
 go_ret
 exact ⟨zaF, zai, by repeat (first | (with_reducible first | exact HB.o | apply qas | apply qaQ | apply qaP | refine qa4 ?_ (IsS94.ge HI0.o)) | exact HB.o), zam⟩
def qfd : List ByteArray := [⟨#[]⟩, ⟨#[49]⟩, ⟨#[118, 97, 108, 117, 101]⟩]
open Classical in
noncomputable def forestF : Nat → List Int → List S75 → Int → Int → Int → Int → Option (List S75 × Int × Int × Int × Int)
 | 0, _, h, root, kept, n, sd => if GoodF h root kept 0 then some (h, root, kept, n, sd) else none
 | i + 1, code, h, root, kept, n, sd =>
  if GoodF h root kept (i + 1) then
   (qb4.f code n sd).bind fun t =>
   (if hasAt (walkR h root).1 t.1 = true then qbn.f code t.2.1 t.2.2 3 else some (false, t.2.1, t.2.2)).bind fun c =>
   (if c.1 = true then some ((⟨#[]⟩ : ByteArray), c.2.1, c.2.2) else qbl.f code c.2.1 c.2.2 qfd).bind fun v =>
   if keyB t.1 = true ∧ v.1.size ≤ 90 then
    (qbn.f code v.2.1 v.2.2 7).bind fun k =>
    forestF i code (qbh h root kept c.1 t.1 v.1).1 (qbh h root kept c.1 t.1 v.1).2.1 (if k.1 = true then (qbh h root kept c.1 t.1 v.1).2.1 else kept) k.2.1 k.2.2
   else none
  else none
theorem qh5 {code : List Int} {h : List S75} {root kept n sd : Int} {R : List S75 × Int × Int × Int × Int} (e : forestF 0 code h root kept n sd = some R) : GoodF h root kept 0 ∧ (h, root, kept, n, sd) = R := by
 unfold forestF at e
 split at e
 ·rename_i hg; exact ⟨hg, Option.some.inj e⟩
 ·cases e
theorem qh6 {i : Nat} {code : List Int} {h : List S75} {root kept n sd : Int} {R : List S75 × Int × Int × Int × Int} (e : forestF (i + 1) code h root kept n sd = some R) : GoodF h root kept (i + 1) ∧ ∃ key n1 LK dr n2 II v n3 KK kp n4 uQ, qb4.f code n sd = some (key, n1, LK) ∧ (hasAt (walkR h root).1 key = true → qbn.f code n1 LK 3 = some (dr, n2, II)) ∧ (hasAt (walkR h root).1 key = false → dr = false ∧ n2 = n1 ∧ II = LK) ∧ (dr = true → v = ⟨#[]⟩ ∧ n3 = n2 ∧ KK = II) ∧ (dr = false → qbl.f code n2 II qfd = some (v, n3, KK)) ∧ keyB key = true ∧ v.size ≤ 90 ∧ qbn.f code n3 KK 7 = some (kp, n4, uQ) ∧ forestF i code (qbh h root kept dr key v).1 (qbh h root kept dr key v).2.1 (if kp = true then (qbh h root kept dr key v).2.1 else kept) n4 uQ = some R := by
 rw [forestF] at e
 split at e
 case isFalse => cases e
 rename_i hg;refine ⟨hg, ?_⟩;obtain ⟨⟨key, n1, LK⟩, e1, e⟩ := Option.bind_eq_some_iff.1 e;obtain ⟨⟨dr, n2, II⟩, e2, e⟩ := Option.bind_eq_some_iff.1 e;obtain ⟨⟨v, n3, KK⟩, e3, e⟩ := Option.bind_eq_some_iff.1 e;simp only at e1 e2 e3 e
 split at e
 case isFalse => cases e
 rename_i hk;obtain ⟨⟨kp, n4, uQ⟩, e4, e⟩ := Option.bind_eq_some_iff.1 e;simp only at e4 e;refine ⟨key, n1, LK, dr, n2, II, v, n3, KK, kp, n4, uQ, e1, fun hh => ?_, fun hh => ?_, fun hh => ?_, fun hh => ?_, hk.1, hk.2, e4, e⟩
 ·rw [if_pos hh] at e2; exact e2
 ·rw [if_neg (by rw [hh]; decide)] at e2;have e2 := Option.some.inj e2;injection e2 with a1 a2
  injection a2 with a2 a3
  exact ⟨a1.symm, a2.symm, a3.symm⟩
 ·rw [if_pos hh] at e3;have e3 := Option.some.inj e3;injection e3 with a1 a2
  injection a2 with a2 a3
  exact ⟨a1.symm, a2.symm, a3.symm⟩
 ·rw [if_neg (by rw [hh]; decide)] at e3; exact e3
theorem GoodF.walks {h : List S75} {root kept : Int} {i : Nat} (hg : GoodF h root kept i) : (walkR h root).2.2 = true ∧ (walkR h kept).2.2 = true := by
 obtain ⟨d, ps, pg, d1, d2, ht, hf, hl⟩ := hg.root;obtain ⟨e, ps2, SP, e1, ht2, hf2, hl2⟩ := hg.kept;rw [qej hg.len zbV ht hf zbV, qej hg.len e1 ht2 hf2 zbV];exact ⟨rfl, rfl⟩
theorem GoodF.reached {h : List S75} {root kept : Int} {i : Nat} (hg : GoodF h root kept i) : ∃ k, qag.f k h [root, kept] = some (qcf h [root, kept], true) := by
 have hr : Ev (fun k => qag.f k h [root, kept]) (qeM h [root, kept] noneW) := by
  unfold qag.f;have := qgl (qdH hg.tiny) [root, kept] zbW 2 0 noneW zbW (List.length_replicate ..);exact Ev.pos (by have := hg.len; omega) this
 rw [qhA noneW (fun r hr => by
  simp only [List.mem_cons, List.not_mem_nil, or_false] at hr
  rcases hr with rfl | rfl
  ·exact hg.walks.1
  ·exact hg.walks.2)] at hr
 obtain ⟨k, hk⟩ := hr;exact ⟨k, hk k (Nat.le_refl _)⟩
theorem GoodF.change {h : List S75} {root kept : Int} {i : Nat} (hg : GoodF h root kept (i + 1)) (drop : Bool) {key v : ByteArray} (hk : keyB key = true) (hv : v.size ≤ 90) : ∃ d ps pg, qcW h d root ps pg ∧ (∀ j, j ∈ pg → qbj (qcf h [root, kept]) j) ∧ d ≤ 20 ∧ ((qbX h root (qcf h [root, kept]) (dopB drop key v) key [⟨key, v⟩]).2.2.2 = false → ∃ e ps' pg', e ≤ 22 ∧ PD (TrD (qbX h root (qcf h [root, kept]) (dopB drop key v) key [⟨key, v⟩]).2.1 e) (qbX h root (qcf h [root, kept]) (dopB drop key v) key [⟨key, v⟩]).1 ps' pg') := by
 obtain ⟨d, ps, pg, d1, d2, ht, hf, hl⟩ := hg.root;have hu := hg.used zbV ht hf zbV;exact ⟨d, ps, pg, ht, hu, zbV, built_ok hg.len (qdI _ _) ht hu hf (qhC drop hk hv) ⟨fine_one hk hv, zbW⟩ zbV⟩
theorem qjW {h : List S75} {root kept : Int} {drop : Bool} {key v : ByteArray} (hl : h.length = 50) : (qbh h root kept drop key v).1.length = 50 := by
 unfold qbh qbC
 split
 ·exact hl
 ·exact qcT _ _
theorem qjX {h : List S75} {root kept : Int} {drop : Bool} {key v : ByteArray} (hr : (qbh h root kept drop key v).2.2 = false) : (qbh h root kept drop key v).1 = h := by
 unfold qbh qbC at hr ⊢
 split at hr
 ·rename_i hc; rw [if_pos hc]
 ·cases hr
structure FrAt (w0 w wr : World) (g gh gr : Nat) (s0 : List Int) (n sd : Int) (gn cn : Nat) (hs : List S75) : Prop where
 box : IsS94 w0 wr g s0 n sd
 below : Below w0.heap.size w0 wr
 keep : qaT w wr g none
 rows : Kd.S k75 75 wr w.heap.size (fun k => k ≠ g) (.slice (some ⟨gn, 0, none⟩) hs.length cn) hs
 boxh : wr.heap[gh]? = some (.cells #[.slice (some ⟨gn, 0, none⟩) hs.length cn] 25 (0, 0))
 boxr : wr.heap[gr]? = some (.cells #[.slice none 0 0] 25 (0, 0))
 geh : w.heap.size ≤ gh
 ger : w.heap.size ≤ gr
 ne : gr ≠ gh
 le : w0.heap.size ≤ w.heap.size
section
variable {w0 w wr w1 : World} {g gh gr : Nat} {s0 : List Int} {n sd n' sd' : Int} {gn cn : Nat} {hs : List S75}
theorem FrAt.qbE (h : FrAt w0 w wr g gh gr s0 n sd gn cn hs) (hb : Below wr.heap.size wr w1) : FrAt w0 w w1 g gh gr s0 n sd gn cn hs :=
 ⟨h.box.below hb, qad h.below hb, h.keep.trans (qaT.of_below hb g none) (.inl rfl), Kd.qck h.rows hb, qap h.boxh hb, qap h.boxr hb, h.geh, h.ger, h.ne, h.le⟩
theorem FrAt.nh (h : FrAt w0 w wr g gh gr s0 n sd gn cn hs) : g ≠ gh := h.box.qiC h.boxh zbT
theorem FrAt.nr (h : FrAt w0 w wr g gh gr s0 n sd gn cn hs) : g ≠ gr := h.box.qiC h.boxr zbT
theorem FrAt.draw (h : FrAt w0 w wr g gh gr s0 n sd gn cn hs) (hi : IsS94 w0 w1 g s0 n' sd') (hb : Below w0.heap.size w0 w1) (hk : qaT wr w1 g none) : FrAt w0 w w1 g gh gr s0 n' sd' gn cn hs :=
 ⟨hi, hb, h.keep.trans hk (.inl rfl), Kd.S_keep h.rows hk (fun _ h => h), hk.blk h.boxh h.nh.symm zbW, hk.blk h.boxr h.nr.symm zbW, h.geh, h.ger, h.ne, h.le⟩
theorem FrAt.put {gm cm : Nat} {ms : List S75} (h : FrAt w0 w wr g gh gr s0 n sd gn cn hs) (hb : Below wr.heap.size wr w1) (hn : Kd.S k75 75 w1 w.heap.size (fun k => k ≠ g) (.slice (some ⟨gm, 0, none⟩) ms.length cm) ms) : FrAt w0 w (w1.setCell ⟨gh, 0, none⟩ (.slice (some ⟨gm, 0, none⟩) ms.length cm)) g gh gr s0 n sd gm cm ms :=
 have h' := h.qbE hb
 ⟨h'.box.far (p := ⟨gh, 0, none⟩) h'.nh _, h'.below.setCell (p := ⟨gh, 0, none⟩) (Nat.le_trans h.le h.geh) _, qie h'.keep (p := ⟨gh, 0, none⟩) h.geh _, Kd.qji hn h'.boxh qjP 0 _, qbm h'.boxh 0 _ rfl, qbF h'.boxr (p := ⟨gh, 0, none⟩) h.ne _, h.geh, h.ger, h.ne, h.le⟩
theorem FrAt.changed {root kept : Int} {i : Nat} {drop : Bool} {key x : ByteArray} {v : Value} (h : FrAt w0 w wr g gh gr s0 n sd gn cn hs) (hg : GoodF hs root kept i) (hb : Below wr.heap.size wr w1) (hf : (qbh hs root kept drop key x).2.2 = false → v = .slice (some ⟨gn, 0, none⟩) hs.length cn) (ht : (qbh hs root kept drop key x).2.2 = true → Kd.S k75 75 w1 wr.heap.size (fun _ => True) v (qbh hs root kept drop key x).1) : ∃ gm cm, v = .slice (some ⟨gm, 0, none⟩) (qbh hs root kept drop key x).1.length cm ∧ Kd.S k75 75 w1 w.heap.size (fun k => k ≠ g) (.slice (some ⟨gm, 0, none⟩) (qbh hs root kept drop key x).1.length cm) (qbh hs root kept drop key x).1 := by
 cases hr : (qbh hs root kept drop key x).2.2 with
 | false =>
  rw [qjX hr];exact ⟨gn, cn, hf hr, Kd.qck h.rows hb⟩
 | true =>
  have hS := ht hr;obtain ⟨gm, cm, rfl, _, _⟩ := Kd.qii hS (by rw [qjW hg.len]; omega);exact ⟨gm, cm, rfl, Kd.qdZ (Kd.qcx (Kd.qet hS) (fun k hk e => by have := h.box.lt; have := hk.2.1; omega)) h.keep.1⟩
end
end Go.Proofs.Ytcdokcpiahbejaa.X
