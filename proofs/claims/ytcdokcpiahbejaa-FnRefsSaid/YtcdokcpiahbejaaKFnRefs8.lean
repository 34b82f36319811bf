import Derived.Test.YtcdokcpiahbejaaKFnRefs7
namespace Go.Proofs.Ytcdokcpiahbejaa.X
open Go.RowKit Go.Proofs.YtcdokcpiahbejaaW.PrintWords Go.Proofs.YtcdokcpiahbejaaW.PrintLast Go.Proofs.YtcdokcpiahbejaaW.PrintMore
attribute [local go_sem] qax qay qaz qat qau qaJ qaK qam qan qav qaw
set_option linter.unusedVariables false
set_option linter.unusedSimpArgs false
def qcZ (ps : List S77) : Option ByteArray := ps.head?.map (·.f0)
def PD (T : Nat → List S77 → List Nat → Prop) : List (ByteArray × Nat) → List S77 → List Nat → Prop
 | [], ps, pg => ps = [] ∧ pg = []
 | m :: r, ps, pg => ∃ p1 p2 g1 g2, ps = p1 ++ p2 ∧ pg = g1 ++ g2 ∧ T m.2 p1 g1 ∧ qcZ p1 = some m.1 ∧ PD T r p2 g2
def partsOf (x : S75) : List (ByteArray × Nat) := x.f2.zip (x.f3.map Int.toNat)
def TrD (ns : List S75) : Nat → Nat → List S77 → List Nat → Prop
 | 0, _, _, _ => False
 | d + 1, k, ps, pg => ∃ x, ns[k]? = some x ∧ nbN x = true ∧ fbN x = false ∧ ((x.f0 = true ∧ ps = x.f1 ∧ pg = [k]) ∨ (x.f0 = false ∧ ∃ pg', pg = k :: pg' ∧ PD (TrD ns d) (partsOf x) ps pg'))
theorem qgE {T T' : Nat → List S77 → List Nat → Prop} : ∀ (ms : List (ByteArray × Nat)) (ps : List S77) (pg : List Nat), (∀ k p g, (∀ i, i ∈ g → i ∈ pg) → T k p g → T' k p g) → PD T ms ps pg → PD T' ms ps pg := by
 intro ms
 induction ms with
 | nil => intro ps pg _ h; exact h
 | cons m r ih =>
  intro ps pg hT h;obtain ⟨p1, p2, g1, g2, e1, e2, h1, h2, h3⟩ := h;exact ⟨p1, p2, g1, g2, e1, e2, hT _ _ _ (fun i hi => by rw [e2]; exact List.mem_append_left _ hi) h1, h2, ih p2 g2 (fun k p g hg => hT k p g (fun i hi => by rw [e2]; exact List.mem_append_right _ (hg i hi))) h3⟩
theorem qhq {T : Nat → List S77 → List Nat → Prop} : ∀ (ms ms' : List (ByteArray × Nat)) (ps ps' : List S77) (pg pg' : List Nat), PD T ms ps pg → PD T ms' ps' pg' → PD T (ms ++ ms') (ps ++ ps') (pg ++ pg') := by
 intro ms
 induction ms with
 | nil => intro ms' ps ps' pg pg' h h'; obtain ⟨rfl, rfl⟩ := h; exact h'
 | cons m r ih =>
  intro ms' ps ps' pg pg' h h';obtain ⟨p1, p2, g1, g2, rfl, rfl, h1, h2, h3⟩ := h;exact ⟨p1, p2 ++ ps', g1, g2 ++ pg', by rw [List.append_assoc], by rw [List.append_assoc], h1, h2, ih ms' p2 ps' g2 pg' h3 h'⟩
theorem qis {T : Nat → List S77 → List Nat → Prop} : ∀ (ms ms' : List (ByteArray × Nat)) (ps : List S77) (pg : List Nat), PD T (ms ++ ms') ps pg → ∃ p1 p2 g1 g2, ps = p1 ++ p2 ∧ pg = g1 ++ g2 ∧ PD T ms p1 g1 ∧ PD T ms' p2 g2 := by
 intro ms
 induction ms with
 | nil => intro ms' ps pg h; exact ⟨[], ps, [], pg, rfl, rfl, ⟨rfl, rfl⟩, h⟩
 | cons m r ih =>
  intro ms' ps pg h;obtain ⟨p1, p2, g1, g2, rfl, rfl, h1, h2, h3⟩ := h;obtain ⟨q1, q2, r1, r2, rfl, rfl, i1, i2⟩ := ih ms' p2 g2 h3;exact ⟨p1 ++ q1, q2, g1 ++ r1, r2, by rw [List.append_assoc], by rw [List.append_assoc], ⟨p1, q1, g1, r1, rfl, rfl, h1, h2, i1⟩, i2⟩
theorem PD_one {T : Nat → List S77 → List Nat → Prop} {m : ByteArray × Nat} {ps : List S77} {pg : List Nat} : PD T [m] ps pg ↔ T m.2 ps pg ∧ qcZ ps = some m.1 := by
 constructor
 ·rintro ⟨p1, p2, g1, g2, rfl, rfl, h1, h2, rfl, rfl⟩;rw [List.append_nil, List.append_nil];exact ⟨h1, h2⟩
 ·rintro ⟨h1, h2⟩;exact ⟨ps, [], pg, [], zbW, zbW, h1, h2, rfl, rfl⟩
theorem qdD {ns ns' : List S75} : ∀ (d k : Nat) (ps : List S77) (pg : List Nat), (∀ i, i ∈ pg → ns'[i]? = ns[i]?) → TrD ns d k ps pg → TrD ns' d k ps pg := by
 intro d
 induction d with
 | zero => intro k ps pg _ h; exact h
 | succ d ih =>
  intro k ps pg hs h;obtain ⟨x, hx, hb, hf, h⟩ := h;have hk : k ∈ pg := by
   rcases h with ⟨_, _, rfl⟩ | ⟨_, pg', rfl, _⟩
   ·exact List.mem_singleton.2 rfl
   ·exact List.mem_cons_self
  refine ⟨x, (hs k hk).trans hx, hb, hf, ?_⟩
  rcases h with h | ⟨h0, pg', rfl, hp⟩
  ·exact .inl h
  ·exact .inr ⟨h0, pg', rfl, qgE _ _ _ (fun k p g hg ht => ih k p g (fun i hi => hs i (List.mem_cons_of_mem _ (hg i hi))) ht) hp⟩
theorem qit {ns : List S75} : ∀ (d k : Nat) (ps : List S77) (pg : List Nat), TrD ns d k ps pg → TrD ns (d + 1) k ps pg := by
 intro d
 induction d with
 | zero => intro k ps pg h; exact h.elim
 | succ d ih =>
  intro k ps pg h;obtain ⟨x, hx, hb, hf, h⟩ := h;refine ⟨x, hx, hb, hf, ?_⟩
  rcases h with h | ⟨h0, pg', rfl, hp⟩
  ·exact .inl h
  ·exact .inr ⟨h0, pg', rfl, qgE _ _ _ (fun k p g _ ht => ih k p g ht) hp⟩
theorem qiu {ns : List S75} {d e : Nat} (h : d ≤ e) {k : Nat} {ps : List S77} {pg : List Nat} (ht : TrD ns d k ps pg) : TrD ns e k ps pg := by
 obtain ⟨n, rfl⟩ : ∃ n, e = d + n := ⟨e - d, zbV⟩
 clear h
 induction n with
 | zero => exact ht
 | succ n ih => exact qit _ _ _ _ ih
theorem qcB {x : S75} (hb : nbN x = true) (hf : fbN x = false) (hl : x.f0 = false) : x.f3 = (partsOf x).map (fun p => (p.2 : Int)) ∧ x.f2 = (partsOf x).map (·.1) ∧ (partsOf x).length = x.f3.length ∧ (∀ p, p ∈ partsOf x → p.2 < 50) := by
 obtain ⟨_, _, _, h2, h3⟩ := qcz hb hf hl;have hk : ∀ k, k ∈ x.f3 → 0 ≤ k ∧ k ≤ 49 := fun k hk => by
  obtain ⟨i, hi, rfl⟩ := List.getElem_of_mem hk;have := h3 i hi
  rwa [show rd x.f3 (i : Int) = x.f3[i] from by unfold rd; rw [Int.toNat_natCast]; simp [List.getD_eq_getElem?_getD, hi]] at this
 have hlen : (x.f3.map Int.toNat).length = x.f3.length := List.length_map _;have e1 : (partsOf x).map (·.1) = x.f2 := by unfold partsOf; exact List.map_fst_zip zbV
 have e2 : (partsOf x).map (·.2) = x.f3.map Int.toNat := by unfold partsOf; exact List.map_snd_zip zbV
 refine ⟨?_, e1.symm, by unfold partsOf; rw [List.length_zip]; omega, fun p hp => ?_⟩
 ·rw [show (partsOf x).map (fun p => (p.2 : Int)) = ((partsOf x).map (·.2)).map (fun (n : Nat) => (n : Int)) from by rw [List.map_map]; rfl, e2, List.map_map];refine (List.map_id _).symm.trans (List.map_congr_left fun k hk2 => ?_);have := hk k hk2
  show k = ((k.toNat : Nat) : Int)
  omega
 ·have : p.2 ∈ x.f3.map Int.toNat := e2 ▸ List.mem_map_of_mem hp;obtain ⟨k, hk2, e⟩ := List.mem_map.1 this;have := hk k hk2;omega
theorem qhZ {ns : List S75} {d k : Nat} {ps : List S77} {pg : List Nat} (h : TrD ns d k ps pg) : k ∈ pg ∧ k < ns.length := by
 cases d with
 | zero => exact h.elim
 | succ d =>
  obtain ⟨x, hx, _, _, h⟩ := h;refine ⟨?_, (List.getElem?_eq_some_iff.1 hx).1⟩
  rcases h with ⟨_, _, rfl⟩ | ⟨_, pg', rfl, _⟩
  ·exact List.mem_singleton.2 rfl
  ·exact List.mem_cons_self
theorem qeI {ns : List S75} : ∀ (d k : Nat) (ps : List S77) (pg : List Nat), TrD ns d k ps pg → ∀ i, i ∈ pg → i < ns.length := by
 intro d
 induction d with
 | zero => intro k ps pg h; exact h.elim
 | succ d ih =>
  intro k ps pg h i hi;have hk := qhZ h;obtain ⟨x, hx, _, _, h⟩ := h
  rcases h with ⟨_, _, rfl⟩ | ⟨_, pg', rfl, hp⟩
  ·rw [List.mem_singleton.1 hi]; exact hk.2
  ·rcases List.mem_cons.1 hi with rfl | hi
   ·exact hk.2
   ·have hall : ∀ (ms : List (ByteArray × Nat)) (ps : List S77) (pg : List Nat), PD (TrD ns d) ms ps pg → ∀ i, i ∈ pg → i < ns.length := by
     intro ms
     induction ms with
     | nil => intro ps pg h i hi; rw [h.2] at hi; cases hi
     | cons m r ih2 =>
      intro ps pg h i hi;obtain ⟨p1, p2, g1, g2, rfl, rfl, h1, _, h3⟩ := h
      rcases List.mem_append.1 hi with hi | hi
      ·exact ih _ _ _ h1 i hi
      ·exact ih2 _ _ h3 i hi
    exact hall _ _ _ hp i hi
def markL (s : List Bool) (pg : List Nat) : List Bool := pg.foldl (fun s i => s.set i true) s
theorem qe7 (s : List Bool) (a b : List Nat) : markL s (a ++ b) = markL (markL s a) b := by unfold markL; rw [List.foldl_append]
theorem qhr (pg : List Nat) : ∀ s : List Bool, (markL s pg).length = s.length := by
 induction pg with
 | nil => intro s; rfl
 | cons i r ih => intro s; exact (ih (s.set i true)).trans List.length_set
theorem qdE (pg : List Nat) : ∀ (s : List Bool) (i : Nat), i < s.length → (markL s pg)[i]? = some (s.getD i false || decide (i ∈ pg)) := by
 induction pg with
 | nil => intro s i h; simp [markL, List.getD_eq_getElem?_getD, h]
 | cons j r ih =>
  intro s i h;have e := ih (s.set j true) i (by rw [List.length_set]; exact h);refine (show (markL s (j :: r))[i]? = (markL (s.set j true) r)[i]? from rfl).trans (e.trans ?_)
  congr 1
  by_cases hij : j = i
  ·subst hij;simp [List.getD_eq_getElem?_getD, h]
  ·have : (s.set j true).getD i false = s.getD i false := by simp [List.getD_eq_getElem?_getD, List.getElem?_set_ne hij]
   rw [this];simp [show ¬ i = j from fun e => hij e.symm]
theorem qc8 (s : List Bool) (i : Nat) : rdOf false s (i : Int) = s.getD i false := by unfold rdOf; rw [Int.toNat_natCast]
theorem qeY {p q : List S77} (h : q ≠ []) : qcZ q = some (qcR (p ++ q) p.length) := by
 cases q with
 | nil => exact absurd rfl h
 | cons a r =>
  unfold qcZ;rw [qdB zbW];simp
theorem walk_of {ns : List S75} : ∀ (d k : Nat) (ps : List S77) (pg : List Nat), TrD ns d k ps pg → pg.Nodup → ∀ (s : List Bool) (p : List S77), s.length = ns.length → (∀ i, i ∈ pg → s.getD i false = false) → walkW ns d (k : Int) s p = (true, markL s pg, p ++ ps) := by
 intro d
 induction d with
 | zero => intro k ps pg h; exact h.elim
 | succ d ih =>
  intro k ps pg h hn s p hs hu;have hk := qhZ h;obtain ⟨x, hx, hb, hf, h⟩ := h;have hr : qaH ns (k : Int) = x := by unfold qaH; rw [Int.toNat_natCast]; simp [List.getD_eq_getElem?_getD, hx]
  unfold walkW;rw [if_pos ⟨zbV, by have := hk.2; omega, by rw [qc8]; exact hu k hk.1, by rw [hr]; exact hb, by rw [hr]; exact hf⟩, hr, Int.toNat_natCast];have hall : ∀ (ms : List (ByteArray × Nat)) (ps : List S77) (pg : List Nat) (s : List Bool) (p : List S77), PD (TrD ns d) ms ps pg → pg.Nodup → s.length = ns.length → (∀ i, i ∈ pg → s.getD i false = false) → kidsW (walkW ns d) (ms.map (fun p => (p.2 : Int))) (ms.map (·.1)) s p = (true, markL s pg, p ++ ps) := by
   intro ms
   induction ms with
   | nil => intro ps pg s p h _ _ _; obtain ⟨rfl, rfl⟩ := h; rw [List.map_nil, qdk, List.append_nil]; rfl
   | cons m r ih2 =>
    intro ps pg s p h hn hs hu;obtain ⟨p1, p2, g1, g2, rfl, rfl, h1, h2, h3⟩ := h;have hn1 := (List.nodup_append.1 hn);have e := ih m.2 p1 g1 h1 hn1.1 s p hs (fun i hi => hu i (List.mem_append_left _ hi));have hne : p1 ≠ [] := fun e => by rw [e] at h2; cases h2
    rw [List.map_cons, List.map_cons, qdA, e, if_pos ⟨rfl, by rw [List.length_append]; have := List.length_pos_iff.2 hne; omega, by rw [qeY (p := p) hne] at h2; rw [Option.some.inj h2]⟩];rw [ih2 p2 g2 (markL s g1) (p ++ p1) h3 hn1.2.1 (by rw [qhr]; exact hs) (fun i hi => by
     have hlt : i < s.length := by
      rw [hs];have hall2 := fun (j : Nat) (hj : j ∈ g2) => qeI (ns := ns)
      by_cases hlt : i < ns.length
      ·exact hlt
      ·have := hu i (List.mem_append_right _ hi)
       exfalso
       have hp : ∀ (ms : List (ByteArray × Nat)) (ps : List S77) (pg : List Nat), PD (TrD ns d) ms ps pg → ∀ i, i ∈ pg → i < ns.length := by
        intro ms
        induction ms with
        | nil => intro ps pg h i hi; rw [h.2] at hi; cases hi
        | cons m r ih3 =>
         intro ps pg h i hi;obtain ⟨_, _, _, _, rfl, rfl, h1, _, h3⟩ := h
         rcases List.mem_append.1 hi with hi | hi
         ·exact qeI _ _ _ _ h1 i hi
         ·exact ih3 _ _ h3 i hi
       exact hlt (hp _ _ _ h3 i hi)
     have hg := qdE g1 s i hlt;rw [List.getD_eq_getElem?_getD, hg, hu i (List.mem_append_right _ hi)];have hno : i ∉ g1 := fun h => hn1.2.2 i h i hi rfl
     simp [hno]), qe7, List.append_assoc]
  rcases h with ⟨hl, rfl, rfl⟩ | ⟨hl, pg', rfl, hp⟩
  ·obtain ⟨z3, z2, _⟩ := qc0 hb hf hl;rw [z3, z2, qdk];rfl
  ·obtain ⟨e3, e2, _⟩ := qcB hb hf hl;have e1 := (qcz hb hf hl).1;have hn2 := List.nodup_cons.1 hn;have := hall (partsOf x) ps pg' (s.set k true) (p ++ x.f1) hp hn2.2 (by rw [List.length_set]; exact hs) (fun i hi => by
    have hne : k ≠ i := fun e => hn2.1 (e ▸ hi)
    have h0 := hu i (List.mem_cons_of_mem _ hi);rw [List.getD_eq_getElem?_getD] at h0 ⊢;rw [List.getElem?_set_ne hne];exact h0)
   rw [e1, List.append_nil] at this ⊢;rw [e3, e2];rw [← e3, ← e2] at this;rw [← e3, ← e2];exact this
theorem of_walk {ns : List S75} : ∀ (d : Nat) (k : Int) (s : List Bool) (p : List S77), s.length = ns.length → (walkW ns d k s p).1 = true → 0 ≤ k ∧ ∃ ps pg, TrD ns d k.toNat ps pg ∧ pg.Nodup ∧ (∀ i, i ∈ pg → s.getD i false = false) ∧ walkW ns d k s p = (true, markL s pg, p ++ ps) := by
 intro d
 induction d with
 | zero => intro k s p _ h; cases h
 | succ d ih =>
  intro k s p hs h;unfold walkW at h ⊢
  by_cases hg : goodW ns k s
  case neg => rw [if_neg hg] at h; cases h
  rw [if_pos hg] at h ⊢;obtain ⟨h0, h1, h2, h3, h4⟩ := hg;obtain ⟨n, rfl⟩ : ∃ n : Nat, k = (n : Int) := ⟨k.toNat, zbV⟩
  rw [Int.toNat_natCast] at h ⊢;have hlt : n < ns.length := zbV;have hx : ns[n]? = some (qaH ns (n : Int)) := by unfold qaH; rw [Int.toNat_natCast]; simp [List.getD_eq_getElem?_getD, hlt]
  generalize qaH ns (n : Int) = x at *;rw [qc8] at h2;refine ⟨h0, ?_⟩;have hall : ∀ (ms : List (ByteArray × Nat)) (s : List Bool) (p : List S77), s.length = ns.length → (kidsW (walkW ns d) (ms.map (fun p => (p.2 : Int))) (ms.map (·.1)) s p).1 = true → ∃ ps pg, PD (TrD ns d) ms ps pg ∧ pg.Nodup ∧ (∀ i, i ∈ pg → i < ns.length ∧ s.getD i false = false) ∧ kidsW (walkW ns d) (ms.map (fun p => (p.2 : Int))) (ms.map (·.1)) s p = (true, markL s pg, p ++ ps) := by
   intro ms
   induction ms with
   | nil => intro s p _ _; exact ⟨[], [], ⟨rfl, rfl⟩, List.nodup_nil, (fun i hi => (by cases hi)), by rw [List.map_nil, qdk, List.append_nil]; rfl⟩
   | cons m r ih2 =>
    intro s p hs h;rw [List.map_cons, List.map_cons, qdA] at h ⊢
    by_cases hc : (walkW ns d (m.2 : Int) s p).1 = true ∧ p.length < (walkW ns d (m.2 : Int) s p).2.2.length ∧ (qcR (walkW ns d (m.2 : Int) s p).2.2 p.length).toList = m.1.toList
    case neg => rw [if_neg hc] at h; cases h
    rw [if_pos hc] at h ⊢;obtain ⟨_, p1, g1, t1, n1, u1, e1⟩ := ih (m.2 : Int) s p hs hc.1;rw [Int.toNat_natCast] at t1;rw [e1] at h hc ⊢;simp only at h hc ⊢;obtain ⟨p2, g2, t2, n2, u2, e2⟩ := ih2 (markL s g1) (p ++ p1) (by rw [qhr]; exact hs) h;have hne : p1 ≠ [] := fun e => by have := hc.2.1; rw [e, List.append_nil] at this; omega
    have hk : qcZ p1 = some m.1 := by
     rw [qeY (p := p) hne];exact congrArg some (ba_ext hc.2.2)
    have hdis : ∀ i, i ∈ g2 → i ∉ g1 := fun i h2 h1 => by
     have := u2 i h2;have hg := qdE g1 s i (by rw [hs]; exact this.1);rw [List.getD_eq_getElem?_getD, hg] at this;simp [h1] at this
    refine ⟨p1 ++ p2, g1 ++ g2, ⟨p1, p2, g1, g2, rfl, rfl, t1, hk, t2⟩, List.nodup_append.2 ⟨n1, n2, fun a ha b hb e => hdis b hb (e ▸ ha)⟩, fun i hi => ?_, ?_⟩
    ·rcases List.mem_append.1 hi with hi | hi
     ·exact ⟨qeI _ _ _ _ t1 i hi, u1 i hi⟩
     ·have := u2 i hi;have hg := qdE g1 s i (by rw [hs]; exact this.1);refine ⟨this.1, ?_⟩;have h9 := this.2;rw [List.getD_eq_getElem?_getD, hg] at h9;simp at h9;rw [List.getD_eq_getElem?_getD];exact h9.1
    ·rw [e2, qe7, List.append_assoc]
  cases hl : x.f0 with
  | true =>
   obtain ⟨z3, z2, _⟩ := qc0 h3 h4 hl;refine ⟨x.f1, [n], ⟨x, hx, h3, h4, .inl ⟨hl, rfl, rfl⟩⟩, List.nodup_cons.2 ⟨zbW, List.nodup_nil⟩, fun i hi => by rw [List.mem_singleton.1 hi]; exact h2, ?_⟩;rw [z3, z2, qdk];rfl
  | false =>
   obtain ⟨e3, e2, _⟩ := qcB h3 h4 hl;have e1 := (qcz h3 h4 hl).1;rw [e1, List.append_nil] at h ⊢;rw [e3, e2] at h ⊢;obtain ⟨ps, pg, t, nd, u, e⟩ := hall (partsOf x) (s.set n true) p (by rw [List.length_set]; exact hs) h;have hno : n ∉ pg := fun hn => by
    have := (u n hn).2;rw [List.getD_eq_getElem?_getD, List.getElem?_set_self zbV] at this
    cases this
   refine ⟨ps, n :: pg, ⟨x, hx, h3, h4, .inr ⟨hl, pg, rfl, t⟩⟩, List.nodup_cons.2 ⟨hno, nd⟩, fun i hi => ?_, by rw [e]; rfl⟩
   rcases List.mem_cons.1 hi with rfl | hi
   ·exact h2
   ·have h9 := (u i hi).2;have hne : n ≠ i := fun e => hno (e ▸ hi)
    rw [List.getD_eq_getElem?_getD, List.getElem?_set_ne hne] at h9;rw [List.getD_eq_getElem?_getD];exact h9
def qbj (u : List Bool) (i : Nat) : Prop := u.getD i false = true
def firstFree (u : List Bool) : Nat := u.findIdx (fun b => !b)
def layB (x : S75) (b : List S75 × List Bool × Bool) : Nat × List S75 × List Bool × Bool := if firstFree b.2.1 < b.2.1.length then (firstFree b.2.1, b.1.set (firstFree b.2.1) x, b.2.1.set (firstFree b.2.1) true, b.2.2) else (0, b.1, b.2.1, true)
def qcl {α : Type} (most : Nat) (l : List α) : List (List α) := if most < l.length then [l.take ((l.length + 1) / 2), l.drop ((l.length + 1) / 2)] else if l.length = 0 then [] else [l]
def layAll {α : Type} (f : List α → ByteArray × S75) : List (List α) → List S75 × List Bool × Bool → List (ByteArray × Nat) × List S75 × List Bool × Bool
 | [], b => ([], b)
 | c :: cs, b => (((f c).1, (layB (f c).2 b).1) :: (layAll f cs (layB (f c).2 b).2).1, (layAll f cs (layB (f c).2 b).2).2)
def leafF (c : List S77) : ByteArray × S75 := (qcR c 0, ⟨true, c, [], []⟩)
def qaN (c : List (ByteArray × Nat)) : ByteArray × S75 := ((c.map (·.1)).headD ByteArray.empty, ⟨false, [], c.map (·.1), c.map (fun p => (p.2 : Int))⟩)
def qb6 (l : List S77) (b : List S75 × List Bool × Bool) := layAll leafF (qcl 3 l) b
def qcp (c : List (ByteArray × Nat)) (b : List S75 × List Bool × Bool) := layAll qaN (qcl 4 c) b
def qcm (ls : List ByteArray) (key : ByteArray) : Nat := (ls.drop 1).findIdx (fun m => Op.bytesLess key.toList m.toList)
def qbx (dop : List S77 → List S77) (key : ByteArray) : Nat → Nat → List S75 × List Bool × Bool → List (ByteArray × Nat) × List S75 × List Bool × Bool
 | 0, _, b => ([], b)
 | n + 1, k, b =>
  if (b.1.getD k z75).f0 = true then qb6 (dop (b.1.getD k z75).f1) b
  else qcp ((partsOf (b.1.getD k z75)).take (qcm (b.1.getD k z75).f2 key) ++ (qbx dop key n ((partsOf (b.1.getD k z75)).getD (qcm (b.1.getD k z75).f2 key) (ByteArray.empty, 0)).2 b).1 ++ (partsOf (b.1.getD k z75)).drop (qcm (b.1.getD k z75).f2 key + 1)) (qbx dop key n ((partsOf (b.1.getD k z75)).getD (qcm (b.1.getD k z75).f2 key) (ByteArray.empty, 0)).2 b).2
structure BG (b c : List S75 × List Bool × Bool) : Prop where
 len : c.1.length = b.1.length
 lenu : c.2.1.length = b.2.1.length
 stay : ∀ i, qbj b.2.1 i → qbj c.2.1 i ∧ c.1[i]? = b.1[i]?
 full : b.2.2 = true → c.2.2 = true
theorem BG.refl (b : List S75 × List Bool × Bool) : BG b b := ⟨rfl, rfl, fun _ h => ⟨h, rfl⟩, id⟩
theorem BG.trans {a b c : List S75 × List Bool × Bool} (h : BG a b) (k : BG b c) : BG a c := ⟨k.len.trans h.len, k.lenu.trans h.lenu, fun i hi => ⟨(k.stay i (h.stay i hi).1).1, (k.stay i (h.stay i hi).1).2.trans (h.stay i hi).2⟩, fun x => k.full (h.full x)⟩
theorem BG.qeZ {a b : List S75 × List Bool × Bool} (h : BG a b) (hf : b.2.2 = false) : a.2.2 = false := by
 cases e : a.2.2 with
 | false => rfl
 | true => rw [h.full e] at hf; cases hf
theorem qe8 {u : List Bool} (h : firstFree u < u.length) : u.getD (firstFree u) false = false := by
 have := List.findIdx_getElem (w := h);rw [List.getD_eq_getElem?_getD, List.getElem?_eq_getElem h];unfold firstFree at this ⊢
 simpa using this
theorem qh0 (x : S75) (b : List S75 × List Bool × Bool) : BG b (layB x b).2 := by
 unfold layB
 split
 ·rename_i h;have h0 := qe8 h;refine ⟨zbW, zbW, fun i hi => ?_, id⟩;have hne : firstFree b.2.1 ≠ i := fun e => by unfold qbj at hi; rw [← e, h0] at hi; cases hi
  refine ⟨?_, by simp only; rw [List.getElem?_set_ne hne]⟩;unfold qbj at hi ⊢;rw [List.getD_eq_getElem?_getD] at hi ⊢;simp only;rw [List.getElem?_set_ne hne];exact hi
 ·exact ⟨rfl, rfl, fun i hi => ⟨hi, rfl⟩, fun _ => rfl⟩
theorem layB_new {x : S75} {b : List S75 × List Bool × Bool} (hl : b.1.length = b.2.1.length) (h : (layB x b).2.2.2 = false) : (layB x b).2.1[(layB x b).1]? = some x ∧ qbj (layB x b).2.2.1 (layB x b).1 ∧ ¬ qbj b.2.1 (layB x b).1 ∧ (layB x b).1 < b.2.1.length := by
 unfold layB at h ⊢
 split at h
 ·rename_i hf;rw [if_pos hf];simp only;refine ⟨List.getElem?_set_self zbV, ?_, ?_, hf⟩
  ·unfold qbj;rw [List.getD_eq_getElem?_getD, List.getElem?_set_self hf];rfl
  ·unfold qbj;rw [qe8 hf]
   decide
 ·cases h
theorem qdb {α : Type} (f : List α → ByteArray × S75) : ∀ (cs : List (List α)) (b : List S75 × List Bool × Bool), BG b (layAll f cs b).2 := by
 intro cs
 induction cs with
 | nil => intro b; exact BG.refl b
 | cons c cs ih => intro b; exact (qh0 (f c).2 b).trans (ih _)
theorem qcr {α : Type} (f : List α → ByteArray × S75) : ∀ (cs : List (List α)) (b : List S75 × List Bool × Bool), (layAll f cs b).1.length = cs.length := by
 intro cs
 induction cs with
 | nil => intro b; rfl
 | cons c cs ih => intro b; show _ + 1 = _ + 1; rw [ih]
theorem qcs {α : Type} (most : Nat) (l : List α) : (qcl most l).length ≤ 2 ∧ (l.length ≤ most → (qcl most l).length ≤ 1) := by
 unfold qcl
 split
 ·exact ⟨Nat.le_refl _, fun h => absurd h zbV⟩
 ·split <;> simp
def NodeB (b : List S75 × List Bool × Bool) (d : Nat) (x : S75) (ps : List S77) (pg : List Nat) : Prop := nbN x = true ∧ fbN x = false ∧ ((x.f0 = true ∧ ps = x.f1 ∧ pg = []) ∨ (x.f0 = false ∧ PD (TrD b.1 d) (partsOf x) ps pg))
def qe9 {α : Type} (f : List α → ByteArray × S75) (b : List S75 × List Bool × Bool) (d : Nat) : List (List α) → List S77 → List Nat → Prop
 | [], ps, pg => ps = [] ∧ pg = []
 | c :: cs, ps, pg => ∃ p1 p2 g1 g2, ps = p1 ++ p2 ∧ pg = g1 ++ g2 ∧ qcZ p1 = some (f c).1 ∧ NodeB b d (f c).2 p1 g1 ∧ qe9 f b d cs p2 g2
theorem NodeB.on {b c : List S75 × List Bool × Bool} (hb : BG b c) {d : Nat} {x : S75} {ps : List S77} {pg : List Nat} (h : NodeB b d x ps pg) (hu : ∀ i, i ∈ pg → qbj b.2.1 i) : NodeB c d x ps pg := by
 obtain ⟨h1, h2, h3⟩ := h;refine ⟨h1, h2, ?_⟩
 rcases h3 with h3 | ⟨h3, h4⟩
 ·exact .inl h3
 ·exact .inr ⟨h3, qgE _ _ _ (fun k p g hg ht => qdD _ _ _ _ (fun i hi => (hb.stay i (hu i (hg i hi))).2) ht) h4⟩
theorem qe9.on {α : Type} {f : List α → ByteArray × S75} {b c : List S75 × List Bool × Bool} (hb : BG b c) {d : Nat} : ∀ (cs : List (List α)) (ps : List S77) (pg : List Nat), qe9 f b d cs ps pg → (∀ i, i ∈ pg → qbj b.2.1 i) → qe9 f c d cs ps pg := by
 intro cs
 induction cs with
 | nil => intro ps pg h _; exact h
 | cons a cs ih =>
  intro ps pg h hu;obtain ⟨p1, p2, g1, g2, rfl, rfl, h1, h2, h3⟩ := h;exact ⟨p1, p2, g1, g2, rfl, rfl, h1, h2.on hb (fun i hi => hu i (List.mem_append_left _ hi)), ih p2 g2 h3 (fun i hi => hu i (List.mem_append_right _ hi))⟩
theorem qd5 {α : Type} (f : List α → ByteArray × S75) (d : Nat) : ∀ (cs : List (List α)) (b : List S75 × List Bool × Bool) (ps : List S77) (pg : List Nat), b.1.length = b.2.1.length → qe9 f b d cs ps pg → pg.Nodup → (∀ i, i ∈ pg → qbj b.2.1 i) → (layAll f cs b).2.2.2 = false →
  ∃ pg', PD (TrD (layAll f cs b).2.1 (d + 1)) (layAll f cs b).1 ps pg' ∧ pg'.Nodup ∧ (∀ i, i ∈ pg' → qbj (layAll f cs b).2.2.1 i) ∧ (∀ i, i ∈ pg' → i ∈ pg ∨ ¬ qbj b.2.1 i) := by
 intro cs
 induction cs with
 | nil =>
  intro b ps pg _ h _ _ _;obtain ⟨rfl, rfl⟩ := h;exact ⟨[], ⟨rfl, rfl⟩, List.nodup_nil, (fun i hi => (by cases hi)), (fun i hi => (by cases hi))⟩
 | cons c cs ih =>
  intro b ps pg hlen h hn hu hf;obtain ⟨p1, p2, g1, g2, rfl, rfl, h1, h2, h3⟩ := h;have hn1 := List.nodup_append.1 hn;have hb1 := qh0 (f c).2 b;have hb2 := qdb f cs (layB (f c).2 b).2;have hf1 : (layB (f c).2 b).2.2.2 = false := hb2.qeZ hf;obtain ⟨e1, e2, e3, e4⟩ := layB_new hlen hf1;have hu1 : ∀ i, i ∈ g1 → qbj b.2.1 i := fun i hi => hu i (List.mem_append_left _ hi)
  have hu2 : ∀ i, i ∈ g2 → qbj b.2.1 i := fun i hi => hu i (List.mem_append_right _ hi)
  obtain ⟨pg', t, nd, us, or⟩ := ih (layB (f c).2 b).2 p2 g2 (by rw [hb1.len, hb1.lenu]; exact hlen) (qe9.on hb1 _ _ _ h3 hu2) hn1.2.1 (fun i hi => (hb1.stay i (hu2 i hi)).1) hf;have hN := (h2.on hb1 hu1).on hb2 (fun i hi => (hb1.stay i (hu1 i hi)).1);refine ⟨((layB (f c).2 b).1 :: g1) ++ pg', ⟨p1, p2, (layB (f c).2 b).1 :: g1, pg', rfl, rfl, ?_, h1, t⟩, ?_, ?_, ?_⟩
  ·refine ⟨(f c).2, ((hb2.stay _ e2).2).trans e1, hN.1, hN.2.1, ?_⟩
   rcases hN.2.2 with ⟨a1, a2, a3⟩ | ⟨a1, a2⟩
   ·exact .inl ⟨a1, a2, by rw [a3]⟩
   ·exact .inr ⟨a1, g1, rfl, a2⟩
  ·refine List.nodup_append.2 ⟨List.nodup_cons.2 ⟨fun hi => e3 (hu1 _ hi), hn1.1⟩, nd, fun a ha b' hb' e => ?_⟩;subst e
   rcases List.mem_cons.1 ha with rfl | ha
   ·rcases or _ hb' with h | h
    ·exact e3 (hu2 _ h)
    ·exact h e2
   ·rcases or _ hb' with h | h
    ·exact hn1.2.2 a ha a h rfl
    ·exact h (hb1.stay a (hu1 a ha)).1
  ·intro i hi
   rcases List.mem_append.1 hi with hi | hi
   ·rcases List.mem_cons.1 hi with rfl | hi
    ·exact (hb2.stay _ e2).1
    ·exact (hb2.stay _ (hb1.stay i (hu1 i hi)).1).1
   ·exact us i hi
  ·intro i hi
   rcases List.mem_append.1 hi with hi | hi
   ·rcases List.mem_cons.1 hi with rfl | hi
    ·exact .inr e3
    ·exact .inl (List.mem_append_left _ hi)
   ·rcases or i hi with h | h
    ·exact .inl (List.mem_append_right _ h)
    ·exact .inr fun hh => h (hb1.stay i hh).1
theorem qdQ {a b c : List S77} (h : Fine (a ++ b ++ c)) : Fine b := by
 refine ⟨fun p hp => h.1 p (List.mem_append_left _ (List.mem_append_right _ hp)), ?_⟩;have h2 := h.2;unfold Rises at h2 ⊢;exact (List.pairwise_append.1 (List.pairwise_append.1 h2).1).2.1
theorem qgh {c : List S77} (h : Fine c) (h1 : 1 ≤ c.length) (h3 : c.length ≤ 3) : nbN (leafF c).2 = true ∧ fbN (leafF c).2 = false := by
 have hf : fbN (leafF c).2 = false := by unfold fbN freeB leafF; rfl
 refine ⟨?_, hf⟩;unfold nbN nodeB;unfold fbN at hf;rw [hf];have hp : qda c = true := qd2.2 ⟨zbV, h.1, h.2⟩;unfold leafF inB;simp only [Bool.false_or, if_true, Bool.and_eq_true, decide_eq_true_eq, List.length_nil];exact ⟨⟨zbV, zbV⟩, hp, by trivial, by trivial⟩
theorem PD_keys {T : Nat → List S77 → List Nat → Prop} : ∀ (ms : List (ByteArray × Nat)) (ps : List S77) (pg : List Nat), PD T ms ps pg → Fine ps → (ms.map (·.1)).Pairwise (fun a b => Op.bytesLess a.toList b.toList = true) ∧ (∀ m, m ∈ ms → keyB m.1 = true ∧ ∃ p, p ∈ ps ∧ p.f0 = m.1) := by
 intro ms
 induction ms with
 | nil => intro ps pg _ _; exact ⟨List.Pairwise.nil, fun m hm => by cases hm⟩
 | cons m r ih =>
  intro ps pg h hf;obtain ⟨p1, p2, g1, g2, rfl, rfl, h1, h2, h3⟩ := h;have hf1 : Fine p1 := qdQ (a := []) (b := p1) (c := p2) (by simpa using hf);have hf2 : Fine p2 := qdQ (a := p1) (b := p2) (c := []) (by simpa using hf);obtain ⟨i1, i2⟩ := ih p2 g2 h3 hf2
  cases p1 with
  | nil => cases h2
  | cons a q =>
   have ha : a.f0 = m.1 := Option.some.inj h2;have hlt : ∀ p, p ∈ p2 → Op.bytesLess m.1.toList p.f0.toList = true := fun p hp => by
    rw [← ha];exact (List.pairwise_append.1 hf.2).2.2 a List.mem_cons_self p hp
   refine ⟨?_, fun x hx => ?_⟩
   ·rw [List.map_cons, List.pairwise_cons];refine ⟨fun y hy => ?_, i1⟩;obtain ⟨z, hz, rfl⟩ := List.mem_map.1 hy;obtain ⟨_, p, hp, e⟩ := i2 z hz;rw [← e];exact hlt p hp
   ·rcases List.mem_cons.1 hx with rfl | hx
    ·refine ⟨?_, a, List.mem_append_left _ List.mem_cons_self, ha⟩;have := hf.1 a (List.mem_append_left _ List.mem_cons_self);unfold okP at this;rw [Bool.and_eq_true, ha] at this;exact this.1
    ·obtain ⟨k, p, hp, e⟩ := i2 x hx;exact ⟨k, p, List.mem_append_right _ hp, e⟩
theorem qiv {c : List (ByteArray × Nat)} {i : Nat} (h : i < c.length) : rdOf ByteArray.empty (c.map (·.1)) (i : Int) = c[i].1 := by
 unfold rdOf;rw [Int.toNat_natCast];simp [List.getD_eq_getElem?_getD, h]
theorem qh1 {c : List (ByteArray × Nat)} (h1 : 1 ≤ c.length) (h4 : c.length ≤ 4) (hk : ∀ m, m ∈ c → keyB m.1 = true ∧ m.2 < 50) (hr : (c.map (·.1)).Pairwise (fun a b => Op.bytesLess a.toList b.toList = true)) : nbN (qaN c).2 = true ∧ fbN (qaN c).2 = false ∧ partsOf (qaN c).2 = c := by
 have hf : fbN (qaN c).2 = false := by
  unfold fbN freeB qaN;simp;intro e;rw [e] at h1;simp at h1
 refine ⟨?_, hf, ?_⟩
 ·unfold nbN nodeB;unfold fbN at hf;rw [hf];unfold qaN inB;simp only [Bool.false_or, Bool.false_eq_true, if_false, Bool.and_eq_true, decide_eq_true_eq, List.length_nil, List.length_map];refine ⟨trivial, ⟨zbV, zbV⟩, trivial, qio.2 fun i hi => ?_⟩;have hm := hk c[i] (List.getElem_mem _);unfold kidAt inB;rw [qiv hi, show rd (c.map (fun p => (p.2 : Int))) (i : Int) = (c[i].2 : Int) from by unfold rd; rw [Int.toNat_natCast]; simp [List.getD_eq_getElem?_getD, hi]];simp only [Bool.and_eq_true, decide_eq_true_eq, Bool.or_eq_true];refine ⟨⟨zbV, zbV⟩, hm.1, ?_⟩
  by_cases h0 : i = 0
  ·exact .inl h0
  ·refine .inr ?_;rw [qiv (show i - 1 < c.length from zbV)];have := (List.pairwise_iff_getElem.1 hr) (i - 1) i (by rw [List.length_map]; omega) (by rw [List.length_map]; omega) zbV
   simpa using this
 ·unfold partsOf qaN;simp only;rw [List.map_map];have : (c.map (Int.toNat ∘ fun p => (p.2 : Int))) = c.map (·.2) := List.map_congr_left fun p _ => Int.toNat_natCast _
  rw [this];clear hf hr hk h1 h4 this
  induction c with
  | nil => rfl
  | cons a r ih => simp only [List.map_cons, List.zip_cons_cons, ih]
def sPutN.T6 : Bool × List (List Nat × List Nat) := (true, [([], []), ([0], [0]), ([1], [1]), ([2], [2]), ([3], [3]), ([], []), ([], []), ([6], [6]), ([4, 5, 0, 1, 2, 3, 4, 5, 6, 7], [4, 5]), ([8, 7, 7, 0, 1, 2, 3, 4, 5, 6, 7], [7, 8])])
def sPutN.B6 : List Nat := [0, 1, 3, 7, 15, 0, 0, 64, 255, 511]
theorem sPutN.tab6 : rtab .any (opsOf Try.f92 6) = sPutN.T6 := zbS
theorem sPutN.bits6 : qbv sPutN.T6.2 sPutN.B6 = true := zbS
theorem ne_tB : ∀ q, q ∈ 4 :: Kd.bool.E → q ≠ 75 := fun q hq => by
 have : q = 4 := zbA;rw [this]; decide
theorem qhs {u : List Bool} {i : Nat} (hi : i < u.length) (h0 : u.getD i false = false) (h : ∀ j, j < i → qbj u j) : firstFree u = i := by
 unfold firstFree;refine (List.findIdx_eq hi).2 ⟨?_, fun j hj => ?_⟩
 ·rw [List.getD_eq_getElem?_getD, List.getElem?_eq_getElem hi] at h0
  simpa using h0
 ·have := h j hj;unfold qbj at this;rw [List.getD_eq_getElem?_getD, List.getElem?_eq_getElem zbV] at this
  simpa using this
theorem qf6 {u : List Bool} (h : ∀ j, j < u.length → qbj u j) : firstFree u = u.length := by
 unfold firstFree;refine List.findIdx_eq_length.2 fun x hx => ?_
 obtain ⟨j, hj, rfl⟩ := List.getElem_of_mem hx;have := h j hj;unfold qbj at this;rw [List.getD_eq_getElem?_getD, List.getElem?_eq_getElem hj] at this
 simpa using this
theorem ne_tB2 : ∀ q, q ∈ 4 :: Kd.bool.E → q ≠ 111 := fun q hq => by
 have : q = 4 := zbA;rw [this]; decide
theorem ne_tN : ∀ q, q ∈ 75 :: k75.E → q ≠ 4 := fun q hq => by
 simp only [k75, Kd.iso, Kd.pair, Kd.bool, Kd.slice, Kd.scalar, k77, Kd.string, Kd.int, List.mem_cons, List.mem_append, List.not_mem_nil, or_false, false_or] at hq
 rcases hq with rfl | rfl | rfl | rfl <;> decide
set_option maxHeartbeats 16000000 in
set_option maxRecDepth 100000 in
theorem sput (w0 w : World) (g gn cn gu cu : Nat) (b : List S75 × List Bool × Bool) (hB : Below w0.heap.size w0 w) (hb : BsAt w0 w g gn cn gu cu b) (hl : b.1.length = 50 ∧ b.2.1.length = 50) (x : S75) (A1 : Option Addr) (c1 : Nat) (A2 : Option Addr) (c2 : Nat) (A3 : Option Addr) (c3 : Nat) (P : Nat → Prop) (hP : ∀ k, P k → ¬ S3 g gn gu k) (f1 : Kd.F k77 w P A1 x.f1.length x.f1) (l1 : x.f1.length ≤ c1) (f2 : Kd.F Kd.string w P A2 x.f2.length x.f2) (l2 : x.f2.length ≤ c2) (f3 : Kd.F (Kd.int .i64) w P A3 x.f3.length x.f3) (l3 : x.f3.length ≤ c3) (hx : x.f1.length ≤ 1000000 ∧ x.f2.length ≤ 1000000 ∧ x.f3.length ≤ 1000000) :
  Calls Try.prog 92 #[.pointer (some ⟨g, 0, none⟩), .agg #[.bool x.f0, .slice A1 x.f1.length c1, .slice A2 x.f2.length c2, .slice A3 x.f3.length c3]] w fun e w' => e = .returned (.int .i64 ((layB x b).1 : Int)) ∧ BsAt w0 w' g gn cn gu cu (layB x b).2 ∧ Below w0.heap.size w0 w' ∧ Kept w w' (S3 g gn gu) := by
 have hu := Try.underlying111;have hu2 := Try.underlying75;have hu3 := Try.underlying25;obtain ⟨ns, us, full⟩ := b;simp only at hl;obtain ⟨o, ho⟩ : ∃ o, o = Obj.cells #[.bool x.f0, .slice A1 x.f1.length c1, .slice A2 x.f2.length c2, .slice A3 x.f3.length c3] 75 (0, 0) := ⟨_, rfl⟩
 obtain ⟨gb, hgb⟩ : ∃ gb, gb = w.heap.size := ⟨_, rfl⟩
 have HB0 := z_ (qas hB o);have sf := z_ (hb.below (qas (Below.refl _ _) o));have HX0 := z_ (show (w.alloc o).heap[gb]? = some (.cells #[.bool x.f0, .slice A1 x.f1.length c1, .slice A2 x.f2.length c2, .slice A3 x.f3.length c3] 75 (0, 0)) from by rw [ho, hgb]; exact qcb w _);have SO := z_ (And.intro (Kd.qdy f1 o) (And.intro (Kd.qdy f2 o) (Kd.qdy f3 o)));have DZ := z_ (show Kept w (w.alloc o) (S3 g gn gu) from (Kept.refl w _).alloc o);have HLT := z_ hb.lts;have HAP := z_ hb.apart;have HLL := z_ (And.intro l1 (And.intro l2 l3));have HON := z_ (qeh x hx);have HPP := z_ hP;have HGN := z_ (show w0.heap.size ≤ gn ∧ w0.heap.size ≤ gu ∧ w0.heap.size ≤ g from ⟨Kd.qih hb.nodes gn (qcS _ _ _), Kd.qb0 hb.used gu (qcS _ _ _), hb.ge⟩);obtain ⟨W1, hW1⟩ : ∃ W1, W1 = w.alloc o := ⟨_, rfl⟩
 rw [← hW1] at HB0 sf HX0 SO DZ;have HGB := z_ (show gn < gb ∧ gu < gb ∧ g < gb from by rw [hgb]; have := hb.lts; omega);clear f1 f2 f3 l1 l2 l3 hx hP hB hb;rw [ho] at hW1;clear ho
 go_enter Try.func92, Try.ntmps92
 go_upto_region 1 with fail
 rw [← hW1, ← hgb];clear hW1 hgb o
 go_wp2_with fail
 go_loopw [5] (fun v5 wr => ∃ i : Nat, i ≤ 50 ∧ v5 = .int .i64 (i : Int) ∧ Aside0 (∀ j, j < i → qbj us j) ∧ Aside0 (Below W1.heap.size W1 wr)) (fun v5 _ => 50 - (intOf v5).toNat)
 case atStart => exact ⟨0, zbV, rfl, ⟨fun j hj => absurd hj zbV⟩, ⟨Below.refl _ _⟩⟩
 case round =>
  obtain ⟨i, hi, rfl, HU, HO⟩ := hrel;have HSr := z_ (sf.o.below HO.o);have HBr := z_ (qad HB0.o HO.o);have HKr := z_ (DZ.o.below HO.o);have HXr := z_ (qap HX0.o HO.o);have HFr := z_ (And.intro (Kd.qbT SO.o.1 HO.o) (And.intro (Kd.qbT SO.o.2.1 HO.o) (Kd.qbT SO.o.2.2 HO.o)));clear sf HB0 DZ HX0 SO
  by_cases hlt : i < 50
  ·have c1b : decide ((i : Int) < 50) = true := decide_eq_true zbV;have w2 : IntKind.i64.wrap ((i : Int) + 1) = (i : Int) + 1 := zbF;have p1 : 0 ≤ (i : Int) := zbV;have q1 : (i : Int) < (us.length : Int) := zbV;have q2 : (i : Int) < (ns.length : Int) := zbV;obtain ⟨hx0, hx1⟩ := Kd.qcM false HSr.o.used (i : Int) zbV zbV;rw [Int.toNat_natCast] at hx0 hx1;have d1 := qac HSr.o.blk 1;simp only [List.getElem?_toArray, List.getElem?_cons_zero, List.getElem?_cons_succ] at d1
   cases hus : us.getD i false with
   | true =>
    rw [qc8, hus] at hx0;have HU2 := z_ (show ∀ j, j < i + 1 → qbj us j from fun j hj => by
     by_cases e : j = i
     ·subst e; exact hus
     ·exact HU.o j zbV)
    clear hus
    go_wp2_with fail
    go_roundw
    case rel => exact ⟨i + 1, zbV, zbU, HU2, HO⟩
    case measure => simp [intOf]; omega
   | false =>
    rw [qc8, hus] at hx0;have hff : firstFree us = i := qhs zbV hus HU.o;have HLAY := z_ (show layB x (ns, us, full) = (i, ns.set i x, us.set i true, full) from by unfold layB; simp only; rw [hff, if_pos zbV]);have HHX := z_ hx0;have HHF := z_ hx1;obtain ⟨W2, hW2⟩ : ∃ W2, W2 = wr.setCell ⟨gu, i, none⟩ (.bool true) := ⟨_, rfl⟩
    have hap := HAP.o;have BK2 := z_ (show W2.heap[g]? = some (.cells #[.slice (some ⟨gn, 0, none⟩) ns.length cn, .slice (some ⟨gu, 0, none⟩) us.length cu, .bool full] 111 (0, 0)) from hW2 ▸ qbF HSr.o.blk hap.2.1 _);have uY := z_ (show Kd.S k75 75 W2 w0.heap.size (fun k => True ∧ k ≠ gu) (.slice (some ⟨gn, 0, none⟩) ns.length cn) ns from by
     obtain ⟨z, hz⟩ := HSr.o.tu;exact hW2 ▸ Kd.qeF (p := ⟨gu, i, none⟩) (Kd.qdx HSr.o.nodes hz ne_tN) (fun k hk => hk.2) _)
    have HU3 := z_ (show Kd.R Kd.bool 4 W2 w0.heap.size (fun _ => True) (.slice (some ⟨gu, 0, none⟩) us.length cu) (us.set i true) from by
     have := Kd.qif HSr.o.used (i : Int) true;rw [Int.toNat_natCast] at this;exact hW2 ▸ this)
    have HB2 := z_ (show Below w0.heap.size w0 W2 from hW2 ▸ HBr.o.setCell (p := ⟨gu, i, none⟩) HGN.o.2.1 _);have p7 := z_ (show Kept w W2 (S3 g gn gu) from hW2 ▸ qdC HKr.o (p := ⟨gu, i, none⟩) (.inr (.inr rfl)) _);have HX2 := z_ (show W2.heap[gb]? = some (.cells #[.bool x.f0, .slice A1 x.f1.length c1, .slice A2 x.f2.length c2, .slice A3 x.f3.length c3] 75 (0, 0)) from hW2 ▸ qbF HXr.o (show gb ≠ gu by have := HGB.o.2.1; omega) _);have hpf : ∀ k, P k → k ≠ (⟨gu, i, none⟩ : Addr).block := fun k hk e => HPP.o k hk (.inr (.inr e))
    have cV := z_ (show Kd.F k77 W2 P A1 x.f1.length x.f1 ∧ Kd.F Kd.string W2 P A2 x.f2.length x.f2 ∧ Kd.F (Kd.int .i64) W2 P A3 x.f3.length x.f3 from hW2 ▸ ⟨Kd.qhN HFr.o.1 hpf _, Kd.qhN HFr.o.2.1 hpf _, Kd.qhN HFr.o.2.2 hpf _⟩);clear hus hff hap hpf HSr HBr HKr HXr HFr
    go_upto_region 6 with fail
    rw [← hW2];clear hW2 hx0 hx1 d1;have Se := z_ (qai BK2.o);have oO := z_ (show Kd.S k75 75 W2.drew w0.heap.size (fun k => k < W2.drew.heap.size) (.slice (some ⟨gn, 0, none⟩) ns.length cn) ns from Kd.qcx (Kd.qet (Kd.qc9 uY.o)) (fun k hk => hk.2.2.1));have HU4 := z_ (Kd.qa6 HU3.o);have HB3 := z_ (qaW HB2.o);have oB := z_ (show Kept w W2.drew (S3 g gn gu) from p7.o.drew);have IL := z_ (qai HX2.o);have yK := z_ (And.intro (Kd.qjn cV.o.1) (And.intro (Kd.qjn cV.o.2.1) (Kd.qjn cV.o.2.2)));have i9 := z_ (Below.refl W2.drew.heap.size W2.drew);clear BK2 uY HU3 HB2 p7 HX2 cV;refine qbY (n := 10) (S := fun w' => True) (ds := []) #[false, false, false, false, false, false, false, false, false, false] zbS rfl rfl trivial (fun hHeld => ?_);refine qbg sPutN.tab6 sPutN.bits6 (fun l4 R6 => ?_);have HTN := z_ (Kd.qdN oO.o gn (qcS _ _ _));generalize W2.drew = wd at Se oO HU4 HB3 oB IL yK i9 HTN ⊢;refine qcd [0, 1, 2, 3, 4, 5, 6, 7, 8, 9] (fun E8 b a w' => ∃ (v1 : Value) (v2 : Value) (v3 : Value) (i4 : Value), a = qa7 E8 b [(0, 24, .pointer (some ⟨g, 0, none⟩)), (1, 25, .pointer (some ⟨g, 0, none⟩)), (2, 26, .pointer (some ⟨g, 0, none⟩)), (3, 27, .pointer (some ⟨g, 0, none⟩)), (4, 28, .slice (some ⟨gn, 0, none⟩) ns.length cn), (5, 29, .int .i64 (i : Int)), (6, 30, .agg #[.bool x.f0, .slice A1 x.f1.length c1, .slice A2 x.f2.length c2, .slice A3 x.f3.length c3]), (7, 31, i4), (8, 32, .pointer (some ⟨gn, i * 4, none⟩))] ∧ (b 9 = false → Below wd.heap.size wd w') ∧ (b 7 = true → b 9 = false → Kd.R k77 77 w' wd.heap.size (fun _ => True) v1 x.f1) ∧ (b 7 = true → b 9 = false → Kd.R Kd.string 9 w' wd.heap.size (fun _ => True) v2 x.f2) ∧ (b 7 = true → b 9 = false → Kd.R (Kd.int .i64) 3 w' wd.heap.size (fun _ => True) v3 x.f3) ∧ (b 9 = true → w'.heap[g]? = some (.cells #[.slice (some ⟨gn, 0, none⟩) ns.length cn, .slice (some ⟨gu, 0, none⟩) us.length cu, .bool full] 111 (0, 0))) ∧ (b 9 = true → Kd.S k75 75 w' w0.heap.size (fun _ => True) (.slice (some ⟨gn, 0, none⟩) ns.length cn) (ns.set i x)) ∧ (b 9 = true → Kd.R Kd.bool 4 w' w0.heap.size (fun _ => True) (.slice (some ⟨gu, 0, none⟩) us.length cu) (us.set i true)) ∧ (b 9 = true → Below w0.heap.size w0 w') ∧ (b 9 = true → Kept w w' (S3 g gn gu)) ∧ (b 7 = true → (i4 : Value) = .agg #[.bool x.f0, v1, v2, v3])) l4.o R6.o zbS zbS ?_ ?_ ?_
    ·exact ⟨.bool false, .bool false, .bool false, .bool false, zaO, fun _ => i9.o, fun h_ => absurd h_ zbT, fun h_ => absurd h_ zbT, fun h_ => absurd h_ zbT, fun h_ => absurd h_ zbT, fun h_ => absurd h_ zbT, fun h_ => absurd h_ zbT, fun h_ => absurd h_ zbT, fun h_ => absurd h_ zbT, fun h_ => absurd h_ zbT⟩
    ·skip;clear i9;refine qaa ?_ ?_
     ·rintro b a w' ⟨v1, v2, v3, i4, ha, QT⟩ hb_ hon hoff;refine ⟨_, rfl, fun K hK => ?_⟩;have e0 : a.tmps[0]? = some (.pointer (some ⟨g, 0, none⟩)) := zbu;replace ha := z_ ha;refine qae (w1 := w') (v := .pointer (some ⟨g, 0, none⟩)) zbX rfl zbt ?_;refine hK.o _ _ ⟨v1, v2, v3, i4, zbg, QT⟩
     refine qaa ?_ ?_
     ·rintro b a w' ⟨v1, v2, v3, i4, ha, QT⟩ hb_ hon hoff;refine ⟨_, rfl, fun K hK => ?_⟩;have e24 : a.tmps[24]? = some (.pointer (some ⟨g, 0, none⟩)) := zon_ ha 0 rfl rfl hon;replace ha := z_ ha;refine qae (w1 := w') (v := .pointer (some ⟨g, 0, none⟩)) zbX rfl zbt ?_;refine hK.o _ _ ⟨v1, v2, v3, i4, zbh, QT⟩
     refine qaa ?_ ?_
     ·rintro b a w' ⟨v1, v2, v3, i4, ha, QT⟩ hb_ hon hoff;refine ⟨_, rfl, fun K hK => ?_⟩;have e25 : a.tmps[25]? = some (.pointer (some ⟨g, 0, none⟩)) := zon_ ha 1 rfl rfl hon;replace ha := z_ ha;refine qae (w1 := w') (v := .pointer (some ⟨g, 0, none⟩)) zbX rfl zbt ?_;refine hK.o _ _ ⟨v1, v2, v3, i4, zbi, QT⟩
     refine qaa ?_ ?_
     ·rintro b a w' ⟨v1, v2, v3, i4, ha, QT⟩ hb_ hon hoff;refine ⟨_, rfl, fun K hK => ?_⟩;have e26 : a.tmps[26]? = some (.pointer (some ⟨g, 0, none⟩)) := zon_ ha 2 rfl rfl hon;replace ha := z_ ha;refine qae (w1 := w') (v := .pointer (some ⟨g, 0, none⟩)) zbX rfl zbt ?_;refine hK.o _ _ ⟨v1, v2, v3, i4, zbj, QT⟩
     refine qaa ?_ ?_
     ·rintro b a w' ⟨v1, v2, v3, i4, ha, QT⟩ hb_ hon hoff;refine ⟨_, rfl, fun K hK => ?_⟩;have e27 : a.tmps[27]? = some (.pointer (some ⟨g, 0, none⟩)) := zon_ ha 3 rfl rfl hon;replace ha := z_ ha;have i9 := z_ (QT.1 (hoff 9 zbS));have L7 := qac (qap Se.o i9.o) 0;simp only [List.getElem?_toArray, List.getElem?_cons_zero, List.getElem?_cons_succ] at L7;refine qae (w1 := w') (v := .slice (some ⟨gn, 0, none⟩) ns.length cn) zbX rfl zbt ?_;refine hK.o _ _ ⟨v1, v2, v3, i4, zbk, QT⟩
     refine qaa ?_ ?_
     ·rintro b a w' ⟨v1, v2, v3, i4, ha, QT⟩ hb_ hon hoff;refine ⟨_, rfl, fun K hK => ?_⟩;have e5 : a.tmps[5]? = some (.int .i64 (i : Int)) := zbu;replace ha := z_ ha;refine qae (w1 := w') (v := .int .i64 (i : Int)) zbX rfl zbt ?_;refine hK.o _ _ ⟨v1, v2, v3, i4, zbl, QT⟩
     refine qaa ?_ ?_
     ·rintro b a w' ⟨v1, v2, v3, i4, ha, QT⟩ hb_ hon hoff;refine ⟨_, rfl, fun K hK => ?_⟩;have e3 : a.tmps[3]? = some (.pointer (some ⟨gb, 0, none⟩)) := zbu;replace ha := z_ ha;have i9 := z_ (QT.1 (hoff 9 zbS));obtain ⟨ug, Og, Te, Sg⟩ := qbz (qap IL.o i9.o);refine qae (w1 := w') (v := .agg #[.bool x.f0, .slice A1 x.f1.length c1, .slice A2 x.f2.length c2, .slice A3 x.f3.length c3]) zbX rfl zbt ?_;refine hK.o _ _ ⟨v1, v2, v3, i4, zbm, QT⟩
     refine qaa ?_ ?_
     ·rintro b a w' ⟨v1, v2, v3, i4, ha, R8, UD, sE, kE, IM, jE, nN, zD, dF, Q3⟩ hb_ hon hoff;refine ⟨_, rfl, fun K hK => ?_⟩;have e30 : a.tmps[30]? = some (.agg #[.bool x.f0, .slice A1 x.f1.length c1, .slice A2 x.f2.length c2, .slice A3 x.f3.length c3]) := zon_ ha 6 rfl rfl hon;replace ha := z_ ha;have i9 := z_ (R8 (hoff 9 zbS));have hs_ := i9.o.size;refine qdr Try.func66 zbS rfl #[.agg #[.bool x.f0, .slice A1 x.f1.length c1, .slice A2 x.f2.length c2, .slice A3 x.f3.length c3]] zbX rfl rfl (by first | (simp only [List.map_toArray, List.map_cons, List.map_nil, Act.eval, Array.getD_eq_getD_getElem?, Option.getD_some, e30]; done) | (simp only [List.map_toArray, List.map_cons, List.map_nil, Act.eval, Array.getD_eq_getD_getElem?, Option.getD_some, e30]; rfl)) ?_;refine (qbK.calls (M7 := Kd.qdc (Kd.qbT yK.o.1 i9.o)) (J7 := HLL.o.1) (P7 := Kd.qdc (Kd.qbT yK.o.2.1 i9.o)) (d8 := HLL.o.2.1) (b8 := Kd.qdc (Kd.qbT yK.o.2.2 i9.o)) (S7 := HLL.o.2.2) (h := HON.o)).mono ?_;rintro e_ w1 ⟨OJ, ZL, zN, rfl, u3, oX, la, hb1⟩;refine ⟨_, rfl, ?_⟩;refine hK.o _ _ ⟨OJ, ZL, zN, (.agg #[.bool x.f0, OJ, ZL, zN]), zbn, fun _ => qad i9.o hb1, fun _ _ => Kd.qa9 u3 hs_, fun _ _ => Kd.qa9 oX hs_, fun _ _ => Kd.qa9 la hs_, nf_ (hoff 9 zbS), nf_ (hoff 9 zbS), nf_ (hoff 9 zbS), nf_ (hoff 9 zbS), nf_ (hoff 9 zbS), fun _ => rfl⟩
     refine qaa ?_ ?_
     ·rintro b a w' ⟨v1, v2, v3, i4, ha, QT⟩ hb_ hon hoff;refine ⟨_, rfl, fun K hK => ?_⟩;have e28 : a.tmps[28]? = some (.slice (some ⟨gn, 0, none⟩) ns.length cn) := zon_ ha 4 rfl rfl hon;have e29 : a.tmps[29]? = some (.int .i64 (i : Int)) := zon_ ha 5 rfl rfl hon;replace ha := z_ ha;have yd : (i : Int) < 50 := zbV;have Sa : (0 : Int) ≤ (i : Int) := zbV;refine qae (w1 := w') (v := .pointer (some ⟨gn, i * 4, none⟩)) zbX rfl zbt ?_;refine hK.o _ _ ⟨v1, v2, v3, i4, zbo, QT⟩
     refine qaa ?_ ?_
     ·rintro b a w' ⟨v1, v2, v3, i4, ha, R8, UD, sE, kE, IM, jE, nN, zD, dF, Q3⟩ hb_ hon hoff;refine ⟨_, rfl, fun K hK => ?_⟩;have e32 : a.tmps[32]? = some (.pointer (some ⟨gn, i * 4, none⟩)) := zon_ ha 8 rfl rfl hon;have e31 : a.tmps[31]? = some (i4) := zon_ ha 7 rfl rfl hon;rw [Q3 (hon 7 zbS)] at e31;replace ha := z_ ha;have i9 := z_ (R8 hb_);have R1 := z_ (UD (hon 7 zbS) hb_);have R2 := z_ (sE (hon 7 zbS) hb_);have R3 := z_ (kE (hon 7 zbS) hb_);obtain ⟨_, oH, bL, _, MC, lE, _, _⟩ := Kd.qij (Kd.qck oO.o i9.o) z75 (i : Int) zbV zbV;obtain ⟨rX, lW, xY, xf, OH⟩ : ∃ y0 y1 y2 y3, oH = [y0, y1, y2, y3] := by have jY : oH.length = 4 := bL; match oH, jY with | [a0, a1, a2, a3], _ => exact ⟨a0, a1, a2, a3, rfl⟩
      subst OH;have IS := MC 0 _ rfl;have m8 := MC 1 _ rfl;have l8 := MC 2 _ rfl;have nC := MC 3 _ rfl;have H0 := lE 0;have I0 := lE 1;have K0 := lE 2;have U0 := lE 3;simp only [Int.toNat_natCast, show k75.sz = 4 from rfl, Nat.add_zero] at IS m8 l8 nC H0 I0 K0 U0;have nU := (Kd.qgv R1.o).2;have MS := (Kd.qgv R2.o).2;have VS := (Kd.qgv R3.o).2;have bZ : ∀ (a_ : Addr) (m_ : Mode) (W_ : World), (store a_ v1 m_).run Try.prog W_ = stored Try.prog W_ a_ v1 m_ := fun a_ m_ W_ => run_store _ W_ a_ v1 m_ nU
      have JZ : ∀ (a_ : Addr) (m_ : Mode) (W_ : World), (store a_ v2 m_).run Try.prog W_ = stored Try.prog W_ a_ v2 m_ := fun a_ m_ W_ => run_store _ W_ a_ v2 m_ MS
      have LZ : ∀ (a_ : Addr) (m_ : Mode) (W_ : World), (store a_ v3 m_).run Try.prog W_ = stored Try.prog W_ a_ v3 m_ := fun a_ m_ W_ => run_store _ W_ a_ v3 m_ VS
      refine qeR (w1 := (set4 w' gn (i * 4) (.bool x.f0) v1 v2 v3)) zbX rfl zbP ?_;refine hK.o _ _ ⟨v1, v2, v3, i4, zbq, fun N7 => absurd ((qa5 b 9).symm.trans N7) zbT, fun _ u3 => absurd ((qa5 b 9).symm.trans u3) zbT, fun _ u3 => absurd ((qa5 b 9).symm.trans u3) zbT, fun _ u3 => absurd ((qa5 b 9).symm.trans u3) zbT, fun _ => qfk (qap Se.o i9.o) HAP.o.1 _ _ _ _, fun _ => S_put (Kd.qck oO.o i9.o) zbV x R1.o R2.o R3.o HB3.o.size ⟨nU, MS, VS⟩, fun _ => Kd.qbb (qhm (Kd.qbu (Kd.qbO HU4.o i9.o) (qap HTN.o.choose_spec i9.o) ne_tB) (fun k hk => hk.2) _ _ _ _) (fun _ _ => trivial), fun _ => qiq (qad HB3.o i9.o) HGN.o.1 _ _ _ _, fun _ => kept4 (oB.o.below i9.o) _ _ _ _, Q3⟩
     exact qbo
    rintro b a wE hall ⟨v1, v2, v3, i4, ha, R8, UD, sE, kE, IM, jE, nN, zD, dF, Q3⟩;clear i9;have X2 := hall 0 zbS;have X1 := hall 1 zbS;have N2 := hall 2 zbS;have M2 := hall 3 zbS;have I2 := hall 4 zbS;have D3 := hall 5 zbS;have j3 := hall 6 zbS;have i3 := hall 7 zbS;have U2 := hall 8 zbS;have Y2 := hall 9 zbS;subst ha;obtain rfl := Q3 i3;simp only [qa7, X2, X1, N2, M2, I2, D3, j3, i3, U2, Y2, if_true, Act.put, List.setIfInBounds_toArray, List.set_cons_zero, List.set_cons_succ];clear R8 UD sE kE;have BKF := z_ (IM Y2);clear IM;have SSF := z_ (jE Y2);clear jE;have UUF := z_ (nN Y2);clear nN;have HBF := z_ (zD Y2);clear zD;have HKF := z_ (dF Y2);clear dF hall X2 X1 N2 M2 I2 D3 j3 i3 U2 Y2
    go_wp2_with fail
    go_ret
    rw [HLAY.o];exact ⟨rfl, ⟨HGN.o.2.2, by simp only [List.length_set]; exact BKF.o, by simp only [List.length_set]; exact SSF.o, by simp only [List.length_set]; exact UUF.o⟩, HBF.o, HKF.o⟩
  ·have c1b : decide ((i : Int) < 50) = false := decide_eq_false zbV;have hff : firstFree us = us.length := qf6 fun j hj => HU.o j zbV
   have HLAY := z_ (show layB x (ns, us, full) = (0, ns, us, true) from by unfold layB; simp only; rw [hff, if_neg zbV]);have d2 := qac HSr.o.blk 2;have e2 := qab HSr.o.blk 2;simp only [List.getElem?_toArray, List.getElem?_cons_zero, List.getElem?_cons_succ] at d2;clear hff
   go_wp2_with fail
   go_ret
   rw [HLAY.o];obtain ⟨z, hz⟩ := HSr.o.tn;obtain ⟨y, hy⟩ := HSr.o.tu;refine ⟨rfl, ⟨HGN.o.2.2, qdg HSr.o.blk 2 _, ?_, ?_⟩, HBr.o.setCell (p := ⟨g, 2, none⟩) HGN.o.2.2 _, qdC HKr.o (p := ⟨g, 2, none⟩) (.inl rfl) _⟩
   ·exact Kd.qcx (Kd.qeF (p := ⟨g, 2, none⟩) (Kd.qdx HSr.o.nodes HSr.o.blk (fun q hq => by simp only [k75, Kd.iso, Kd.pair, Kd.bool, Kd.slice, Kd.scalar, k77, Kd.string, Kd.int, List.mem_cons, List.mem_append, List.not_mem_nil, or_false, false_or] at hq; rcases hq with rfl | rfl | rfl | rfl <;> decide)) (fun k hk => hk.2) _) (fun _ _ => trivial)
   ·exact Kd.qbb (Kd.qbQ (p := ⟨g, 2, none⟩) (Kd.qbu HSr.o.used HSr.o.blk ne_tB2) (fun k hk => hk.2) _) (fun _ _ => trivial)
theorem qiw {α : Type} {d : Kd α} {e base : Nat} {ok : Nat → Prop} {v : Value} {xs : List α} {w0 w w' : World} {g gn cn gu cu : Nat} {b : List S75 × List Bool × Bool} (h : d.R e w base ok v xs) (hb : BsAt w0 w g gn cn gu cu b) (hk : Kept w w' (S3 g gn gu)) (h1 : ∀ q, q ∈ e :: d.E → q ≠ 111) (h2 : ∀ q, q ∈ e :: d.E → q ≠ 75) (h3 : ∀ q, q ∈ e :: d.E → q ≠ 4) : d.R e w' base ok v xs := by
 obtain ⟨y, hy⟩ := hb.tn;obtain ⟨z, hz⟩ := hb.tu;refine Kd.qbb (Kd.R_kept (Kd.qbu (Kd.qbu (Kd.qbu h hb.blk h1) hy h2) hz h3) hk ?_) (fun k hk => hk.1.1.1);rintro k ⟨⟨⟨_, a1⟩, a2⟩, a3⟩ (e | e | e)
 ·exact a1 e
 ·exact a2 e
 ·exact a3 e
theorem eB : ∀ q, q ∈ 4 :: Kd.bool.E → q = 4 := fun q hq => zbA
theorem eN : ∀ q, q ∈ 75 :: k75.E → q = 75 ∨ q = 77 ∨ q = 9 ∨ q = 3 := fun q hq => by
 simpa only [k75, Kd.iso, Kd.pair, Kd.bool, Kd.slice, Kd.scalar, k77, Kd.string, Kd.int, List.mem_cons, List.mem_append, List.not_mem_nil, or_false, false_or, List.append_nil, List.nil_append] using hq
theorem BsAt.grown {w0 w w1 : World} {g gn cn gu cu : Nat} {b : List S75 × List Bool × Bool} (h : BsAt w0 w g gn cn gu cu b) {v : Value} {t : Nat} (hty : ∀ k, v.ownBlock = some k → ∃ cells, w.heap[k]? = some (.cells cells t (0, 0))) (hg : w.grownBy w1 v.ownBlock) (h1 : t ≠ 111) (h2 : t ≠ 75 ∧ t ≠ 77 ∧ t ≠ 9 ∧ t ≠ 3) (h3 : t ≠ 4) : BsAt w0 w1 g gn cn gu cu b := by
 refine ⟨h.ge, qbd h.blk hg ?_, Kd.qjj h.nodes hty ?_ hg, Kd.qdh h.used hty ?_ hg⟩
 ·intro e;obtain ⟨x, hx⟩ := hty g e.symm;exact qc7 hx h.blk h1 rfl
 ·intro q hq
  rcases eN q hq with rfl | rfl | rfl | rfl
  ·exact h2.1.symm
  ·exact h2.2.1.symm
  ·exact h2.2.2.1.symm
  ·exact h2.2.2.2.symm
 ·intro q hq;rw [eB q hq];exact h3.symm
structure NodeV (w : World) (P : Nat → Prop) (x : S75) (v : Value) : Prop where
 ex : ∃ A1 c1 A2 c2 A3 c3, v = .agg #[.bool x.f0, .slice A1 x.f1.length c1, .slice A2 x.f2.length c2, .slice A3 x.f3.length c3] ∧ (Kd.F k77 w P A1 x.f1.length x.f1 ∧ x.f1.length ≤ c1) ∧ (Kd.F Kd.string w P A2 x.f2.length x.f2 ∧ x.f2.length ≤ c2) ∧ (Kd.F (Kd.int .i64) w P A3 x.f3.length x.f3 ∧ x.f3.length ≤ c3)
theorem NodeV.kept {w w1 : World} {P S : Nat → Prop} {x : S75} {v : Value} (h : NodeV w P x v) (hk : Kept w w1 S) (hP : ∀ k, P k → ¬ S k) : NodeV w1 P x v := by
 obtain ⟨A1, c1, A2, c2, A3, c3, rfl, h1, h2, h3⟩ := h.ex;exact ⟨A1, c1, A2, c2, A3, c3, rfl, ⟨Kd.qdj h1.1 hk hP, h1.2⟩, ⟨Kd.qdj h2.1 hk hP, h2.2⟩, ⟨Kd.qdj h3.1 hk hP, h3.2⟩⟩
theorem NodeV.below {w w1 : World} {P : Nat → Prop} {x : S75} {v : Value} (h : NodeV w P x v) (hb : Below w.heap.size w w1) : NodeV w1 P x v := h.kept (Kept.of_below hb (fun _ => False)) (fun _ _ h => h)
theorem sputV {w0 w : World} {g gn cn gu cu : Nat} {b : List S75 × List Bool × Bool} (hB : Below w0.heap.size w0 w) (hb : BsAt w0 w g gn cn gu cu b) (hl : b.1.length = 50 ∧ b.2.1.length = 50) {x : S75} {v : Value} {P : Nat → Prop} (hP : ∀ k, P k → ¬ S3 g gn gu k) (hv : NodeV w P x v) (hx : x.f1.length ≤ 1000000 ∧ x.f2.length ≤ 1000000 ∧ x.f3.length ≤ 1000000) :
  Calls Try.prog 92 #[.pointer (some ⟨g, 0, none⟩), v] w fun e w' => e = .returned (.int .i64 ((layB x b).1 : Int)) ∧ BsAt w0 w' g gn cn gu cu (layB x b).2 ∧ Below w0.heap.size w0 w' ∧ Kept w w' (S3 g gn gu) := by
 obtain ⟨A1, c1, A2, c2, A3, c3, rfl, h1, h2, h3⟩ := hv.ex;exact sput w0 w g gn cn gu cu b hB hb hl x A1 c1 A2 c2 A3 c3 P hP h1.1 h1.2 h2.1 h2.2 h3.1 h3.2 hx
theorem qht {α : Type} {d : Kd α} {e N : Nat} {w : World} {A : Option Addr} {n c : Nat} {xs : List α} {ok : Nat → Prop} (h : d.R e w N ok (.slice A n c) xs) : Kd.F d w (fun k => N ≤ k) A n xs := Kd.qdi (Kd.R_F (Kd.qcG h)) (fun k hk => hk.2.1)
theorem blk4 {w : World} {g t : Nat} {x0 x1 x2 x3 : Value} (h : w.heap[g]? = some (.cells #[x0, x1, x2, x3] t (0, 0))) (v0 v1 v2 v3 : Value) : (set4 w g 0 v0 v1 v2 v3).heap[g]? = some (.cells #[v0, v1, v2, v3] t (0, 0)) := qbm (qbm (qbm (qbm h 0 v0 rfl) 1 v1 rfl) 2 v2 rfl) 3 v3 rfl
set_option maxHeartbeats 16000000 in
set_option maxRecDepth 100000 in
theorem sleaf (w : World) (P : Nat → Prop) (A : Option Addr) (c : Nat) (l : List S77) (hf : Kd.F k77 w P A l.length l) (hc : l.length ≤ c) :
  Calls Try.prog 93 #[.slice A l.length c] w fun e w' => ∃ v, e = .returned v ∧ NodeV w' (fun k => (P k ∧ k < w.heap.size) ∨ w.heap.size ≤ k) ⟨true, l, [], []⟩ v ∧ Below w.heap.size w w' := by
 have hu := Try.underlying75;obtain ⟨o, ho⟩ : ∃ o, o = Obj.cells #[.bool false, .slice none 0 0, .slice none 0 0, .slice none 0 0] 75 (0, 0) := ⟨_, rfl⟩
 obtain ⟨gb, hgb⟩ : ∃ gb, gb = w.heap.size := ⟨_, rfl⟩
 have HB0 := z_ (qas (Below.refl w.heap.size w) o);have HX0 := z_ (show (w.alloc o).heap[gb]? = some (.cells #[.bool false, .slice none 0 0, .slice none 0 0, .slice none 0 0] 75 (0, 0)) from by rw [ho, hgb]; exact qcb w _);have SO := z_ (Kd.qdy (Kd.qgy hf) o);have HC := z_ hc;have HG := z_ hgb;obtain ⟨W1, hW1⟩ : ∃ W1, W1 = w.alloc o := ⟨_, rfl⟩
 rw [← hW1] at HB0 HX0 SO;rw [ho] at hW1;clear ho hf hc
 go_enter Try.func93, Try.ntmps93
 go_upto_region 1 with fail
 rw [← hW1, ← hgb];clear hW1 hgb o
 go_wp2_with (first | ((with_reducible refine qaG (N := 4) rfl ?_); refine Kd.qcD Kd.string w.heap.size 9 zbX (N := 4) zbX (xs := ([] : List ByteArray)) (inner := []) (ok := fun _ => True) (okp := fun _ => True) zbv ?hp (fun _ hk => hk) trivial HB0.o HB0.o.size zbW ?_; (case hp => exact (Reps.none _ _)); intro v2 w2 ho2 hb2 F5 Z1; have hU := z_ (Below.grown (Below.refl _ _) F5 (Nat.le_refl _) (fun k hk => by cases hk)); clear F5 Z1; have PT := z_ ho2; have HB2 := z_ hb2; clear ho2 hb2) | (((with_reducible refine qaG (N := 5) rfl ?_); refine Kd.qcD (Kd.int .i64) w.heap.size 3 zbX (N := 5) zbX (xs := ([] : List Int)) (inner := []) (ok := fun _ => True) (okp := fun _ => True) zbv ?hp (fun _ hk => hk) trivial HB2.o HB2.o.size zbW ?_; (case hp => exact (Reps.none _ _)); intro v3 w3 ho3 hb3 F5 Z1; have Rg := z_ (Below.grown (Below.refl _ _) F5 (Nat.le_refl _) (fun k hk => by cases hk)); clear F5 Z1; have iU := z_ ho3; have HB3 := z_ hb3; clear ho3 hb3); (have IL := z_ (qap (qap HX0.o hU.o) Rg.o); obtain ⟨ug, Og, Te, Sg⟩ := qbz IL.o; have f0_ := qab IL.o 0; have GI := qab IL.o 1; have jO := qab IL.o 2; have CI := qab IL.o 3; obtain ⟨A2, c2, rfl⟩ := Kd.qbi PT.o; obtain ⟨A3, c3, rfl⟩ := Kd.qbi iU.o)))
 refine bodyPost_ret (results_cell_row rfl _ _ gb 75 #[.bool true, .slice A l.length c, .slice A2 0 c2, .slice A3 0 c3] (0, 0) _ rfl (blk4 IL.o _ _ _ _) Try.underlying75 rfl zbS) rfl ?_;have e1 : gb = w.heap.size := HG.o;have hF := Kd.qbT (Kd.qbT SO.o hU.o) Rg.o;have q2 : ∀ q, q ∈ 9 :: Kd.string.E → q ≠ 75 := fun q hq => by
  have : q = 9 := by simpa [Kd.string, Kd.scalar] using hq
  rw [this]; decide
 have q3 : ∀ q, q ∈ 3 :: (Kd.int .i64).E → q ≠ 75 := fun q hq => by
  have : q = 3 := by simpa [Kd.int, Kd.scalar] using hq
  rw [this]; decide
 have hR2 := qhm (o := 0) (Kd.qbu (Kd.qbO PT.o Rg.o) IL.o q2) (fun k hk => hk.2) (.bool true) (.slice A l.length c) (.slice A2 0 c2) (.slice A3 0 c3);have tX := qhm (o := 0) (Kd.qbu iU.o IL.o q3) (fun k hk => hk.2) (.bool true) (.slice A l.length c) (.slice A2 0 c2) (.slice A3 0 c3);refine ⟨_, rfl, ⟨A, c, A2, c2, A3, c3, rfl, ⟨?_, HC.o⟩, ⟨Kd.qdi (qht hR2) (fun k hk => .inr hk), Nat.zero_le _⟩, ⟨Kd.qdi (qht tX) (fun k hk => .inr hk), Nat.zero_le _⟩⟩, ?_⟩
 ·have hne : ∀ k, P k ∧ k < w.heap.size → k ≠ gb := fun k hk => by have := hk.2; omega
  exact Kd.qdi (Kd.qhN (p := ⟨gb, 3, none⟩) (Kd.qhN (p := ⟨gb, 2, none⟩) (Kd.qhN (p := ⟨gb, 1, none⟩) (Kd.qhN (p := ⟨gb, 0, none⟩) hF hne _) hne _) hne _) hne _) (fun k hk => .inl hk)
 ·exact qiq HB3.o (Nat.le_of_eq e1.symm) _ _ _ _
def qaI.l0 : Nat → List (S118) → Int → Bool → List (S77) → List ByteArray → List Int → Option (Bool × (List (S77)) × List ByteArray × List Int)
 | 0, _, _, _, _, _, _ => none
 | k + 1, x0, x4, x291000, x291001, x291002, x291003 => if x4 < (x0.length : Int) then (if 0 ≤ x4 then (if x291002.length < 8796093022208 then (if x291003.length < 17592186044416 then (qaI.l0 k x0 (wrap64 (x4 + 1)) x291000 x291001 (x291002 ++ [(qb2 x0 x4).f0]) (x291003 ++ [(qb2 x0 x4).f1])) else (none)) else (none)) else (none)) else (some (x291000, x291001, x291002, x291003))
def qaI.f (k : Nat) (l0 : List (S118)) : Option (Bool × (List (S77)) × List ByteArray × List Int) := qaI.l0 k l0 0 false (([] : List (S77))) (([] : List ByteArray)) (([] : List Int))
theorem qaI.qbW : ∀ k, (∀ y0 y1 y2 y3 y4 y5, LeO (qaI.l0 k y0 y1 y2 y3 y4 y5) (qaI.l0 (k + 1) y0 y1 y2 y3 y4 y5))
 | 0 => fun _ _ _ _ _ _ r h => by simp [qaI.l0] at h
 | k + 1 => by
  have d6 := qaI.qbW k
  ·intro y0 y1 y2 y3 y4 y5;unfold qaI.l0
   repeat' first
   | (with_reducible exact d6 _ _ _ _ _ _)
   | (with_reducible exact LeO.refl _)
   | (with_reducible exact LeO.none _)
   | (with_reducible refine LeO.ite ?_ ?_)
   | (with_reducible refine LeO.bind ?_ (fun _ => ?_))
   | exact d6 _ _ _ _ _ _
   | exact LeO.none _
   | refine LeO.ite ?_ ?_
   | refine LeO.bind ?_ (fun _ => ?_)
def qaI.T5 : Bool × List (List Nat × List Nat) := (true, [([], []), ([0], [0]), ([], []), ([], []), ([2, 3], [2, 3]), ([4], [4]), ([5], [5]), ([6], [6]), ([1, 7], [1, 7]), ([0, 1, 2, 3, 4, 5, 6, 7, 8], []), ([9, 8, 8, 0, 1, 2, 3, 4, 5, 6, 7, 8], [8, 9])])
def qaI.B5 : List Nat := [0, 1, 0, 0, 12, 28, 60, 124, 255, 511, 1023]
theorem qaI.tab5 : rtab .any (opsOf Try.f95 5) = qaI.T5 := zbS
theorem qaI.bits5 : qbv qaI.T5.2 qaI.B5 = true := zbS
def qaI.T6 : Bool × List (List Nat × List Nat) := (true, [([], []), ([0], [0]), ([], []), ([], []), ([2, 3], [2, 3]), ([4], [4]), ([5], [5]), ([6], [6]), ([1, 7], [1, 7]), ([0, 1, 2, 3, 4, 5, 6, 7, 8], []), ([9, 8, 8, 0, 1, 2, 3, 4, 5, 6, 7, 8], [8, 9])])
def qaI.B6 : List Nat := [0, 1, 0, 0, 12, 28, 60, 124, 255, 511, 1023]
theorem qaI.tab6 : rtab .any (opsOf Try.f95 6) = qaI.T6 := zbS
theorem qaI.bits6 : qbv qaI.T6.2 qaI.B6 = true := zbS
set_option maxHeartbeats 8000000 in
set_option maxRecDepth 100000 in
theorem qaI.calls (k : Nat) (A0 : Option Addr) (c0 : Nat) (l0 : List (S118)) (r1 : Bool) (r2 : List (S77)) (r3 : List ByteArray) (r4 : List Int) (w : World) (hr0 : Kd.C k118 w A0 l0.length l0) (hc0 : l0.length ≤ c0) (h : qaI.f k l0 = some (r1, r2, r3, r4)) :
  Calls Try.prog 95 #[.slice A0 l0.length c0] w fun e w' => ∃ OJ ZL zN : Value, e = .returned (.agg #[.bool r1, OJ, ZL, zN]) ∧ Kd.R k77 77 w' w.heap.size (fun _ => True) OJ r2 ∧ Kd.R Kd.string 9 w' w.heap.size (fun _ => True) ZL r3 ∧ Kd.R (Kd.int .i64) 3 w' w.heap.size (fun _ => True) zN r4 ∧ Below w.heap.size w w' := by
 have JN := Try.underlying75;have I7 := z_ hr0;have OF := z_ hc0;clear hr0 hc0;have HB := z_ (Below.refl w.heap.size w);have H : (qaI.l0 k l0 0 false (([] : List (S77))) (([] : List ByteArray)) (([] : List Int))) = some (r1, r2, r3, r4) := h;clear h;obtain ⟨G7, fJ⟩ : ∃ y_ : List (S77), y_ = (([] : List (S77))) := ⟨_, rfl⟩
 replace H : (qaI.l0 k l0 0 false G7 (([] : List ByteArray)) (([] : List Int))) = some (r1, r2, r3, r4) := by first | (rw [fJ]; with_reducible exact H) | (have Y1 := (Option.bind_some _ _).symm.trans H; rw [fJ]; with_reducible exact Y1) | (have Y1 := (Option.bind_some _ _).symm.trans H; with_reducible exact Y1) | with_reducible exact H | (rw [fJ]; exact H) | exact H
 have YS := z_ fJ;clear fJ;obtain ⟨jK, VI⟩ : ∃ y_ : List ByteArray, y_ = (([] : List ByteArray)) := ⟨_, rfl⟩
 replace H : (qaI.l0 k l0 0 false G7 jK (([] : List Int))) = some (r1, r2, r3, r4) := by first | (rw [VI]; with_reducible exact H) | (have Y1 := (Option.bind_some _ _).symm.trans H; rw [VI]; with_reducible exact Y1) | (have Y1 := (Option.bind_some _ _).symm.trans H; with_reducible exact Y1) | with_reducible exact H | (rw [VI]; exact H) | exact H
 have cT := z_ VI;clear VI;obtain ⟨LN, cK⟩ : ∃ y_ : List Int, y_ = (([] : List Int)) := ⟨_, rfl⟩
 replace H : (qaI.l0 k l0 0 false G7 jK LN) = some (r1, r2, r3, r4) := by first | (rw [cK]; with_reducible exact H) | (have Y1 := (Option.bind_some _ _).symm.trans H; rw [cK]; with_reducible exact Y1) | (have Y1 := (Option.bind_some _ _).symm.trans H; with_reducible exact Y1) | with_reducible exact H | (rw [cK]; exact H) | exact H
 have iT := z_ cK;clear cK;have H' := z_ H;clear H
 go_enter Try.func95, Try.ntmps95
 go_wp2_with (first | ((with_reducible refine qaG (N := 2) rfl ?_); refine qaS zbX (N := 2) zbX (cs := #[.bool false, .slice none 0 0, .slice none 0 0, .slice none 0 0]) (t := 75) zbv ?_; intro C5 hg w2 hbox hb; have H0 := z_ (qad zaq hb); have I0 := z_ (hbox); have K0 := z_ ((zal : w.heap.size ≤ C5)); have U0 := z_ ((zal : w.heap.size ≤ C5)); clear HB; have HB := H0; have J3 := I0; have GW280 := K0; have S8 := U0; clear H0 I0 K0 U0; clear hb hbox hg) | ((with_reducible refine qaG (N := 5) rfl ?_); refine Kd.qcD k77 _ 77 zbX (N := 5) zbX (xs := ([] : List (S77))) (inner := []) (ok := fun _ => True) (okp := fun _ => True) zbv ?hp (fun _ hk => hk) trivial (Below.refl _ _) (Nat.le_refl _) zbW ?_; (case hp => exact (Reps.none _ _)); intro v282 w3 FF hb F5 Z1; clear F5 Z1; (first | rw [← YS.o] at FF | (simp only [Int.reduceToNat] at FF; rw [← YS.o] at FF)); have H0 := z_ (Kd.qa9 FF (qaC (zab S8.o))); have I0 := z_ (qap (g := C5) (o := .cells #[.bool false, .slice none 0 0, .slice none 0 0, .slice none 0 0] 75 (0, 0)) (zac J3.o) hb); have K0 := z_ (qad (zab S8.o) hb); clear J3 HB; have FB := H0; have J3 := I0; have HB := K0; clear H0 I0 K0; clear hb FF) | ((with_reducible refine qaG (N := 6) rfl ?_); refine Kd.qcD Kd.string _ 9 zbX (N := 6) zbX (xs := ([] : List ByteArray)) (inner := []) (ok := fun _ => True) (okp := fun _ => True) zbv ?hp (fun _ hk => hk) trivial (Below.refl _ _) (Nat.le_refl _) zbW ?_; (case hp => exact (Reps.none _ _)); intro v285 w5 iH hb F5 Z1; clear F5 Z1; (first | rw [← cT.o] at iH | (simp only [Int.reduceToNat] at iH; rw [← cT.o] at iH)); have H0 := z_ (Kd.qbO (zae FB.o) hb); have I0 := z_ (Kd.qa9 iH (qaC (zab S8.o))); have K0 := z_ (qap (g := C5) (o := .cells #[.bool false, .slice none 0 0, .slice none 0 0, .slice none 0 0] 75 (0, 0)) (zac J3.o) hb); have U0 := z_ (qad (zab S8.o) hb); clear FB J3 HB; have FB := H0; have SF := I0; have J3 := K0; have HB := U0; clear H0 I0 K0 U0; clear hb iH) | ((with_reducible refine qaG (N := 7) rfl ?_); refine Kd.qcD (Kd.int .i64) _ 3 zbX (N := 7) zbX (xs := ([] : List Int)) (inner := []) (ok := fun _ => True) (okp := fun _ => True) zbv ?hp (fun _ hk => hk) trivial (Below.refl _ _) (Nat.le_refl _) zbW ?_; (case hp => exact (Reps.none _ _)); intro v288 w7 gQ hb F5 Z1; clear F5 Z1; (first | rw [← iT.o] at gQ | (simp only [Int.reduceToNat] at gQ; rw [← iT.o] at gQ)); have H0 := z_ (Kd.qbO (zae FB.o) hb); have I0 := z_ (Kd.qbO (zae SF.o) hb); have K0 := z_ (Kd.qa9 gQ (qaC (zab S8.o))); have U0 := z_ (qap (g := C5) (o := .cells #[.bool false, .slice none 0 0, .slice none 0 0, .slice none 0 0] 75 (0, 0)) (zac J3.o) hb); have N5 := z_ (qad (zab S8.o) hb); clear FB SF J3 HB; have FB := H0; have SF := I0; have UI := K0; have J3 := U0; have HB := N5; clear H0 I0 K0 U0 N5 hb gQ; obtain ⟨Ac, db, eo9⟩ := Kd.qbi UI.o; subst eo9; obtain ⟨rO, WO, kf⟩ := Kd.qbi SF.o; subst kf; obtain ⟨o5, k5, wW⟩ := Kd.qbi FB.o; subst wW) | ((with_reducible refine qaG (N := 3) rfl ?_); refine qaS zbX (N := 3) zbX (cs := #[.bool false, .slice none 0 0, .slice none 0 0, .slice none 0 0]) (t := 75) zbv ?_; intro E3 hg sL hbox hb; have H0 := z_ (Kd.qbO (zae FB.o) hb); have I0 := z_ (Kd.qbO (zae SF.o) hb); have K0 := z_ (Kd.qbO (zae UI.o) hb); have U0 := z_ (qap (g := C5) (o := .cells #[.bool false, .slice none 0 0, .slice none 0 0, .slice none 0 0] 75 (0, 0)) (zac J3.o) hb); have N5 := z_ (qad (zab S8.o) hb); have b9 := z_ (hbox); have WF := z_ ((by rw [hg]; exact (qaC (zab S8.o)) : w.heap.size ≤ E3)); have qK := z_ ((by rw [hg]; exact (qaC (zab S8.o)) : w.heap.size ≤ E3)); have oP := z_ ((by rw [hg]; exact Nat.ne_of_lt (qbH (g := C5) (o := .cells #[.bool false, .slice none 0 0, .slice none 0 0, .slice none 0 0] 75 (0, 0)) (zac J3.o)) : C5 ≠ E3)); have aU := z_ ((by rw [hg]; exact Nat.ne_of_gt (qbH (g := C5) (o := .cells #[.bool false, .slice none 0 0, .slice none 0 0, .slice none 0 0] 75 (0, 0)) (zac J3.o)) : E3 ≠ C5)); clear FB SF UI J3 HB; have FB := H0; have SF := I0; have UI := K0; have J3 := U0; have HB := N5; have O1 := b9; have GW290 := WF; have YF := qK; have K6 := oP; have RB := aU; clear H0 I0 K0 U0 N5 b9 WF qK oP aU hb hbox hg; have hnb13 := RB.o; have hnc13 := K6.o; have WA : sL.cell? ⟨E3, 0, none⟩ = some (.bool false) := (qac O1.o 0).trans rfl; have YA : sL.cell? ⟨E3, 1, none⟩ = some (.slice none 0 0) := (qac O1.o 1).trans rfl; have dB : sL.cell? ⟨E3, 2, none⟩ = some (.slice none 0 0) := (qac O1.o 2).trans rfl; have OA : sL.cell? ⟨E3, 3, none⟩ = some (.slice none 0 0) := (qac O1.o 3).trans rfl; have TA := qab O1.o 0; have PA := qab O1.o 1; have RA := qab O1.o 2; have JA := qab O1.o 3))
 go_loopg [4] k (fun kq v4 w' => ∃ (U3 : Int) (W5 : List ByteArray) (i5 : List Int) (B9 : Value) (O6 : Value), v4 = .int .i64 U3 ∧ Aside0 (qaI.l0 kq l0 U3 false G7 W5 i5 = some (r1, r2, r3, r4)) ∧ Aside0 (kq ≤ k) ∧ Aside0 (Kd.R k77 77 w' w.heap.size (fun _ => True) (.slice o5 G7.length k5) G7) ∧ Aside0 (Kd.R Kd.string 9 w' w.heap.size (fun _ => True) B9 W5) ∧ Aside0 (Kd.R (Kd.int .i64) 3 w' w.heap.size (fun _ => True) O6 i5) ∧ Aside0 (w'.heap[C5]? = some (.cells #[.bool false, (.slice none 0 0), (.slice none 0 0), (.slice none 0 0)] 75 (0, 0))) ∧ Aside0 (w'.heap[E3]? = some (.cells #[.bool false, (.slice o5 G7.length k5), B9, O6] 75 (0, 0))) ∧ Aside0 (Below w.heap.size w w'))
 case atStart => exact ⟨(0), (jK), (LN), (.slice rO jK.length WO), (.slice Ac LN.length db), zbs, H', ⟨Nat.le_refl _⟩, ⟨by (with_reducible repeat (first | apply Kd.qaV | apply Kd.qa0 | apply Kd.qa6)); exact Kd.qbb (Kd.qbQ (p := ⟨E3, 3, none⟩) (Kd.qbQ (p := ⟨E3, 2, none⟩) (Kd.qbQ (p := ⟨E3, 1, none⟩) (Kd.qbQ (p := ⟨E3, 0, none⟩) (Kd.qbu FB.o O1.o zbT) (fun _ hk => hk.2) (.bool false)) (fun _ hk => hk.2) (.slice o5 G7.length k5)) (fun _ hk => hk.2) (.slice rO jK.length WO)) (fun _ hk => hk.2) (.slice Ac LN.length db)) (fun _ hk => trivial)⟩, ⟨by (with_reducible repeat (first | apply Kd.qaV | apply Kd.qa0 | apply Kd.qa6)); exact Kd.qbb (Kd.qbQ (p := ⟨E3, 3, none⟩) (Kd.qbQ (p := ⟨E3, 2, none⟩) (Kd.qbQ (p := ⟨E3, 1, none⟩) (Kd.qbQ (p := ⟨E3, 0, none⟩) (Kd.qbu SF.o O1.o zbT) (fun _ hk => hk.2) (.bool false)) (fun _ hk => hk.2) (.slice o5 G7.length k5)) (fun _ hk => hk.2) (.slice rO jK.length WO)) (fun _ hk => hk.2) (.slice Ac LN.length db)) (fun _ hk => trivial)⟩, ⟨by (with_reducible repeat (first | apply Kd.qaV | apply Kd.qa0 | apply Kd.qa6)); exact Kd.qbb (Kd.qbQ (p := ⟨E3, 3, none⟩) (Kd.qbQ (p := ⟨E3, 2, none⟩) (Kd.qbQ (p := ⟨E3, 1, none⟩) (Kd.qbQ (p := ⟨E3, 0, none⟩) (Kd.qbu UI.o O1.o zbT) (fun _ hk => hk.2) (.bool false)) (fun _ hk => hk.2) (.slice o5 G7.length k5)) (fun _ hk => hk.2) (.slice rO jK.length WO)) (fun _ hk => hk.2) (.slice Ac LN.length db)) (fun _ hk => trivial)⟩, ⟨by (with_reducible repeat (first | refine qaj ?_ _ | refine qai ?_ | refine qah ?_ _)); refine qbF ?_ K6.o _; (with_reducible repeat (first | refine qaj ?_ _ | refine qai ?_ | refine qah ?_ _)); refine qbF ?_ K6.o _; (with_reducible repeat (first | refine qaj ?_ _ | refine qai ?_ | refine qah ?_ _)); refine qbF ?_ K6.o _; (with_reducible repeat (first | refine qaj ?_ _ | refine qai ?_ | refine qah ?_ _)); refine qbF ?_ K6.o _; (with_reducible repeat (first | refine qaj ?_ _ | refine qai ?_ | refine qah ?_ _)); exact J3.o⟩, ⟨by (with_reducible repeat (first | refine qaj ?_ _ | refine qai ?_ | refine qah ?_ _)); refine qbm (cs := #[.bool false, .slice o5 G7.length k5, .slice rO jK.length WO, .slice none 0 0]) ?_ 3 _ rfl; (with_reducible repeat (first | refine qaj ?_ _ | refine qai ?_ | refine qah ?_ _)); refine qbm (cs := #[.bool false, .slice o5 G7.length k5, .slice none 0 0, .slice none 0 0]) ?_ 2 _ rfl; (with_reducible repeat (first | refine qaj ?_ _ | refine qai ?_ | refine qah ?_ _)); refine qbm (cs := #[.bool false, .slice none 0 0, .slice none 0 0, .slice none 0 0]) ?_ 1 _ rfl; (with_reducible repeat (first | refine qaj ?_ _ | refine qai ?_ | refine qah ?_ _)); refine qbm (cs := #[.bool false, .slice none 0 0, .slice none 0 0, .slice none 0 0]) ?_ 0 _ rfl; (with_reducible repeat (first | refine qaj ?_ _ | refine qai ?_ | refine qah ?_ _)); exact O1.o⟩, ⟨zaf S8.o YF.o⟩⟩
 case round =>
  clear H';try clear c1
  try clear p2
  try clear c9
  try clear c13
  try clear WA
  try clear YA
  try clear dB
  try clear OA
  try clear TA
  try clear PA
  try clear RA
  try clear JA
  obtain ⟨U3, W5, i5, B9, O6, rfl, HA, q7, M3, I5, t3, J3, O1, HB⟩ := hrel
  cases gk with
  | zero => exact absurd HA.o (by simp [qaI.l0])
  | succ k1 =>
   have H := HA.o;clear HA;simp only [qaI.l0] at H
   by_cases c15 : U3 < (l0.length : Int)
   ·rw [if_pos c15] at H;have bN : decide (U3 < (l0.length : Int)) = true := decide_eq_true c15;clear c15
    by_cases c16 : 0 ≤ U3
    ·rw [if_pos c16] at H;have vU : decide (0 ≤ U3) = true := decide_eq_true c16;clear c16
     by_cases c17 : W5.length < 8796093022208
     ·rw [if_pos c17] at H;have IX := z_ c17;clear c17;obtain ⟨oA, dK⟩ : ∃ y_ : List ByteArray, y_ = (W5 ++ [(qb2 l0 U3).f0]) := ⟨_, rfl⟩
      replace H : (if i5.length < 17592186044416 then (qaI.l0 k1 l0 (wrap64 (U3 + 1)) false G7 oA (i5 ++ [(qb2 l0 U3).f1])) else (none)) = some (r1, r2, r3, r4) := by first | (rw [dK]; with_reducible exact H) | (have Y1 := (Option.bind_some _ _).symm.trans H; rw [dK]; with_reducible exact Y1) | (have Y1 := (Option.bind_some _ _).symm.trans H; with_reducible exact Y1) | with_reducible exact H | (rw [dK]; exact H) | exact H
      have La := z_ dK;clear dK
      by_cases c18 : i5.length < 17592186044416
      ·rw [if_pos c18] at H;have oY := z_ c18;clear c18;obtain ⟨gO, hJ⟩ : ∃ y_ : List Int, y_ = (i5 ++ [(qb2 l0 U3).f1]) := ⟨_, rfl⟩
       replace H : (qaI.l0 k1 l0 (wrap64 (U3 + 1)) false G7 oA gO) = some (r1, r2, r3, r4) := by first | (rw [hJ]; with_reducible exact H) | (have Y1 := (Option.bind_some _ _).symm.trans H; rw [hJ]; with_reducible exact Y1) | (have Y1 := (Option.bind_some _ _).symm.trans H; with_reducible exact Y1) | with_reducible exact H | (rw [hJ]; exact H) | exact H
       have wZ := z_ hJ;clear hJ;have H' := z_ H;clear H;try go_wp2
       have H0 := z_ (Kd.qa6 M3.o);have I0 := z_ (Kd.qa6 I5.o);have K0 := z_ (Kd.qa6 t3.o);have U0 := z_ (qai J3.o);have N5 := z_ (qai O1.o);have b9 := z_ (qaP HB.o);clear M3 I5 t3 J3 O1 HB;have M3 := H0;have I5 := I0;have t3 := K0;have J3 := U0;have O1 := N5;have HB := b9;clear H0 I0 K0 U0 N5 b9;have DV : 0 ≤ (U3 : Int) := of_decide_eq_true zaN;have FW : U3 < (l0.length : Int) := of_decide_eq_true zaN;obtain ⟨jH, e291, eF, cF⟩ := qeW I7.o U3 DV FW;have Y9 := cF;have U9 := eF
       cases e291
       replace eF := (HB.o.cell (World.block_lt_of_cell? w _ eF)).trans eF;replace cF := (HB.o.cell (World.block_lt_of_cell? w _ cF)).trans cF;replace DV := eq_true DV;replace FW := eq_true FW;refine qbY (n := 11) (S := fun w' => w'.cell? ⟨E3, 0, none⟩ = some (.bool false) ∧ w'.cell? ⟨E3, 1, none⟩ = some (.slice o5 G7.length k5) ∧ w'.cell? ⟨E3, 2, none⟩ = some (B9) ∧ w'.cell? ⟨E3, 3, none⟩ = some (O6) ∧ w'.cell? (jH.add ((U3).toNat * 2)) = some (.string ((qb2 l0 U3).f0)) ∧ w'.cell? ⟨(jH.add ((U3).toNat * 2)).block, (jH.add ((U3).toNat * 2)).off + 1, none⟩ = some (.int .i64 ((qb2 l0 U3).f1))) (ds := [10]) #[false, false, false, false, false, false, false, false, false, false, false] zbS rfl rfl ⟨(qac O1.o 0).trans rfl, (qac O1.o 1).trans rfl, (qac O1.o 2).trans rfl, (qac O1.o 3).trans rfl, ((HB.o.cell (World.block_lt_of_cell? w _ U9)).trans U9), ((HB.o.cell (World.block_lt_of_cell? w _ Y9)).trans Y9)⟩ (fun hHeld => ?_); refine qbg qaI.tab5 qaI.bits5 (fun l4 R6 => ?_);generalize wr.drew = CG at M3 I5 t3 J3 O1 HB eF cF hHeld ⊢;refine qcu (i := 0) (N := some 15) (v := ?_) (a' := ?_) #[true, false, false, false, false, false, false, false, false, false, false] rfl rfl (qbP l4.o zbS) (fun _ _ _ h => h) (Or.inl ⟨zbX, ?_⟩) ?_ ?_;rotate_left
       ·intro w';go_simp
        with_reducible rfl
       rotate_left
       ·simp only [Act.put, List.setIfInBounds_toArray, List.set_cons_zero, List.set_cons_succ, qbw, qbB];rfl
       refine qcu (i := 2) (N := some 17) (v := ?_) (a' := ?_) #[true, false, true, false, false, false, false, false, false, false, false] rfl rfl (qbP l4.o zbS) (fun _ _ _ h => h) (Or.inl ⟨zbX, ?_⟩) ?_ ?_;rotate_left
       ·intro w';go_simp
        with_reducible rfl
       rotate_left
       ·simp only [Act.put, List.setIfInBounds_toArray, List.set_cons_zero, List.set_cons_succ, qbw, qbB];rfl
       refine qcu (i := 3) (N := some 18) (v := ?_) (a' := ?_) #[true, false, true, true, false, false, false, false, false, false, false] rfl rfl (qbP l4.o zbS) (fun _ _ _ h => h) (Or.inl ⟨zbX, ?_⟩) ?_ ?_;rotate_left
       ·intro w';go_simp
        with_reducible rfl
       rotate_left
       ·simp only [Act.put, List.setIfInBounds_toArray, List.set_cons_zero, List.set_cons_succ, qbw, qbB];rfl
       refine qcu (i := 4) (N := some 19) (v := ?_) (a' := ?_) #[true, false, true, true, true, false, false, false, false, false, false] rfl rfl (qbP l4.o zbS) (fun _ _ _ h => h) (Or.inl ⟨zbX, ?_⟩) ?_ ?_;rotate_left
       ·intro w';go_simp
        with_reducible rfl
       rotate_left
       ·simp only [Act.put, List.setIfInBounds_toArray, List.set_cons_zero, List.set_cons_succ, qbw, qbB];rfl
       refine qcu (i := 5) (N := some 20) (v := ?_) (a' := ?_) #[true, false, true, true, true, true, false, false, false, false, false] rfl rfl (qbP l4.o zbS) (fun _ _ _ h => h) (Or.inl ⟨zbX, ?_⟩) ?_ ?_;rotate_left
       ·intro w';go_simp
        with_reducible rfl
       rotate_left
       ·simp only [Act.put, List.setIfInBounds_toArray, List.set_cons_zero, List.set_cons_succ, qbw, qbB];rfl
       refine qfe (i := 1) (N := some 16) (v := ?_) (a' := ?_) #[true, true, true, true, true, true, false, false, false, false, false] rfl rfl (qcN l4.o R6.o zbS) (fun _ _ _ h => h) (Or.inl ⟨zbX, ?_⟩) hHeld ?_ ?_;rotate_left
       ·rintro w' ⟨s0, s1, s2, s3, s4, s5⟩;go_simp
        with_reducible rfl
       rotate_left
       ·simp only [Act.put, List.setIfInBounds_toArray, List.set_cons_zero, List.set_cons_succ, qbw, qbB];rfl
       refine qfe (i := 6) (N := some 21) (v := ?_) (a' := ?_) #[true, true, true, true, true, true, true, false, false, false, false] rfl rfl (qcN l4.o R6.o zbS) (fun _ _ _ h => h) (Or.inl ⟨zbX, ?_⟩) hHeld ?_ ?_;rotate_left
       ·rintro w' ⟨s0, s1, s2, s3, s4, s5⟩;go_simp
        with_reducible rfl
       rotate_left
       ·simp only [Act.put, List.setIfInBounds_toArray, List.set_cons_zero, List.set_cons_succ, qbw, qbB];rfl
       refine one_ (i := 7) (N := some 22) #[true, true, true, true, true, true, true, true, false, false, false] rfl rfl (qdV l4.o zbS) zbT (fun K hK => ?_);refine qae (w1 := ?_) (v := ?_) zbX rfl ?_ ?_;rotate_left 2
       ·go_simp
        constructor
        ·rfl
        ·rfl
       refine hK.o _ _ ⟨(qac (qah O1.o _) 0).trans rfl, (qac (qah O1.o _) 1).trans rfl, (qac (qah O1.o _) 2).trans rfl, (qac (qah O1.o _) 3).trans rfl, (World.cell?_alloc_lt _ _ _ (World.block_lt_of_cell? _ _ (((HB.o.cell (World.block_lt_of_cell? w _ U9)).trans U9)))).trans (((HB.o.cell (World.block_lt_of_cell? w _ U9)).trans U9)), (World.cell?_alloc_lt _ _ _ (World.block_lt_of_cell? _ _ (((HB.o.cell (World.block_lt_of_cell? w _ Y9)).trans Y9)))).trans (((HB.o.cell (World.block_lt_of_cell? w _ Y9)).trans Y9))⟩ (fun hHeld => ?_);clear hK K;refine qgt (a' := ?_) ?_ ?_;rotate_left
       ·show Act.put _ (some 22) _ = _
        simp only [Act.put, List.setIfInBounds_toArray, List.set_cons_zero, List.set_cons_succ, qbw, qbB];rfl
       refine one_ (i := 8) (N := some 23) #[true, true, true, true, true, true, true, true, true, false, false] rfl rfl (qdV l4.o zbS) zbT (fun K hK => ?_);refine Kd.qbS Kd.string (w0 := w) w.heap.size zbX (.tmp 16) (.tmp 22) 73 9 (.string ⟨#[]⟩) 16 rfl Try.underlying73 info9 rfl zbT zbV B9 W5 ((qb2 l0 U3).f0) [.string ((qb2 l0 U3).f0)] (fun _ => True) (fun _ => False) rfl rfl ?aP (fun _ hk => hk.elim) ?aF ?aO ?aB ?aS ?aL ?_
       (case aP => exact rfl)
       (case aB => exact (zaf S8.o YF.o))
       (case aF => exact (fun _ _ => trivial))
       (case aO => exact (zae I5.o))
       (case aS => exact (qaC (zaf S8.o YF.o)))
       (case aL => have := IX.o; omega)
       intro v293 uG ho hb hg hat;rw [← La.o] at ho;have H0 := z_ (Kd.qdh (zae M3.o) (Kd.qcL (zae I5.o)) zbT hg);have I0 := z_ (Kd.qdh (zae t3.o) (Kd.qcL (zae I5.o)) zbT hg);have K0 := z_ (qbd (g := C5) (o := .cells #[.bool false, .slice none 0 0, .slice none 0 0, .slice none 0 0] 75 (0, 0)) (zac J3.o) hg (Kd.R_ne I5.o J3.o zbT));have U0 := z_ (qbd (g := E3) (o := .cells #[.bool false, .slice o5 G7.length k5, B9, O6] 75 (0, 0)) (zac O1.o) hg (Kd.R_ne I5.o O1.o zbT));have N5 := z_ (hb);have b9 := z_ (ho);clear M3 t3 J3 O1 HB I5;have M3 := H0;have t3 := I0;have J3 := K0;have O1 := U0;have HB := N5;have iB := b9;clear H0 I0 K0 U0 N5 b9 ho hb hg hat;obtain ⟨EA, UA, MO⟩ := Kd.qbi iB.o
       (first | subst MO | (injection MO with GI jO CI; have UP := GI.symm; have dP := CI.symm; clear GI jO CI; subst UP; subst dP))
       refine hK.o _ _ ⟨(qac O1.o 0).trans rfl, (qac O1.o 1).trans rfl, (qac O1.o 2).trans rfl, (qac O1.o 3).trans rfl, ((HB.o.cell (World.block_lt_of_cell? w _ U9)).trans U9), ((HB.o.cell (World.block_lt_of_cell? w _ Y9)).trans Y9)⟩ (fun hHeld => ?_);clear hK K;refine qgt (a' := ?_) ?_ ?_;rotate_left
       ·show Act.put _ (some 23) _ = _
        simp only [Act.put, List.setIfInBounds_toArray, List.set_cons_zero, List.set_cons_succ, qbw, qbB];rfl
       refine qcu (i := 9) (N := some 24) (v := ?_) (a' := ?_) #[true, true, true, true, true, true, true, true, true, true, false] rfl rfl (qbP l4.o zbS) (fun _ _ _ h => h) (Or.inl ⟨zbX, ?_⟩) ?_ ?_;rotate_left
       ·intro w';go_simp
        with_reducible rfl
       rotate_left
       ·simp only [Act.put, List.setIfInBounds_toArray, List.set_cons_zero, List.set_cons_succ, qbw, qbB];rfl
       refine last_ (i := 10) (N := none) #[true, true, true, true, true, true, true, true, true, true, true] rfl rfl (qdV l4.o zbS) zbT (fun K hK => ?_);have hs22 : uG.cell? ⟨E3, 2, none⟩ = some (B9) := (qac O1.o 2).trans rfl;have hfs22 := qab O1.o 2;have Zc := K6.o;have Pd := RB.o;refine qeR (w1 := ?_) zbX rfl ?_ ?_;rotate_left
       ·go_simp;rfl
       refine hK.o _ _ ?_;clear hK K;refine qjc (qfv l4.o zbS) ?_;try go_wp2
       have H0 : Aside0 (Kd.R k77 77 (uG.setCell ⟨E3, 2, none⟩ (.slice EA oA.length UA)) w.heap.size (fun _ => True) (.slice o5 G7.length k5) G7) := ⟨by (with_reducible repeat (first | apply Kd.qaV | apply Kd.qa0 | apply Kd.qa6)); exact Kd.qbb (Kd.qbQ (p := ⟨E3, 2, none⟩) (Kd.qbu M3.o O1.o zbT) (fun _ hk => hk.2) (.slice EA oA.length UA)) (fun _ hk => trivial)⟩;have I0 : Aside0 (Kd.R (Kd.int .i64) 3 (uG.setCell ⟨E3, 2, none⟩ (.slice EA oA.length UA)) w.heap.size (fun _ => True) O6 i5) := ⟨by (with_reducible repeat (first | apply Kd.qaV | apply Kd.qa0 | apply Kd.qa6)); exact Kd.qbb (Kd.qbQ (p := ⟨E3, 2, none⟩) (Kd.qbu t3.o O1.o zbT) (fun _ hk => hk.2) (.slice EA oA.length UA)) (fun _ hk => trivial)⟩;have K0 : Aside0 (Kd.R Kd.string 9 (uG.setCell ⟨E3, 2, none⟩ (.slice EA oA.length UA)) w.heap.size (fun _ => True) (.slice EA oA.length UA) oA) := ⟨by (with_reducible repeat (first | apply Kd.qaV | apply Kd.qa0 | apply Kd.qa6)); exact Kd.qbb (Kd.qbQ (p := ⟨E3, 2, none⟩) (Kd.qbu iB.o O1.o zbT) (fun _ hk => hk.2) (.slice EA oA.length UA)) (fun _ hk => trivial)⟩;have U0 : Aside0 ((uG.setCell ⟨E3, 2, none⟩ (.slice EA oA.length UA)).heap[C5]? = some (.cells #[.bool false, .slice none 0 0, .slice none 0 0, .slice none 0 0] 75 (0, 0))) := ⟨by (with_reducible repeat (first | refine qaj ?_ _ | refine qai ?_ | refine qah ?_ _)); refine qbF ?_ K6.o _; (with_reducible repeat (first | refine qaj ?_ _ | refine qai ?_ | refine qah ?_ _)); exact J3.o⟩;have N5 : Aside0 ((uG.setCell ⟨E3, 2, none⟩ (.slice EA oA.length UA)).heap[E3]? = some (.cells #[.bool false, .slice o5 G7.length k5, .slice EA oA.length UA, O6] 75 (0, 0))) := ⟨by (with_reducible repeat (first | refine qaj ?_ _ | refine qai ?_ | refine qah ?_ _)); refine qbm (cs := #[.bool false, .slice o5 G7.length k5, B9, O6]) ?_ 2 _ rfl; (with_reducible repeat (first | refine qaj ?_ _ | refine qai ?_ | refine qah ?_ _)); exact O1.o⟩;have b9 : Aside0 (Below w.heap.size w (uG.setCell ⟨E3, 2, none⟩ (.slice EA oA.length UA))) := ⟨zaf S8.o YF.o⟩
       (try clear M3)
       (try clear t3)
       (try clear iB)
       (try clear J3)
       (try clear O1)
       (try clear HB)
       generalize (uG.setCell ⟨E3, 2, none⟩ (.slice EA oA.length UA)) = KF at H0 I0 K0 U0 N5 b9 ⊢;have M3 := H0;have t3 := I0;have iB := K0;have J3 := U0;have O1 := N5;have HB := b9;clear H0 I0 K0 U0 N5 b9;have H0 := z_ (Kd.qa6 M3.o);have I0 := z_ (Kd.qa6 t3.o);have K0 := z_ (Kd.qa6 iB.o);have U0 := z_ (qai J3.o);have N5 := z_ (qai O1.o);have b9 := z_ (qaP HB.o);clear M3 t3 iB J3 O1 HB;have M3 := H0;have t3 := I0;have iB := K0;have J3 := U0;have O1 := N5;have HB := b9;clear H0 I0 K0 U0 N5 b9;have fX : 0 ≤ (U3 : Int) := of_decide_eq_true zaN;have mX : U3 < (l0.length : Int) := of_decide_eq_true zaN;obtain ⟨BZ, e295, bE, rD⟩ := qeW I7.o U3 fX mX;have Z9 := rD;have V9 := bE;obtain rfl : jH = BZ := (by injection e295);replace bE := (HB.o.cell (World.block_lt_of_cell? w _ bE)).trans bE;replace rD := (HB.o.cell (World.block_lt_of_cell? w _ rD)).trans rD;replace fX := eq_true fX;replace mX := eq_true mX;refine qbY (n := 11) (S := fun w' => w'.cell? ⟨E3, 0, none⟩ = some (.bool false) ∧ w'.cell? ⟨E3, 1, none⟩ = some (.slice o5 G7.length k5) ∧ w'.cell? ⟨E3, 2, none⟩ = some (.slice EA oA.length UA) ∧ w'.cell? ⟨E3, 3, none⟩ = some (O6) ∧ w'.cell? (jH.add ((U3).toNat * 2)) = some (.string ((qb2 l0 U3).f0)) ∧ w'.cell? ⟨(jH.add ((U3).toNat * 2)).block, (jH.add ((U3).toNat * 2)).off + 1, none⟩ = some (.int .i64 ((qb2 l0 U3).f1))) (ds := [10]) #[false, false, false, false, false, false, false, false, false, false, false] zbS rfl rfl ⟨(qac O1.o 0).trans rfl, (qac O1.o 1).trans rfl, (qac O1.o 2).trans rfl, (qac O1.o 3).trans rfl, ((HB.o.cell (World.block_lt_of_cell? w _ V9)).trans V9), ((HB.o.cell (World.block_lt_of_cell? w _ Z9)).trans Z9)⟩ (fun hHeld => ?_); refine qbg qaI.tab6 qaI.bits6 (fun l4 R6 => ?_);generalize KF.drew = VU at M3 t3 iB J3 O1 HB bE rD hHeld ⊢;refine qcu (i := 0) (N := some 25) (v := ?_) (a' := ?_) #[true, false, false, false, false, false, false, false, false, false, false] rfl rfl (qbP l4.o zbS) (fun _ _ _ h => h) (Or.inl ⟨zbX, ?_⟩) ?_ ?_;rotate_left
       ·intro w';go_simp
        with_reducible rfl
       rotate_left
       ·simp only [Act.put, List.setIfInBounds_toArray, List.set_cons_zero, List.set_cons_succ, qbw, qbB];rfl
       refine qcu (i := 2) (N := some 27) (v := ?_) (a' := ?_) #[true, false, true, false, false, false, false, false, false, false, false] rfl rfl (qbP l4.o zbS) (fun _ _ _ h => h) (Or.inl ⟨zbX, ?_⟩) ?_ ?_;rotate_left
       ·intro w';go_simp
        with_reducible rfl
       rotate_left
       ·simp only [Act.put, List.setIfInBounds_toArray, List.set_cons_zero, List.set_cons_succ, qbw, qbB];rfl
       refine qcu (i := 3) (N := some 28) (v := ?_) (a' := ?_) #[true, false, true, true, false, false, false, false, false, false, false] rfl rfl (qbP l4.o zbS) (fun _ _ _ h => h) (Or.inl ⟨zbX, ?_⟩) ?_ ?_;rotate_left
       ·intro w';go_simp
        with_reducible rfl
       rotate_left
       ·simp only [Act.put, List.setIfInBounds_toArray, List.set_cons_zero, List.set_cons_succ, qbw, qbB];rfl
       refine qcu (i := 4) (N := some 29) (v := ?_) (a' := ?_) #[true, false, true, true, true, false, false, false, false, false, false] rfl rfl (qbP l4.o zbS) (fun _ _ _ h => h) (Or.inl ⟨zbX, ?_⟩) ?_ ?_;rotate_left
       ·intro w';go_simp
        with_reducible rfl
       rotate_left
       ·simp only [Act.put, List.setIfInBounds_toArray, List.set_cons_zero, List.set_cons_succ, qbw, qbB];rfl
       refine qcu (i := 5) (N := some 30) (v := ?_) (a' := ?_) #[true, false, true, true, true, true, false, false, false, false, false] rfl rfl (qbP l4.o zbS) (fun _ _ _ h => h) (Or.inl ⟨zbX, ?_⟩) ?_ ?_;rotate_left
       ·intro w';go_simp
        with_reducible rfl
       rotate_left
       ·simp only [Act.put, List.setIfInBounds_toArray, List.set_cons_zero, List.set_cons_succ, qbw, qbB];rfl
       refine qfe (i := 1) (N := some 26) (v := ?_) (a' := ?_) #[true, true, true, true, true, true, false, false, false, false, false] rfl rfl (qcN l4.o R6.o zbS) (fun _ _ _ h => h) (Or.inl ⟨zbX, ?_⟩) hHeld ?_ ?_;rotate_left
       ·rintro w' ⟨s0, s1, s2, s3, s4, s5⟩;go_simp
        with_reducible rfl
       rotate_left
       ·simp only [Act.put, List.setIfInBounds_toArray, List.set_cons_zero, List.set_cons_succ, qbw, qbB];rfl
       refine qfe (i := 6) (N := some 31) (v := ?_) (a' := ?_) #[true, true, true, true, true, true, true, false, false, false, false] rfl rfl (qcN l4.o R6.o zbS) (fun _ _ _ h => h) (Or.inl ⟨zbX, ?_⟩) hHeld ?_ ?_;rotate_left
       ·rintro w' ⟨s0, s1, s2, s3, s4, s5⟩;go_simp
        with_reducible rfl
       rotate_left
       ·simp only [Act.put, List.setIfInBounds_toArray, List.set_cons_zero, List.set_cons_succ, qbw, qbB];rfl
       refine one_ (i := 7) (N := some 32) #[true, true, true, true, true, true, true, true, false, false, false] rfl rfl (qdV l4.o zbS) zbT (fun K hK => ?_);refine qae (w1 := ?_) (v := ?_) zbX rfl ?_ ?_;rotate_left 2
       ·go_simp
        constructor
        ·rfl
        ·rfl
       refine hK.o _ _ ⟨(qac (qah O1.o _) 0).trans rfl, (qac (qah O1.o _) 1).trans rfl, (qac (qah O1.o _) 2).trans rfl, (qac (qah O1.o _) 3).trans rfl, (World.cell?_alloc_lt _ _ _ (World.block_lt_of_cell? _ _ (((HB.o.cell (World.block_lt_of_cell? w _ V9)).trans V9)))).trans (((HB.o.cell (World.block_lt_of_cell? w _ V9)).trans V9)), (World.cell?_alloc_lt _ _ _ (World.block_lt_of_cell? _ _ (((HB.o.cell (World.block_lt_of_cell? w _ Z9)).trans Z9)))).trans (((HB.o.cell (World.block_lt_of_cell? w _ Z9)).trans Z9))⟩ (fun hHeld => ?_);clear hK K;refine qgt (a' := ?_) ?_ ?_;rotate_left
       ·show Act.put _ (some 32) _ = _
        simp only [Act.put, List.setIfInBounds_toArray, List.set_cons_zero, List.set_cons_succ, qbw, qbB];rfl
       refine one_ (i := 8) (N := some 33) #[true, true, true, true, true, true, true, true, true, false, false] rfl rfl (qdV l4.o zbS) zbT (fun K hK => ?_);refine Kd.qbS (Kd.int .i64) (w0 := w) w.heap.size zbX (.tmp 26) (.tmp 32) 29 3 (.int .i64 0) 8 rfl Try.underlying29 info3 rfl zbT zbV O6 i5 ((qb2 l0 U3).f1) [.int .i64 ((qb2 l0 U3).f1)] (fun _ => True) (fun _ => False) rfl rfl ?aP (fun _ hk => hk.elim) ?aF ?aO ?aB ?aS ?aL ?_
       (case aP => exact rfl)
       (case aB => exact (zaf S8.o YF.o))
       (case aF => exact (fun _ _ => trivial))
       (case aO => exact (zae t3.o))
       (case aS => exact (qaC (zaf S8.o YF.o)))
       (case aL => have := oY.o; omega)
       intro v297 RL ho hb hg hat;rw [← wZ.o] at ho;have H0 := z_ (Kd.qdh (zae M3.o) (Kd.qcL (zae t3.o)) zbT hg);have I0 := z_ (qbd (g := C5) (o := .cells #[.bool false, .slice none 0 0, .slice none 0 0, .slice none 0 0] 75 (0, 0)) (zac J3.o) hg (Kd.R_ne t3.o J3.o zbT));have K0 := z_ (qbd (g := E3) (o := .cells #[.bool false, .slice o5 G7.length k5, .slice EA oA.length UA, O6] 75 (0, 0)) (zac O1.o) hg (Kd.R_ne t3.o O1.o zbT));have U0 := z_ (Kd.qdh (zae iB.o) (Kd.qcL (zae t3.o)) zbT hg);have N5 := z_ (hb);have b9 := z_ (ho);clear M3 J3 O1 iB HB t3;have M3 := H0;have J3 := I0;have O1 := K0;have iB := U0;have HB := N5;have ET := b9;clear H0 I0 K0 U0 N5 b9 ho hb hg hat;obtain ⟨UQ, CR, gZ⟩ := Kd.qbi ET.o
       (first | subst gZ | (injection gZ with GI jO CI; have UP := GI.symm; have dP := CI.symm; clear GI jO CI; subst UP; subst dP))
       refine hK.o _ _ ⟨(qac O1.o 0).trans rfl, (qac O1.o 1).trans rfl, (qac O1.o 2).trans rfl, (qac O1.o 3).trans rfl, ((HB.o.cell (World.block_lt_of_cell? w _ V9)).trans V9), ((HB.o.cell (World.block_lt_of_cell? w _ Z9)).trans Z9)⟩ (fun hHeld => ?_);clear hK K;refine qgt (a' := ?_) ?_ ?_;rotate_left
       ·show Act.put _ (some 33) _ = _
        simp only [Act.put, List.setIfInBounds_toArray, List.set_cons_zero, List.set_cons_succ, qbw, qbB];rfl
       refine qcu (i := 9) (N := some 34) (v := ?_) (a' := ?_) #[true, true, true, true, true, true, true, true, true, true, false] rfl rfl (qbP l4.o zbS) (fun _ _ _ h => h) (Or.inl ⟨zbX, ?_⟩) ?_ ?_;rotate_left
       ·intro w';go_simp
        with_reducible rfl
       rotate_left
       ·simp only [Act.put, List.setIfInBounds_toArray, List.set_cons_zero, List.set_cons_succ, qbw, qbB];rfl
       refine last_ (i := 10) (N := none) #[true, true, true, true, true, true, true, true, true, true, true] rfl rfl (qdV l4.o zbS) zbT (fun K hK => ?_);have hs27 : RL.cell? ⟨E3, 3, none⟩ = some (O6) := (qac O1.o 3).trans rfl;have hfs27 := qab O1.o 3;have Gd := K6.o;have Mb := RB.o;refine qeR (w1 := ?_) zbX rfl ?_ ?_;rotate_left
       ·go_simp;rfl
       refine hK.o _ _ ?_;clear hK K;refine qjc (qfv l4.o zbS) ?_;try go_wp2
       go_roundg k1
       case measure => have := q7.o; omega
       case rel => exact ⟨(wrap64 (U3 + 1)), (oA), (gO), (.slice EA oA.length UA), (.slice UQ gO.length CR), zbs, H', ⟨zbK⟩, ⟨by (with_reducible repeat (first | apply Kd.qaV | apply Kd.qa0 | apply Kd.qa6)); exact Kd.qbb (Kd.qbQ (p := ⟨E3, 3, none⟩) (Kd.qbu M3.o O1.o zbT) (fun _ hk => hk.2) (.slice UQ gO.length CR)) (fun _ hk => trivial)⟩, ⟨by (with_reducible repeat (first | apply Kd.qaV | apply Kd.qa0 | apply Kd.qa6)); exact Kd.qbb (Kd.qbQ (p := ⟨E3, 3, none⟩) (Kd.qbu iB.o O1.o zbT) (fun _ hk => hk.2) (.slice UQ gO.length CR)) (fun _ hk => trivial)⟩, ⟨by (with_reducible repeat (first | apply Kd.qaV | apply Kd.qa0 | apply Kd.qa6)); exact Kd.qbb (Kd.qbQ (p := ⟨E3, 3, none⟩) (Kd.qbu ET.o O1.o zbT) (fun _ hk => hk.2) (.slice UQ gO.length CR)) (fun _ hk => trivial)⟩, ⟨by (with_reducible repeat (first | refine qaj ?_ _ | refine qai ?_ | refine qah ?_ _)); refine qbF ?_ K6.o _; (with_reducible repeat (first | refine qaj ?_ _ | refine qai ?_ | refine qah ?_ _)); exact J3.o⟩, ⟨by (with_reducible repeat (first | refine qaj ?_ _ | refine qai ?_ | refine qah ?_ _)); refine qbm (cs := #[.bool false, .slice o5 G7.length k5, .slice EA oA.length UA, O6]) ?_ 3 _ rfl; (with_reducible repeat (first | refine qaj ?_ _ | refine qai ?_ | refine qah ?_ _)); exact O1.o⟩, ⟨zaf S8.o YF.o⟩⟩
      ·rw [if_neg c18] at H;exact absurd H zbW
     ·rw [if_neg c17] at H;exact absurd H zbW
    ·rw [if_neg c16] at H;exact absurd H zbW
   ·rw [if_neg c15] at H;have bN : decide (U3 < (l0.length : Int)) = false := decide_eq_false c15;clear c15;simp only [Option.some.injEq, Prod.mk.injEq] at H;obtain ⟨rfl, rfl, rfl, rfl⟩ := H;have hnb28 := RB.o;have hnc28 := K6.o;have Zb : wr.cell? ⟨E3, 0, none⟩ = some (.bool false) := (qac O1.o 0).trans rfl;have lc : wr.cell? ⟨E3, 1, none⟩ = some (.slice o5 G7.length k5) := (qac O1.o 1).trans rfl;have Pb : wr.cell? ⟨E3, 2, none⟩ = some (B9) := (qac O1.o 2).trans rfl;have Od : wr.cell? ⟨E3, 3, none⟩ = some (O6) := (qac O1.o 3).trans rfl;have Sb := qab O1.o 0;have ec := qab O1.o 1;have Fd := qab O1.o 2;have ob := qab O1.o 3;have BQ : wr.cell? ⟨C5, 0, none⟩ = some (.bool false) := (qac J3.o 0).trans rfl;have cd : wr.cell? ⟨C5, 1, none⟩ = some (.slice none 0 0) := (qac J3.o 1).trans rfl;have Fc : wr.cell? ⟨C5, 2, none⟩ = some (.slice none 0 0) := (qac J3.o 2).trans rfl;have Lb : wr.cell? ⟨C5, 3, none⟩ = some (.slice none 0 0) := (qac J3.o 3).trans rfl;have QQ := qab J3.o 0;have Vd := qab J3.o 1;have uc := qab J3.o 2;have Oc := qab J3.o 3;obtain ⟨YH, sI, eQ⟩ := Kd.qbi I5.o;subst eQ;obtain ⟨NO, qP, WV⟩ := Kd.qbi t3.o;subst WV
    go_wp2
    refine bodyPost_ret (results_cell_row rfl _ _ C5 75 #[.bool false, .slice o5 G7.length k5, .slice YH W5.length sI, .slice NO i5.length qP] (0, 0) _ rfl (by (with_reducible repeat (first | refine qaj ?_ _ | refine qai ?_ | refine qah ?_ _)); refine qbm (cs := #[.bool false, .slice o5 G7.length k5, .slice YH W5.length sI, .slice none 0 0]) ?_ 3 _ rfl; (with_reducible repeat (first | refine qaj ?_ _ | refine qai ?_ | refine qah ?_ _)); refine qbm (cs := #[.bool false, .slice o5 G7.length k5, .slice none 0 0, .slice none 0 0]) ?_ 2 _ rfl; (with_reducible repeat (first | refine qaj ?_ _ | refine qai ?_ | refine qah ?_ _)); refine qbm (cs := #[.bool false, .slice none 0 0, .slice none 0 0, .slice none 0 0]) ?_ 1 _ rfl; (with_reducible repeat (first | refine qaj ?_ _ | refine qai ?_ | refine qah ?_ _)); refine qbm (cs := #[.bool false, .slice none 0 0, .slice none 0 0, .slice none 0 0]) ?_ 0 _ rfl; (with_reducible repeat (first | refine qaj ?_ _ | refine qai ?_ | refine qah ?_ _)); exact J3.o) Try.underlying75 rfl zbS) rfl ?_;exact ⟨_, _, _, zaF, by (with_reducible repeat (first | apply Kd.qaV | apply Kd.qa0 | apply Kd.qa6)); exact Kd.qbb (Kd.qbQ (p := ⟨C5, 3, none⟩) (Kd.qbQ (p := ⟨C5, 2, none⟩) (Kd.qbQ (p := ⟨C5, 1, none⟩) (Kd.qbQ (p := ⟨C5, 0, none⟩) (Kd.qbu M3.o J3.o zbT) (fun _ hk => hk.2) (.bool false)) (fun _ hk => hk.2) (.slice o5 G7.length k5)) (fun _ hk => hk.2) (.slice YH W5.length sI)) (fun _ hk => hk.2) (.slice NO i5.length qP)) (fun _ hk => trivial), by (with_reducible repeat (first | apply Kd.qaV | apply Kd.qa0 | apply Kd.qa6)); exact Kd.qbb (Kd.qbQ (p := ⟨C5, 3, none⟩) (Kd.qbQ (p := ⟨C5, 2, none⟩) (Kd.qbQ (p := ⟨C5, 1, none⟩) (Kd.qbQ (p := ⟨C5, 0, none⟩) (Kd.qbu I5.o J3.o zbT) (fun _ hk => hk.2) (.bool false)) (fun _ hk => hk.2) (.slice o5 G7.length k5)) (fun _ hk => hk.2) (.slice YH W5.length sI)) (fun _ hk => hk.2) (.slice NO i5.length qP)) (fun _ hk => trivial), by (with_reducible repeat (first | apply Kd.qaV | apply Kd.qa0 | apply Kd.qa6)); exact Kd.qbb (Kd.qbQ (p := ⟨C5, 3, none⟩) (Kd.qbQ (p := ⟨C5, 2, none⟩) (Kd.qbQ (p := ⟨C5, 1, none⟩) (Kd.qbQ (p := ⟨C5, 0, none⟩) (Kd.qbu t3.o J3.o zbT) (fun _ hk => hk.2) (.bool false)) (fun _ hk => hk.2) (.slice o5 G7.length k5)) (fun _ hk => hk.2) (.slice YH W5.length sI)) (fun _ hk => hk.2) (.slice NO i5.length qP)) (fun _ hk => trivial), zaf S8.o YF.o⟩
def partL (l : List (ByteArray × Nat)) : List S118 := l.map (fun p => ⟨p.1, (p.2 : Int)⟩)
theorem qiP (l : List S118) (hl : l.length ≤ 1000) : ∀ (d i k : Nat) (y : List S77) (xs : List ByteArray) (ks : List Int), i + d = l.length → d < k → xs.length ≤ i → ks.length ≤ i → qaI.l0 k l (i : Int) false y xs ks = some (false, y, xs ++ (l.drop i).map (·.f0), ks ++ (l.drop i).map (·.f1)) := by
 intro d
 induction d with
 | zero =>
  intro i k y xs ks hi hk _ _;obtain ⟨k, rfl⟩ : ∃ j, k = j + 1 := ⟨k - 1, zbV⟩
  have hz : i = l.length := zbV;simp only [qaI.l0];rw [if_neg zbV, hz, List.drop_length];simp
 | succ d ih =>
  intro i k y xs ks hi hk hx hy;obtain ⟨k, rfl⟩ : ∃ j, k = j + 1 := ⟨k - 1, zbV⟩
  have hlt : i < l.length := zbV;have hrd : qb2 l (i : Int) = l[i] := by
   unfold qb2;rw [Int.toNat_natCast];simp [List.getD_eq_getElem?_getD, hlt]
  have hw : wrap64 ((i : Int) + 1) = ((i + 1 : Nat) : Int) := zbO;have := ih (i + 1) k y (xs ++ [l[i].f0]) (ks ++ [l[i].f1]) zbV zbV zbR zbR;simp only [qaI.l0];rw [if_pos zbV, if_pos zbV, if_pos zbV, if_pos zbV, hrd, hw, this, List.drop_eq_getElem_cons hlt];simp only [List.map_cons, List.append_assoc, List.cons_append, List.nil_append]
theorem inner_is (l : List S118) (hl : l.length ≤ 1000) : qaI.f (l.length + 1) l = some (false, [], l.map (·.f0), l.map (·.f1)) := by
 have := qiP l hl l.length 0 (l.length + 1) [] [] [] zbV zbV zbW zbW;unfold qaI.f
 simpa using this
theorem qjF (w : World) (A : Option Addr) (c : Nat) (l : List (ByteArray × Nat)) (P : Nat → Prop) (hf : Kd.F k118 w P A (partL l).length (partL l)) (hc : (partL l).length ≤ c) (hl : l.length ≤ 1000) :
  Calls Try.prog 95 #[.slice A (partL l).length c] w fun e w' => ∃ v, e = .returned v ∧ NodeV w' (fun k => (P k ∧ k < w.heap.size) ∨ w.heap.size ≤ k) (qaN l).2 v ∧ Below w.heap.size w w' := by
 have hi := inner_is (partL l) (by unfold partL; rw [List.length_map]; exact hl);refine (qaI.calls (hr0 := Kd.qdc hf) (hc0 := hc) (h := hi)).mono ?_;rintro e w1 ⟨v1, v2, v3, rfl, h1, h2, h3, hb⟩;obtain ⟨A1, c1, rfl, g1, _⟩ := Kd.qbI h1;obtain ⟨A2, c2, rfl, g2, _⟩ := Kd.qbI h2;obtain ⟨A3, c3, rfl, g3, _⟩ := Kd.qbI h3;have e2 : (partL l).map (·.f0) = (qaN l).2.f2 := by unfold partL qaN; rw [List.map_map]; rfl
 have e3 : (partL l).map (·.f1) = (qaN l).2.f3 := by unfold partL qaN; rw [List.map_map]; rfl
 rw [e2] at h2 g2;rw [e3] at h3 g3;refine ⟨_, rfl, ⟨A1, c1, A2, c2, A3, c3, ?_, ⟨Kd.qdi (qht h1) (fun k hk => .inr hk), g1⟩, ⟨Kd.qdi (qht h2) (fun k hk => .inr hk), g2⟩, ⟨Kd.qdi (qht h3) (fun k hk => .inr hk), g3⟩⟩, hb⟩;rw [e2, e3];rfl
theorem NodeV.mono {w : World} {P Q : Nat → Prop} {x : S75} {v : Value} (h : NodeV w P x v) (hp : ∀ k, P k → Q k) : NodeV w Q x v := by
 obtain ⟨A1, c1, A2, c2, A3, c3, rfl, h1, h2, h3⟩ := h.ex;exact ⟨A1, c1, A2, c2, A3, c3, rfl, ⟨Kd.qdi h1.1 hp, h1.2⟩, ⟨Kd.qdi h2.1 hp, h2.2⟩, ⟨Kd.qdi h3.1 hp, h3.2⟩⟩
theorem ePt : ∀ q, q ∈ 118 :: k118.E → q = 118 ∨ q = 9 ∨ q = 3 := fun q hq => by
 simp only [k118, Kd.iso, Kd.pair, Kd.scalar, Kd.string, Kd.int, List.mem_cons, List.mem_append, List.not_mem_nil, or_false, false_or, List.append_nil, List.nil_append] at hq;simp [*]
theorem nePt : (∀ q, q ∈ 118 :: k118.E → q ≠ 111) ∧ (∀ q, q ∈ 118 :: k118.E → q ≠ 75) ∧ ∀ q, q ∈ 118 :: k118.E → q ≠ 4 := by
 refine ⟨fun q hq => ?_, fun q hq => ?_, fun q hq => ?_⟩ <;> (rcases ePt q hq with rfl | rfl | rfl <;> decide)
structure LvAt {α : Type} (kL : Kd α) (w0 w w' : World) (g gn cn gu cu : Nat) (P : Nat → Prop) (A : Option Addr) (L : List α) (b : List S75 × List Bool × Bool) (v : Value) (out : List S118) : Prop where
 below : Below w0.heap.size w0 w'
 kept : Kept w w' (S3 g gn gu)
 list : Kd.F kL w' (fun k => P k ∧ k < w.heap.size) A L.length L
 bs : BsAt w0 w' g gn cn gu cu b
 o : Kd.R k118 118 w' w.heap.size (fun _ => True) v out
section
variable {α : Type} {kL : Kd α} {w0 w w' w1 : World} {g gn cn gu cu : Nat} {P : Nat → Prop} {A : Option Addr} {L : List α} {b c : List S75 × List Bool × Bool} {v : Value} {out : List S118}
theorem LvAt.qbE (h : LvAt kL w0 w w' g gn cn gu cu P A L b v out) (hb : Below w'.heap.size w' w1) : LvAt kL w0 w w1 g gn cn gu cu P A L b v out := ⟨qad h.below hb, h.kept.below hb, Kd.qbT h.list hb, h.bs.below hb, Kd.qbO h.o hb⟩
theorem LvAt.put (h : LvAt kL w0 w w' g gn cn gu cu P A L b v out) (hP : ∀ k, P k → ¬ S3 g gn gu k) (hb : BsAt w0 w1 g gn cn gu cu c) (hw : Below w0.heap.size w0 w1) (hk : Kept w' w1 (S3 g gn gu)) : LvAt kL w0 w w1 g gn cn gu cu P A L c v out :=
 ⟨hw, ⟨Nat.le_trans h.kept.1 hk.1, fun i hi hn => (hk.2 i (Nat.lt_of_lt_of_le hi h.kept.1) hn).trans (h.kept.2 i hi hn)⟩, Kd.qdj h.list hk (fun k hk => hP k hk.1), hb, qiw h.o h.bs hk nePt.1 nePt.2.1 nePt.2.2⟩
theorem LvAt.grown (h : LvAt kL w0 w w' g gn cn gu cu P A L b v out) (h0 : w0.heap.size ≤ w.heap.size) (hg : w'.grownBy w1 v.ownBlock) {v1 : Value} {JP : List S118} (ho : Kd.R k118 118 w1 w.heap.size (fun _ => True) v1 JP) : LvAt kL w0 w w1 g gn cn gu cu P A L b v1 JP := by
 have hbase := Kd.qb0 h.o;have hs := h.kept.1;refine ⟨Below.grown h.below hg zbV (fun k hk => by have := hbase k hk; omega), ⟨Nat.le_trans hs hg.size, fun i hi hn => (hg.block i zbV (fun e => by have := hbase i e.symm; omega)).trans (h.kept.2 i hi hn)⟩, Kd.qgz h.list hg (fun k hk e => by have := hbase k e.symm; have := hk.2; omega), h.bs.grown (Kd.qcL h.o) hg zbT zbT zbT, ho⟩
theorem LvAt.node (h : LvAt kL w0 w w' g gn cn gu cu P A L b v out) (hP : ∀ k, P k → ¬ S3 g gn gu k) (hS : ∀ k, S3 g gn gu k → k < w.heap.size) {x : S75} {vn : Value} (hv : NodeV w1 (fun k => ((P k ∧ k < w.heap.size) ∧ k < w'.heap.size) ∨ w'.heap.size ≤ k) x vn) : NodeV w1 (fun k => ¬ S3 g gn gu k) x vn :=
 hv.mono fun k hk => by
  rcases hk with hk | hk
  ·exact hP k hk.1.1
  ·exact fun e => by have := hS k e; have := h.kept.1; omega
end
theorem leaf_key {L : List S77} {k : Nat} (h : 0 < k) : (qaq L 0).f0 = (leafF (L.take k)).1 := by
 unfold leafF qcR qaq;simp only [Int.toNat_zero, Int.toNat_natCast, List.getD_eq_getElem?_getD, List.getElem?_take, h, if_true]
theorem qjG {L : List (ByteArray × Nat)} {k : Nat} (h : 0 < k) : (qb2 (partL L) 0).f0 = (qaN (L.take k)).1 := by
 obtain ⟨k, rfl⟩ : ∃ j, k = j + 1 := ⟨k - 1, zbV⟩
 cases L with
 | nil => rfl
 | cons a L => rfl
theorem qhu {L : List S77} : (qaq L 0).f0 = (leafF L).1 := rfl
theorem qgi {L : List (ByteArray × Nat)} : (qb2 (partL L) 0).f0 = (qaN L).1 := by
 cases L with
 | nil => rfl
 | cons a L => rfl
theorem qgF {L : List S77} (h : L.length ≤ 1000) : (leafF L).2.f1.length ≤ 1000000 ∧ (leafF L).2.f2.length ≤ 1000000 ∧ (leafF L).2.f3.length ≤ 1000000 := by
 unfold leafF; simp; omega
theorem qfI {L : List (ByteArray × Nat)} (h : L.length ≤ 1000) : (qaN L).2.f1.length ≤ 1000000 ∧ (qaN L).2.f2.length ≤ 1000000 ∧ (qaN L).2.f3.length ≤ 1000000 := by
 unfold qaN; simp; omega
theorem qjH {x : S75} {b : List S75 × List Bool × Bool} (h : b.1.length = 50 ∧ b.2.1.length = 50) : (layB x b).2.1.length = 50 ∧ (layB x b).2.2.1.length = 50 := by
 have := qh0 x b;exact ⟨this.len.trans h.1, this.lenu.trans h.2⟩
theorem LvAt.list2 {α : Type} {kL : Kd α} {w0 w w' : World} {g gn cn gu cu : Nat} {P : Nat → Prop} {A A2 : Option Addr} {L L2 : List α} {b : List S75 × List Bool × Bool} {v : Value} {out : List S118} (h : LvAt kL w0 w w' g gn cn gu cu P A L b v out) (hf : Kd.F kL w' (fun k => P k ∧ k < w.heap.size) A2 L2.length L2) : LvAt kL w0 w w' g gn cn gu cu P A2 L2 b v out := ⟨h.below, h.kept, hf, h.bs, h.o⟩
end Go.Proofs.Ytcdokcpiahbejaa.X
