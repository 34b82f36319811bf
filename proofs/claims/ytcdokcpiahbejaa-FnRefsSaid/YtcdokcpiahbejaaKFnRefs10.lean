import Derived.Test.YtcdokcpiahbejaaKFnRefs9
namespace Go.Proofs.Ytcdokcpiahbejaa.X
open Go.RowKit Go.Proofs.YtcdokcpiahbejaaW.PrintWords Go.Proofs.YtcdokcpiahbejaaW.PrintLast Go.Proofs.YtcdokcpiahbejaaW.PrintMore
attribute [local go_sem] qax qay qaz qat qau qaJ qaK qam qan qav qaw
set_option linter.unusedVariables false
set_option linter.unusedSimpArgs false
structure LocalOp (dop : List S77 → List S77) (key : ByteArray) : Prop where
 split : ∀ A B C : List S77, Rises (A ++ B ++ C) → B ≠ [] → (∀ m, A ≠ [] → qcZ B = some m → Op.bytesLess key.toList m.toList = false) → (∀ m, qcZ C = some m → Op.bytesLess key.toList m.toList = true) → dop (A ++ B ++ C) = A ++ dop B ++ C
 fine : ∀ l, Fine l → Fine (dop l)
 len : ∀ l, (dop l).length ≤ l.length + 1
theorem qdR {l : List S77} (hf : Fine l) (hl : l.length ≤ 6) (b : List S75 × List Bool × Bool) (d : Nat) : qe9 leafF b d (qcl 3 l) l [] := by
 have node : ∀ c : List S77, Fine c → 1 ≤ c.length → c.length ≤ 3 → qcZ c = some (leafF c).1 ∧ NodeB b d (leafF c).2 c [] := fun c h h1 h3 => by
  refine ⟨?_, (qgh h h1 h3).1, (qgh h h1 h3).2, .inl ⟨rfl, rfl, rfl⟩⟩;have hne : c ≠ [] := fun e => by rw [e] at h1; simp at h1
  have := qeY (p := []) hne
  simpa [leafF] using this
 unfold qcl
 split
 ·rename_i h;have e := List.take_append_drop ((l.length + 1) / 2) l;have f1 : Fine (l.take ((l.length + 1) / 2)) := qdQ (a := []) (c := l.drop ((l.length + 1) / 2)) (by rw [List.nil_append, e]; exact hf);have f2 : Fine (l.drop ((l.length + 1) / 2)) := qdQ (a := l.take ((l.length + 1) / 2)) (c := []) (by rw [List.append_nil, e]; exact hf);obtain ⟨a1, a2⟩ := node _ f1 zbG zbG;obtain ⟨b1, b2⟩ := node _ f2 zbH zbH;exact ⟨_, _, [], [], e.symm, rfl, a1, a2, _, [], [], [], zbW, rfl, b1, b2, rfl, rfl⟩
 ·rename_i h
  split
  ·rename_i h0;exact ⟨List.eq_nil_of_length_eq_zero h0, rfl⟩
  ·rename_i h0;obtain ⟨a1, a2⟩ := node l hf zbV zbV;exact ⟨l, [], [], [], zbW, rfl, a1, a2, rfl, rfl⟩
theorem qeJ {ms : List (ByteArray × Nat)} {b : List S75 × List Bool × Bool} {d : Nat} {ps : List S77} {pg : List Nat} (h : PD (TrD b.1 d) ms ps pg) (hf : Fine ps) (hn : b.1.length = 50) (hl : ms.length ≤ 8) : qe9 qaN b d (qcl 4 ms) ps pg := by
 have kids : ∀ (ms : List (ByteArray × Nat)) (ps : List S77) (pg : List Nat), PD (TrD b.1 d) ms ps pg → ∀ m, m ∈ ms → m.2 < 50 := by
  intro ms
  induction ms with
  | nil => intro _ _ _ m hm; cases hm
  | cons a r ih =>
   intro ps pg h m hm;obtain ⟨p1, p2, g1, g2, rfl, rfl, h1, _, h3⟩ := h
   rcases List.mem_cons.1 hm with rfl | hm
   ·rw [← hn]; exact (qhZ h1).2
   ·exact ih _ _ h3 m hm
 have node : ∀ (c : List (ByteArray × Nat)) (p : List S77) (g : List Nat), PD (TrD b.1 d) c p g → Fine p → 1 ≤ c.length → c.length ≤ 4 → qcZ p = some (qaN c).1 ∧ NodeB b d (qaN c).2 p g := fun c p g h hf h1 h4 => by
  obtain ⟨k1, k2⟩ := PD_keys c p g h hf;obtain ⟨r1, r2, r3⟩ := qh1 h1 h4 (fun m hm => ⟨(k2 m hm).1, kids c p g h m hm⟩) k1;refine ⟨?_, r1, r2, .inr ⟨rfl, by rw [r3]; exact h⟩⟩
  cases c with
  | nil => simp at h1
  | cons a r =>
   obtain ⟨p1, p2, g1, g2, rfl, rfl, _, h2, _⟩ := h
   cases p1 with
   | nil => cases h2
   | cons x q => exact h2
 unfold qcl
 split
 ·rename_i hlt;rw [← List.take_append_drop ((ms.length + 1) / 2) ms] at h;obtain ⟨p1, p2, g1, g2, rfl, rfl, t1, t2⟩ := qis _ _ _ _ h;have f1 : Fine p1 := qdQ (a := []) (c := p2) (by simpa using hf);have f2 : Fine p2 := qdQ (a := p1) (c := []) (by simpa using hf);obtain ⟨a1, a2⟩ := node _ _ _ t1 f1 zbG zbG;obtain ⟨b1, b2⟩ := node _ _ _ t2 f2 zbH zbH;exact ⟨p1, p2, g1, g2, rfl, rfl, a1, a2, p2, [], g2, [], zbW, zbW, b1, b2, rfl, rfl⟩
 ·split
  ·rename_i h0;rw [List.eq_nil_of_length_eq_zero h0] at h;exact h
  ·rename_i h4 h0;obtain ⟨a1, a2⟩ := node ms ps pg h hf zbV zbV;exact ⟨ps, [], pg, [], zbW, zbW, a1, a2, rfl, rfl⟩
theorem qfJ {ls : List ByteArray} (key : ByteArray) (h : 0 < ls.length) : qcm ls key < ls.length := by
 unfold qcm;have := List.findIdx_le_length (xs := ls.drop 1) (p := fun m => Op.bytesLess key.toList m.toList);rw [List.length_drop] at this;omega
theorem qiQ {ls : List ByteArray} {key : ByteArray} (h : qcm ls key ≠ 0) (hl : qcm ls key < ls.length) : Op.bytesLess key.toList (ls[qcm ls key]).toList = false := by
 have := List.not_of_lt_findIdx (xs := ls.drop 1) (p := fun m => Op.bytesLess key.toList m.toList) (i := qcm ls key - 1) (by unfold qcm at h ⊢; omega);rw [List.getElem_drop] at this;simp only [show 1 + (qcm ls key - 1) = qcm ls key from zbV] at this
 simpa using this
theorem qfK {ls : List ByteArray} {key : ByteArray} (h : qcm ls key + 1 < ls.length) : Op.bytesLess key.toList (ls[qcm ls key + 1]).toList = true := by
 have := List.findIdx_getElem (xs := ls.drop 1) (p := fun m => Op.bytesLess key.toList m.toList) (w := by rw [List.length_drop]; unfold qcm at h; omega);rw [List.getElem_drop] at this;have e : 1 + (ls.drop 1).findIdx (fun m => Op.bytesLess key.toList m.toList) = qcm ls key + 1 := by unfold qcm; omega
 simp only [e] at this;exact this
theorem qdF (dop : List S77 → List S77) (key : ByteArray) : ∀ (n k : Nat) (b : List S75 × List Bool × Bool), BG b (qbx dop key n k b).2 := by
 intro n
 induction n with
 | zero => intro k b; exact BG.refl b
 | succ n ih =>
  intro k b;unfold qbx
  split
  ·exact qdb _ _ _
  ·exact (ih _ b).trans (qdb _ _ _)
theorem PD_head {T : Nat → List S77 → List Nat → Prop} {m : ByteArray × Nat} {r : List (ByteArray × Nat)} {ps : List S77} {pg : List Nat} (h : PD T (m :: r) ps pg) : qcZ ps = some m.1 := by
 obtain ⟨p1, p2, g1, g2, rfl, rfl, _, h2, _⟩ := h
 cases p1 with
 | nil => cases h2
 | cons x q => exact h2
theorem qgj {dop : List S77 → List S77} {key : ByteArray} (hop : LocalOp dop key) : ∀ (n k : Nat) (b : List S75 × List Bool × Bool) (ps : List S77) (pg : List Nat), b.1.length = 50 → b.2.1.length = 50 → TrD b.1 n k ps pg → pg.Nodup → (∀ i, i ∈ pg → qbj b.2.1 i) → Fine ps → (qbx dop key n k b).2.2.2 = false →
  ((qbx dop key n k b).1.length ≤ 2 ∧ ((∀ l, (dop l).length ≤ l.length) → (qbx dop key n k b).1.length ≤ 1)) ∧ ∃ pg', PD (TrD (qbx dop key n k b).2.1 n) (qbx dop key n k b).1 (dop ps) pg' ∧ pg'.Nodup ∧ (∀ i, i ∈ pg' → qbj (qbx dop key n k b).2.2.1 i) ∧ (∀ i, i ∈ pg' → i ∈ pg ∨ ¬ qbj b.2.1 i) := by
 intro n
 induction n with
 | zero => intro k b ps pg _ _ h; exact h.elim
 | succ n ih =>
  intro k b ps pg hl1 hl2 h hn hu hf hful;obtain ⟨x, hx, hb, hfr, h⟩ := h;have hget : b.1.getD k z75 = x := by rw [List.getD_eq_getElem?_getD, hx]; rfl
  unfold qbx at hful ⊢;rw [hget] at hful ⊢
  rcases h with ⟨hlf, rfl, rfl⟩ | ⟨hlf, pg', rfl, hp⟩
  ·rw [if_pos hlf] at hful ⊢;obtain ⟨_, _, _, h3, _⟩ := qc0 hb hfr hlf;have hlen := hop.len x.f1;have hfd := hop.fine x.f1 hf;unfold qb6 at hful ⊢;obtain ⟨pg', t, nd, us, or⟩ := qd5 leafF n (qcl 3 (dop x.f1)) b (dop x.f1) [] zbV (qdR hfd zbV b n) List.nodup_nil (fun i hi => by cases hi) hful;refine ⟨⟨by rw [qcr]; exact (qcs 3 _).1, fun hs => by rw [qcr]; exact (qcs 3 _).2 (by have := hs x.f1; omega)⟩, pg', t, nd, us, fun i hi => ?_⟩
   rcases or i hi with h | h
   ·cases h
   ·exact .inr h
  ·rw [if_neg (by rw [hlf]; decide)] at hful ⊢;obtain ⟨e3, e2, elen, _⟩ := qcB hb hfr hlf;obtain ⟨_, k1, k4, klen, _⟩ := qcz hb hfr hlf;have hat := qfJ (ls := x.f2) key zbV;have fO : qcm x.f2 key < (partsOf x).length := zbV;have hlow := fun h => qiQ (ls := x.f2) (key := key) h hat
   have hhigh := fun h => qfK (ls := x.f2) (key := key) h
   have hkey : ∀ (j : Nat) (h1 : j < x.f2.length) (h2 : j < (partsOf x).length), x.f2[j] = (partsOf x)[j].1 := fun j h1 h2 => by
    have : x.f2[j]? = ((partsOf x).map (·.1))[j]? := by rw [← e2]
    rw [List.getElem?_map, List.getElem?_eq_getElem h1, List.getElem?_eq_getElem h2] at this;exact Option.some.inj this
   generalize qcm x.f2 key = at_ at *;have hgd : (partsOf x).getD at_ (ByteArray.empty, 0) = (partsOf x)[at_] := by rw [List.getD_eq_getElem?_getD, List.getElem?_eq_getElem fO]; rfl
   rw [hgd] at hful ⊢;have hsp : partsOf x = (partsOf x).take at_ ++ ((partsOf x)[at_] :: (partsOf x).drop (at_ + 1)) := by
    rw [← List.drop_eq_getElem_cons fO, List.take_append_drop]
   rw [hsp] at hp;obtain ⟨pA, pR, gA, gR, rfl, rfl, tA, tR⟩ := qis _ _ _ _ hp;obtain ⟨pB, pC, gB, gC, rfl, rfl, tB, hB, tC⟩ := tR;have hn1 := List.nodup_cons.1 hn;have hnA := List.nodup_append.1 hn1.2;have hnB := List.nodup_append.1 hnA.2.1;have uA : ∀ i, i ∈ gA → qbj b.2.1 i := fun i hi => hu i (List.mem_cons_of_mem _ (List.mem_append_left _ hi))
   have uB : ∀ i, i ∈ gB → qbj b.2.1 i := fun i hi => hu i (List.mem_cons_of_mem _ (List.mem_append_right _ (List.mem_append_left _ hi)))
   have uC : ∀ i, i ∈ gC → qbj b.2.1 i := fun i hi => hu i (List.mem_cons_of_mem _ (List.mem_append_right _ (List.mem_append_right _ hi)))
   have hf' : Fine (pA ++ pB ++ pC) := by rw [List.append_assoc]; exact hf
   have hbg := qdF dop key n (partsOf x)[at_].2 b;have Ma := (qdb qaN (qcl 4 ((partsOf x).take at_ ++ (qbx dop key n (partsOf x)[at_].2 b).1 ++ (partsOf x).drop (at_ + 1))) (qbx dop key n (partsOf x)[at_].2 b).2).qeZ hful;obtain ⟨⟨l2, l1⟩, gM, tM, nM, uM, oM⟩ := ih (partsOf x)[at_].2 b pB gB hl1 hl2 tB hnB.1 uB (qdQ hf') Ma;have hBne : pB ≠ [] := fun e => by rw [e] at hB; cases hB
   have hdo : dop (pA ++ (pB ++ pC)) = pA ++ dop pB ++ pC := by
    rw [← List.append_assoc];refine hop.split pA pB pC hf'.2 hBne (fun m hA hm => ?_) (fun m hm => ?_)
    ·have hm2 : m = (partsOf x)[at_].1 := Option.some.inj (hm.symm.trans hB);have h0 : at_ ≠ 0 := fun e => by
      rw [e, List.take_zero] at tA;exact hA tA.1
     rw [hm2, ← hkey at_ hat fO];exact hlow h0
    ·cases hd : (partsOf x).drop (at_ + 1) with
     | nil => rw [hd] at tC; rw [tC.1] at hm; cases hm
     | cons y r =>
      rw [hd] at tC;have hlt : at_ + 1 < (partsOf x).length := by
       have := congrArg List.length hd;rw [List.length_drop, List.length_cons] at this;omega
      have hy : y = (partsOf x)[at_ + 1] := by
       have := List.drop_eq_getElem_cons hlt;rw [hd] at this;injection this with h1 _
      have hm2 : m = y.1 := Option.some.inj (hm.symm.trans (PD_head tC));rw [hm2, hy, ← hkey (at_ + 1) zbV hlt];exact hhigh zbV
   have hfd : Fine (pA ++ dop pB ++ pC) := by rw [← hdo]; exact hop.fine _ hf
   generalize hbq : qbx dop key n (partsOf x)[at_].2 b = q at *;have up : ∀ (ms : List (ByteArray × Nat)) (p : List S77) (g : List Nat), PD (TrD b.1 n) ms p g → (∀ i, i ∈ g → qbj b.2.1 i) → PD (TrD q.2.1 n) ms p g := fun ms p g t u => qgE _ _ _ (fun k p g' hg ht => qdD _ _ _ _ (fun i hi => (hbg.stay i (u i (hg i hi))).2) ht) t
   have hdis : ∀ i, i ∈ gM → i ∈ gB ∨ ¬ qbj b.2.1 i := oM
   have ndall : (gA ++ gM ++ gC).Nodup := by
    refine List.nodup_append.2 ⟨List.nodup_append.2 ⟨hnA.1, nM, fun a ha c hc e => ?_⟩, hnB.2.1, fun a ha c hc e => ?_⟩
    ·subst e
     rcases hdis a hc with h | h
     ·exact hnA.2.2 a ha a (List.mem_append_left _ h) rfl
     ·exact h (uA a ha)
    ·subst e
     rcases List.mem_append.1 ha with ha | ha
     ·exact hnA.2.2 a ha a (List.mem_append_right _ hc) rfl
     ·rcases hdis a ha with h | h
      ·exact hnB.2.2 a h a hc rfl
      ·exact h (uC a hc)
   have usall : ∀ i, i ∈ gA ++ gM ++ gC → qbj q.2.2.1 i := fun i hi => by
    rcases List.mem_append.1 hi with hi | hi
    ·rcases List.mem_append.1 hi with hi | hi
     ·exact (hbg.stay i (uA i hi)).1
     ·exact uM i hi
    ·exact (hbg.stay i (uC i hi)).1
   have hPD := qhq _ _ _ _ _ _ (qhq _ _ _ _ _ _ (up _ _ _ tA uA) tM) (up _ _ _ tC uC);have hmlen : ((partsOf x).take at_ ++ q.1 ++ (partsOf x).drop (at_ + 1)).length + 1 = (partsOf x).length + q.1.length := by
    rw [List.length_append, List.length_append, List.length_take, List.length_drop];omega
   unfold qcp at hful ⊢;obtain ⟨pg', t, nd, us, or⟩ := qd5 qaN n (qcl 4 ((partsOf x).take at_ ++ q.1 ++ (partsOf x).drop (at_ + 1))) q.2 (pA ++ dop pB ++ pC) (gA ++ gM ++ gC) (by rw [hbg.len, hbg.lenu]; omega) (qeJ hPD hfd (by rw [hbg.len]; exact hl1) zbV) ndall usall hful;refine ⟨⟨by rw [qcr]; exact (qcs 4 _).1, fun hs => by rw [qcr]; exact (qcs 4 _).2 (by have := l1 hs; omega)⟩, pg', by rw [hdo]; exact t, nd, us, fun i hi => ?_⟩
   rcases or i hi with h | h
   ·rcases List.mem_append.1 h with h | h
    ·rcases List.mem_append.1 h with h | h
     ·exact .inl (List.mem_cons_of_mem _ (List.mem_append_left _ h))
     ·rcases hdis i h with h | h
      ·exact .inl (List.mem_cons_of_mem _ (List.mem_append_right _ (List.mem_append_left _ h)))
      ·exact .inr h
    ·exact .inl (List.mem_cons_of_mem _ (List.mem_append_right _ (List.mem_append_right _ h)))
   ·exact .inr fun hh => h (hbg.stay i hh).1
theorem qf7 {a b c : List UInt8} (h : Op.bytesLess a b = true) (k : Op.bytesLess c b = false) : Op.bytesLess a c = true := by
 cases e : Op.bytesLess a c with
 | true => rfl
 | false =>
  cases f : Op.bytesLess c a with
  | true => rw [qcH f h] at k; cases k
  | false => rw [qfB e f, k] at h; cases h
theorem qgk {A B C : List S77} {key : ByteArray} (hr : Rises (A ++ B ++ C)) (hB : B ≠ []) (h1 : ∀ m, A ≠ [] → qcZ B = some m → Op.bytesLess key.toList m.toList = false) (h2 : ∀ m, qcZ C = some m → Op.bytesLess key.toList m.toList = true) : (∀ p, p ∈ A → Op.bytesLess p.f0.toList key.toList = true) ∧ (∀ p, p ∈ C → Op.bytesLess key.toList p.f0.toList = true) := by
 have hr1 := List.pairwise_append.1 hr;have hr2 := List.pairwise_append.1 hr1.1
 constructor
 ·intro p hp
  cases B with
  | nil => exact absurd rfl hB
  | cons b B' =>
   have := h1 b.f0 (fun e => by rw [e] at hp; cases hp) rfl;exact qf7 (hr2.2.2 p hp b List.mem_cons_self) this
 ·intro p hp
  cases C with
  | nil => cases hp
  | cons c C' =>
   have := h2 c.f0 rfl
   rcases List.mem_cons.1 hp with rfl | hp
   ·exact this
   ·exact qcH this ((List.pairwise_cons.1 hr1.2.1).1 p hp)
theorem qhv {A B C : List S77} {key : ByteArray} (hA : ∀ p, p ∈ A → Op.bytesLess p.f0.toList key.toList = true) (hC : ∀ p, p ∈ C → Op.bytesLess key.toList p.f0.toList = true) : lowAt (A ++ B ++ C) key = A.length + lowAt B key := by
 have hle := qeH B key;refine lowAt_is zaM (fun j hj hlt => ?_) (fun hj => ?_)
 ·by_cases h : j < A.length
  ·rw [List.getElem_append_left zbD, List.getElem_append_left h];exact hA _ (List.getElem_mem _)
  ·rw [List.getElem_append_left zbD, List.getElem_append_right zbV];exact qhp zbV zbV
 ·by_cases h : lowAt B key < B.length
  ·rw [List.getElem_append_left zbD, List.getElem_append_right zbV];have := List.findIdx_getElem (xs := B) (p := fun p : S77 => !Op.bytesLess p.f0.toList key.toList) (w := h);simp only [Nat.add_sub_cancel_left];have h9 : Op.bytesLess (B[lowAt B key]'h).f0.toList key.toList = false := by
    have h8 : (!Op.bytesLess (B[lowAt B key]'h).f0.toList key.toList) = true := this
    simpa using h8
   exact h9
  ·rw [List.getElem_append_right zbD];exact qhT (hC _ (List.getElem_mem _))
theorem qjK {A B C : List S77} {key : ByteArray} (hA : ∀ p, p ∈ A → Op.bytesLess p.f0.toList key.toList = true) (hC : ∀ p, p ∈ C → Op.bytesLess key.toList p.f0.toList = true) : hasAt (A ++ B ++ C) key = hasAt B key := by
 have hle := qeH B key;unfold hasAt;rw [qhv hA hC]
 by_cases h : lowAt B key < B.length
 ·rw [decide_eq_true (show A.length + lowAt B key < (A ++ B ++ C).length from zaM), decide_eq_true h, qho _ _ (show A.length + lowAt B key < (A ++ B ++ C).length from zaM), qho _ _ h];rw [List.getElem_append_left zbD, List.getElem_append_right zbV];simp only [Nat.add_sub_cancel_left]
 ·rw [decide_eq_false h, Bool.false_and]
  by_cases h2 : A.length + lowAt B key < (A ++ B ++ C).length
  ·rw [decide_eq_true h2, Bool.true_and, qho _ _ h2, List.getElem_append_right zbD];refine decide_eq_false fun e => ?_
   have hx := hC _ (List.getElem_mem (l := C) (n := A.length + lowAt B key - (A ++ B).length) (by rw [List.length_append] at h2 ⊢; rw [List.length_append] at h2; omega));rw [e, qdu] at hx
   cases hx
  ·rw [decide_eq_false h2];rfl
theorem qjL (key v : ByteArray) (hk : keyB key = true) (hv : v.size ≤ 90) : LocalOp (fun l => putP l key v) key := by
 refine ⟨fun A B C hr hB h1 h2 => ?_, fun l hl => qir hl hk hv, fun l => by rw [qdP]; split <;> omega⟩;obtain ⟨hA, hC⟩ := qgk hr hB h1 h2;have hle := qeH B key;unfold putP;rw [qjK hA hC, qhv hA hC]
 split
 ·rename_i h;have hlt := qfl h;rw [List.append_assoc, List.set_append_right _ _ zbV, Nat.add_sub_cancel_left, List.set_append_left _ _ hlt, List.append_assoc]
 ·rw [List.append_assoc A B C, List.take_append, List.drop_append, List.take_of_length_le zbV, List.drop_eq_nil_of_le (show A.length ≤ A.length + lowAt B key from zbV), Nat.add_sub_cancel_left, List.take_append_of_le_length hle, List.drop_append_of_le_length hle];simp [List.append_assoc]
def dropF (l : List S77) (key : ByteArray) : List S77 := l.filter fun p => !decide (p.f0.toList = key.toList)
theorem qiR (key : ByteArray) : LocalOp (fun l => dropF l key) key := by
 refine ⟨fun A B C hr hB h1 h2 => ?_, fun l hl => ⟨fun p hp => hl.1 p (List.mem_filter.1 hp).1, hl.2.sublist List.filter_sublist⟩, fun l => by have := List.length_filter_le (fun p : S77 => !decide (p.f0.toList = key.toList)) l; unfold dropF; omega⟩;obtain ⟨hA, hC⟩ := qgk hr hB h1 h2;unfold dropF;rw [List.filter_append, List.filter_append];have eA : A.filter (fun p => !decide (p.f0.toList = key.toList)) = A := List.filter_eq_self.2 fun p hp => by
  have := hA p hp;simp;intro e;rw [e, qdu] at this
  cases this
 have eC : C.filter (fun p => !decide (p.f0.toList = key.toList)) = C := List.filter_eq_self.2 fun p hp => by
  have := hC p hp;simp;intro e;rw [e, qdu] at this
  cases this
 rw [eA, eC]
theorem qjM (key : ByteArray) : ∀ l : List S77, (dropF l key).length ≤ l.length := fun l => List.length_filter_le _ _
def qcW (ns : List S75) (d : Nat) (r : Int) (ps : List S77) (pg : List Nat) : Prop := (r = -1 ∧ ps = [] ∧ pg = []) ∨ ∃ k : Nat, r = (k : Int) ∧ TrD ns d k ps pg ∧ pg.Nodup
theorem qd6 (i : Nat) : noneW.getD i false = false := by
 unfold noneW;rw [List.getD_eq_getElem?_getD, List.getElem?_replicate]
 split <;> rfl
theorem qej {ns : List S75} {d : Nat} {r : Int} {ps : List S77} {pg : List Nat} (hl : ns.length = 50) (hd : d ≤ 21) (h : qcW ns d r ps pg) (hf : Fine ps) (hp : ps.length ≤ 60) : walkR ns r = (ps, markL noneW pg, true) := by
 have hlk : lookW ns r = (true, markL noneW pg, ps) := by
  unfold lookW;rw [if_pos hl]
  rcases h with ⟨rfl, rfl, rfl⟩ | ⟨k, rfl, ht, hn⟩
  ·rw [if_pos rfl]; rfl
  ·rw [if_neg zbV];have := walk_of 21 k ps pg (qiu hd ht) hn noneW [] (by unfold noneW; rw [List.length_replicate]; exact hl.symm) (fun i _ => qd6 i);rw [List.nil_append] at this;exact this
 have hok : (walkR ns r).2.2 = true := by
  rw [qdd, hlk];simp only [Bool.true_and];exact qd2.2 ⟨hp, hf.1, hf.2⟩
 unfold walkR at hok ⊢;rw [hlk] at hok ⊢;simp only at hok ⊢;rw [hok]
theorem qix {ns : List S75} {r : Int} (h : (walkR ns r).2.2 = true) : ns.length = 50 ∧ Fine (walkR ns r).1 ∧ (walkR ns r).1.length ≤ 60 ∧ ∃ pg, qcW ns 21 r (walkR ns r).1 pg ∧ (walkR ns r).2.1 = markL noneW pg := by
 have hp := qd2.1 (qhY h);have hl : ns.length = 50 := by
  by_cases e : ns.length = 50
  ·exact e
  ·rw [qew e] at h; cases h
 refine ⟨hl, ⟨hp.2.1, hp.2.2⟩, hp.1, ?_⟩;rw [qdd, Bool.and_eq_true] at h;have h1 := h.1;unfold walkR;unfold lookW at h1 ⊢;rw [if_pos hl] at h1 ⊢
 by_cases e : r = -1
 ·rw [if_pos e] at h1 ⊢;exact ⟨[], .inl ⟨e, rfl, rfl⟩, rfl⟩
 ·rw [if_neg e] at h1 ⊢;obtain ⟨h0, ps, pg, ht, hn, _, he⟩ := of_walk 21 r noneW [] (by unfold noneW; rw [List.length_replicate]; exact hl.symm) h1;rw [he, List.nil_append];exact ⟨pg, .inr ⟨r.toNat, zbV, ht, hn⟩, rfl⟩
theorem qfb {ns ns' : List S75} {d : Nat} {r : Int} {ps : List S77} {pg : List Nat} (h : qcW ns d r ps pg) (hs : ∀ i, i ∈ pg → ns'[i]? = ns[i]?) : qcW ns' d r ps pg := by
 rcases h with h | ⟨k, e, ht, hn⟩
 ·exact .inl h
 ·exact .inr ⟨k, e, qdD _ _ _ _ hs ht, hn⟩
def qcF (ns : List S75) : Nat → Nat → Nat
 | 0, k => k
 | n + 1, k => if (ns.getD k z75).f0 = false ∧ (ns.getD k z75).f3.length = 1 then qcF ns n (rd (ns.getD k z75).f3 0).toNat else k
theorem qh3 {ns : List S75} : ∀ (n d k : Nat) (ps : List S77) (pg : List Nat), TrD ns d k ps pg → pg.Nodup → ∃ pg', TrD ns d (qcF ns n k) ps pg' ∧ pg'.Nodup ∧ (∀ i, i ∈ pg' → i ∈ pg) := by
 intro n
 induction n with
 | zero => intro d k ps pg h hn; exact ⟨pg, h, hn, fun i hi => hi⟩
 | succ n ih =>
  intro d k ps pg h hn;unfold qcF
  split
  ·rename_i hc
   cases d with
   | zero => exact h.elim
   | succ d =>
    obtain ⟨x, hx, hb, hf, h⟩ := h;have hget : ns.getD k z75 = x := by rw [List.getD_eq_getElem?_getD, hx]; rfl
    rw [hget] at hc ⊢
    rcases h with ⟨hl, _⟩ | ⟨hl, pg', rfl, hp⟩
    ·rw [hl] at hc; exact absurd hc.1 zbT
    ·obtain ⟨e3, e2, elen, _⟩ := qcB hb hf hl;obtain ⟨m, hm⟩ : ∃ m, partsOf x = [m] := by
      have h1 : (partsOf x).length = 1 := by rw [elen]; exact hc.2
      match hq : partsOf x, h1 with
      | [m], _ => exact ⟨m, rfl⟩
     rw [hm] at hp e3;rw [e3];have hk : (rd ([m].map (fun p : ByteArray × Nat => (p.2 : Int))) 0).toNat = m.2 := by
      show ((m.2 : Nat) : Int).toNat = m.2
      exact Int.toNat_natCast _
     rw [hk];obtain ⟨t, _⟩ := PD_one.1 hp;obtain ⟨g, t2, n2, s2⟩ := ih (d + 1) m.2 ps pg' (qit _ _ _ _ t) (List.nodup_cons.1 hn).2;exact ⟨g, t2, n2, fun i hi => List.mem_cons_of_mem _ (s2 i hi)⟩
  ·exact ⟨pg, h, hn, fun i hi => hi⟩
def topsB (p : List (ByteArray × Nat) × List S75 × List Bool × Bool) : List (ByteArray × Nat) × List S75 × List Bool × Bool := if 1 < p.1.length then qcp p.1 p.2 else p
def rootOf (q : List (ByteArray × Nat) × List S75 × List Bool × Bool) : Int := match q.1 with
 | [] => -1
 | m :: _ => (qcF q.2.1 22 m.2 : Int)
def onlyN (ns : List S75) (keep : List Bool) : List S75 := (List.range 50).map fun i => if keep.getD i false = true then ns.getD i z75 else z75
theorem qdG {ns : List S75} {keep : List Bool} {i : Nat} (hl : ns.length = 50) (h : qbj keep i) (hk : keep.length = 50) : (onlyN ns keep)[i]? = ns[i]? := by
 have hi : i < 50 := by
  rcases Nat.lt_or_ge i 50 with h1 | h1
  ·exact h1
  ·unfold qbj at h;rw [List.getD_eq_getElem?_getD, List.getElem?_eq_none zbV] at h
   cases h
 unfold onlyN;unfold qbj at h;rw [List.getElem?_map, List.getElem?_range hi, Option.map_some, if_pos h, List.getD_eq_getElem?_getD, List.getElem?_eq_getElem zbV];rfl
theorem qcT (ns : List S75) (keep : List Bool) : (onlyN ns keep).length = 50 := by unfold onlyN; simp
def qbX (h : List S75) (root : Int) (keep : List Bool) (dop : List S77 → List S77) (key : ByteArray) (one : List S77) : List (ByteArray × Nat) × List S75 × List Bool × Bool := topsB (if root = -1 then qb6 one (onlyN h keep, keep, false) else qbx dop key 21 root.toNat (onlyN h keep, keep, false))
def qbC (h : List S75) (root : Int) (keep : List Bool) (dop : List S77 → List S77) (key : ByteArray) (one : List S77) : List S75 × Int × Bool :=
 if (qbX h root keep dop key one).2.2.2 = true then (h, root, false)
 else (onlyN (qbX h root keep dop key one).2.1 (orW keep (walkR (qbX h root keep dop key one).2.1 (rootOf (qbX h root keep dop key one))).2.1), rootOf (qbX h root keep dop key one), true)
def dopB (drop : Bool) (key value : ByteArray) (l : List S77) : List S77 := if drop = true then dropF l key else putP l key value
def qd7.T15 : Bool × List (List Nat × List Nat) := (true, [([], []), ([], []), ([1], [1]), ([], []), ([2, 3], [2, 3]), ([4], [4]), ([], []), ([6], [6]), ([], []), ([7, 8], [7, 8]), ([9], [9]), ([5, 10], [5, 10]), ([11], [11]), ([0, 12], [0, 12]), ([13, 13, 0, 1, 2, 3, 4, 5, 6, 7, 8, 9, 10, 11, 12, 13], [0, 13])])
def qd7.B15 : List Nat := [0, 0, 2, 0, 14, 30, 0, 64, 0, 448, 960, 2046, 4094, 8191, 16383]
theorem qd7.tab15 : rtab .any (opsOf Try.f68 15) = qd7.T15 := zbS
theorem qd7.bits15 : qbv qd7.T15.2 qd7.B15 = true := zbS
theorem qhw (ls : List ByteArray) (i : Nat) (h : i + 1 < ls.length) : rdOf ByteArray.empty ls ((i : Int) + 1) = ls[i + 1] := by
 unfold rdOf;rw [show ((i : Int) + 1).toNat = i + 1 from zbV];simp [List.getD_eq_getElem?_getD, h]
theorem qgH {ls : List ByteArray} {key : ByteArray} {i : Nat} (h : i < qcm ls key) (hl : i + 1 < ls.length) : Op.bytesLess key.toList (rdOf ByteArray.empty ls ((i : Int) + 1)).toList = false := by
 rw [qhw ls i hl];have := List.not_of_lt_findIdx (xs := ls.drop 1) (p := fun m => Op.bytesLess key.toList m.toList) (i := i) (by unfold qcm at h; exact h);rw [List.getElem_drop] at this;simp only [show 1 + i = i + 1 from zbV] at this
 simpa using this
set_option linter.unusedVariables false
set_option maxHeartbeats 16000000 in
set_option maxRecDepth 100000 in
theorem schange (key value : ByteArray) (drop : Bool) : ∀ (n : Nat) (w0 w : World) (g gn cn gu cu : Nat) (bq : List S75 × List Bool × Bool) (k : Nat) (ps : List S77) (pg : List Nat), Below w0.heap.size w0 w → BsAt w0 w g gn cn gu cu bq → (bq.1.length = 50 ∧ bq.2.1.length = 50) → TrD bq.1 n k ps pg →
  Calls Try.prog 68 #[.pointer (some ⟨g, 0, none⟩), .int .i64 (k : Int), .string key, .string value, .bool drop] w fun e w' => ∃ v, e = .returned v ∧ Kd.R k118 118 w' w.heap.size (fun _ => True) v (partL (qbx (dopB drop key value) key n k bq).1) ∧ BsAt w0 w' g gn cn gu cu (qbx (dopB drop key value) key n k bq).2 ∧ Below w0.heap.size w0 w' ∧ Kept w w' (S3 g gn gu) := by
 have hu := Try.underlying75;have hu2 := Try.underlying111;have hu3 := Try.underlying25;have hu4 := Try.underlying118;intro n
 induction n with
 | zero => intro w0 w g gn cn gu cu bq k ps pg _ _ _ ht; exact ht.elim
 | succ n ih =>
  intro w0 w g gn cn gu cu bq k ps pg hB hb hl ht;obtain ⟨x, hx, hnb, hfb, hcase⟩ := ht;have hk : k < bq.1.length := by
   rcases Nat.lt_or_ge k bq.1.length with h2 | h2
   ·exact h2
   ·rw [List.getElem?_eq_none h2] at hx; cases hx
  have hgd : bq.1.getD k z75 = x := by rw [List.getD_eq_getElem?_getD, hx]; rfl
  obtain ⟨A1, oW, A2, vQ, A3, sQ, hcl, hr1, hr2, hr3⟩ := hb.node hx;obtain ⟨d0, d1, d2, d3⟩ := hcl;have dg := qac hb.blk 0;simp only [List.getElem?_toArray, List.getElem?_cons_zero] at dg;have p1 : (0 : Int) ≤ (k : Int) := zbV;have q1 : (k : Int) < (bq.1.length : Int) := zbV;obtain ⟨gb, hgb⟩ : ∃ gb, gb = w.heap.size := ⟨_, rfl⟩
  obtain ⟨W2, hW2⟩ : ∃ W2, W2 = w.alloc (Obj.cells #[.bool x.f0, .slice A1 x.f1.length oW, .slice A2 x.f2.length vQ, .slice A3 x.f3.length sQ] 75 (0, 0)) := ⟨_, rfl⟩
  have hX2 : W2.heap[gb]? = some (.cells #[.bool x.f0, .slice A1 x.f1.length oW, .slice A2 x.f2.length vQ, .slice A3 x.f3.length sQ] 75 (0, 0)) := by rw [hW2, hgb]; exact qcb w _
  have hY2 : Below w.heap.size w W2 := zbr;have HSS := z_ (show ∀ k, S3 g gn gu k → k < w.heap.size from fun k hk => by have := hb.lts; rcases hk with rfl | rfl | rfl <;> omega);have HBX := z_ (show BoxN w W2 g gn gu gb x A1 oW A2 vQ A3 sQ from ⟨hgb, qbH hX2, hX2, Kd.qbT hr1.2 hY2, Kd.qbT hr2.2 hY2, Kd.qbT hr3.2 hY2, hr1.1, hr2.1, hr3.1⟩);have HBS := z_ (hb.below hY2);have HBW := z_ (qad hB hY2);have HKW := z_ (Kept.of_below hY2 (S3 g gn gu));have HYW := z_ hY2;have HW0 := z_ hB.size;have HLN := z_ hl;have HIH := z_ ih;have HGD := z_ hgd;have HX := z_ hx;have HNB := z_ (And.intro hnb hfb);have HC := z_ hcase;clear hB hb hl ih hgd hx hnb hfb hcase hk hr1 hr2 hr3 hY2 hX2
  go_enter Try.func68, Try.ntmps68
  go_upto_region 2 with fail
  rw [← hW2, ← hgb];clear hW2 d0 d1 d2 d3 dg p1 q1;have HGB := z_ hgb;clear hgb;obtain ⟨b0, b1, b2, b3⟩ := qbz HBX.o.blk
  by_cases hf : x.f0 = true
  ·have HPS := z_ (show qbx (dopB drop key value) key (n + 1) k bq = qb6 (dopB drop key value x.f1) bq from by unfold qbx; rw [HGD.o, if_pos hf]);have Dd := z_ (qc0 HNB.o.1 HNB.o.2 hf)
   cases drop with
   | true =>
    obtain ⟨K, hK⟩ := qjC x.f1 key (by have := Dd.o; omega);have HH := z_ (hK K (Nat.le_refl K));clear hK
    go_wp2_with fail
    refine (qba.calls (hr0 := Kd.qdc HBX.o.r1) (hc0 := HBX.o.l1) (h := HH.o)).mono ?_;rintro e w1 ⟨v, rfl, hv, hb1⟩;obtain ⟨A4, c4, rfl, hl4, _⟩ := Kd.qbI hv;have kM := z_ (HBS.o.below hb1);have Zg := z_ (show Kd.F k77 w1 (fun k => ¬ S3 g gn gu k) A4 (x.f1.filter fun p => !decide (p.f0.toList = key.toList)).length (x.f1.filter fun p => !decide (p.f0.toList = key.toList)) from Kd.qdi (qht hv) (fun k hk e => by have := HSS.o k e; have := HKW.o.1; omega));have HB1 := z_ (qad HBW.o hb1);have q7 := z_ (HKW.o.below hb1);have HZ1 := z_ hl4;clear hv hb1 hl4
    go_wp2_with fail
    refine (qb3 w0 w1 g gn cn gu cu bq HB1.o kM.o HLN.o (fun k => ¬ S3 g gn gu k) (fun _ h => h) A4 c4 _ Zg.o HZ1.o (by have := List.length_filter_le (fun p : S77 => !decide (p.f0.toList = key.toList)) x.f1; have := Dd.o; omega)).mono ?_;rintro e w2 ⟨v, rfl, hv, hb2, hw2, hk2⟩;have hk3 := q7.o.qg3 hk2 (fun _ h => .inl h);have hs1 := q7.o.1
    go_wp2_with fail
    go_ret
    rw [HPS.o];exact ⟨_, rfl, Kd.qa9 hv hs1, hb2, hw2, hk3⟩
   | false =>
    obtain ⟨K, hK⟩ := spec_put x.f1 key value (by have := Dd.o; omega);have HH := z_ (hK K (Nat.le_refl K));clear hK
    go_wp2_with fail
    refine (qdn.calls (hr0 := Kd.qdc HBX.o.r1) (hc0 := HBX.o.l1) (h := HH.o)).mono ?_;rintro e w1 ⟨v, rfl, hv, hb1⟩;obtain ⟨A4, c4, rfl, hl4, _⟩ := Kd.qbI hv;have kM := z_ (HBS.o.below hb1);have Zg := z_ (show Kd.F k77 w1 (fun k => ¬ S3 g gn gu k) A4 (putP x.f1 key value).length (putP x.f1 key value) from Kd.qdi (qht hv) (fun k hk e => by have := HSS.o k e; have := HKW.o.1; omega));have HB1 := z_ (qad HBW.o hb1);have q7 := z_ (HKW.o.below hb1);have HZ1 := z_ hl4;clear hv hb1 hl4
    go_wp2_with fail
    refine (qb3 w0 w1 g gn cn gu cu bq HB1.o kM.o HLN.o (fun k => ¬ S3 g gn gu k) (fun _ h => h) A4 c4 _ Zg.o HZ1.o (by have h_ := qdP x.f1 key value; have := Dd.o; split at h_ <;> omega)).mono ?_;rintro e w2 ⟨v, rfl, hv, hb2, hw2, hk2⟩;have hk3 := q7.o.qg3 hk2 (fun _ h => .inl h);have hs1 := q7.o.1
    go_wp2_with fail
    go_ret
    rw [HPS.o];exact ⟨_, rfl, Kd.qa9 hv hs1, hb2, hw2, hk3⟩
  ·have hf0 : x.f0 = false := by simpa using hf
   have HL2 := z_ (qcz HNB.o.1 HNB.o.2 hf0);have HPN := z_ (qcB HNB.o.1 HNB.o.2 hf0);obtain ⟨m, hm⟩ : ∃ m, m = qcm x.f2 key := ⟨_, rfl⟩
   have hml : m < x.f2.length := by rw [hm]; exact qfJ key zbM
   have HM := z_ (And.intro hm hml);have SO := z_ hf0;have c0b : x.f0 = false := hf0;clear hf hm hml hf0
   go_upto_block 0 with fail
   go_cut [12] (fun v12 wc => v12 = .int .i64 (m : Int) ∧ Aside0 (Below W2.heap.size W2 wc))
   case first =>
    go_wp2_with fail
    go_loopw [12] (fun v12 wr => ∃ i : Nat, v12 = .int .i64 (i : Int) ∧ i ≤ m ∧ Aside0 (Below W2.heap.size W2 wr)) (fun v12 _ => x.f3.length - (intOf v12).toNat)
    case atStart => exact ⟨0, rfl, Nat.zero_le _, ⟨Below.refl _ _⟩⟩
    case round =>
     obtain ⟨i, rfl, hi, HO⟩ := hrel;have Ha := z_ (HBX.o.below HSS.o HO.o);obtain ⟨r0, r1, r2, r3⟩ := qbz Ha.o.blk;have w2 : IntKind.i64.wrap ((i : Int) + 1) = (i : Int) + 1 := by rw [IntKind.wrap_i64]; have := HL2.o; have := HM.o; omega
     by_cases hlt : i + 1 < x.f3.length
     ·have c1 : decide ((i : Int) + 1 < (x.f3.length : Int)) = true := decide_eq_true zbV;obtain ⟨ad, rfl, hx⟩ := Kd.qbA (Kd.qdc Ha.o.r2) ((i : Int) + 1) zbV zbM;rw [show ((i : Int) + 1).toNat = i + 1 from zbV] at hx;replace hx : wr.cell? ⟨ad.block, ad.off + (i + 1), none⟩ = some (.string (rdOf ByteArray.empty x.f2 ((i : Int) + 1))) := hx;have p1 : (0 : Int) ≤ (i : Int) + 1 := zbV;have q1 : (i : Int) + 1 < (x.f2.length : Int) := zbM
      cases hbl : Op.bytesLess key.toList (rdOf ByteArray.empty x.f2 ((i : Int) + 1)).toList with
      | true =>
       have him : i = m := by
        rcases Nat.lt_or_ge i m with h | h
        ·have := qgH (ls := x.f2) (key := key) (i := i) (by rw [← HM.o.1]; exact h) zbV;rw [hbl] at this; cases this
        ·omega
       subst him
       go_wp2_with fail
       go_meet
       case rel => exact ⟨rfl, HO⟩
      | false =>
       have him : i < m := by
        rcases Nat.lt_or_ge i m with h | h
        ·exact h
        ·have he : i = m := zbV;have h2 := qfK (ls := x.f2) (key := key) (by rw [← HM.o.1]; omega);have e2 := qhw x.f2 i zbM;rw [e2] at hbl;simp only [← HM.o.1, ← he] at h2;rw [hbl] at h2
         cases h2
       go_wp2_with fail
       go_roundw
       case rel => exact ⟨i + 1, zbU, zbV, HO⟩
       case measure => simp [intOf]; omega
     ·have c1 : decide ((i : Int) + 1 < (x.f3.length : Int)) = false := decide_eq_false zbV;have him : i = m := by have := HM.o; have := HL2.o; omega
      subst him
      go_wp2_with fail
      go_meet
      case rel => exact ⟨rfl, HO⟩
   case rest =>
    obtain ⟨rfl, HO⟩ := hcut;have hPD : ∃ pg', PD (TrD bq.1 n) (partsOf x) ps pg' := by
     rcases HC.o with h | h
     ·rw [SO.o] at h; cases h.1
     ·exact ⟨_, h.2.choose_spec.2⟩
    have HPM := z_ (show m < (partsOf x).length from by have := HM.o.2; have := HPN.o.2.2.1; have := HL2.o; omega);obtain ⟨kk, hkk⟩ : ∃ kk, kk = ((partsOf x)[m]'HPM.o).2 := ⟨_, rfl⟩
    obtain ⟨pk, gk, hT⟩ := PD_nth _ _ _ m HPM.o hPD.choose_spec;rw [← hkk] at hT;obtain ⟨ch, hch⟩ : ∃ ch, ch = qbx (dopB drop key value) key n kk bq := ⟨_, rfl⟩
    have hgp : ((partsOf x).getD m (ByteArray.empty, 0)).2 = kk := by rw [List.getD_eq_getElem?_getD, List.getElem?_eq_getElem HPM.o, hkk]; rfl
    have HPS := z_ (show qbx (dopB drop key value) key (n + 1) k bq = qcp (preL (partsOf x) ch.1 m (partsOf x).length) ch.2 from by
     rw [preL_end HPM.o];unfold qbx;rw [HGD.o, if_neg (by rw [SO.o]; decide), ← HM.o.1, hgp, ← hch])
    have HKK := z_ hkk;have HT := z_ hT;have HCH := z_ hch;have HBZ := z_ (qad HYW.o HO.o);clear hPD hkk hT hgp hch
    go_wp2_with ((with_reducible refine qaG (N := 57) rfl ?_); refine Kd.qcD k118 w.heap.size 118 zbX (N := 57) zbX (xs := ([] : List S118)) (inner := []) (ok := fun _ => True) (okp := fun _ => True) zbv ?hp (fun _ hk => hk) trivial HBZ.o HBZ.o.size zbW ?_; (case hp => exact (Reps.none _ _)); intro v5 w5 TS hb5 F5 Z1; have qa := z_ (Below.grown (Below.refl _ _) F5 (Nat.le_refl _) (fun k hk => by cases hk)); clear F5 Z1; have nc := z_ TS; have o4 := z_ hb5; clear TS hb5)
    go_loopw [13, 14] (fun v13 v14 wr => ∃ (i : Nat) (vl : Value), i ≤ x.f3.length ∧ vl = v13 ∧ v14 = .int .i64 (i : Int) ∧ Aside0 (ChAt w0 w wr g gn cn gu cu gb x A1 oW A2 vQ A3 sQ (if i ≤ m then bq else ch.2) vl (partL (preL (partsOf x) ch.1 m i)))) (fun _ v14 _ => x.f3.length - (intOf v14).toNat)
    case atStart =>
     refine ⟨0, _, Nat.zero_le _, rfl, rfl, ⟨?_⟩⟩;rw [if_pos (Nat.zero_le _), qjI];exact ⟨qad (qad HBW.o HO.o) qa.o, (HKW.o.below HO.o).below qa.o, (HBX.o.below HSS.o HO.o).below HSS.o qa.o, (HBS.o.below HO.o).below qa.o, nc.o⟩
    case round =>
     clear nc o4 qa HO HBZ HBX HBS HBW HKW HYW;obtain ⟨i, vl, hi, rfl, rfl, HA⟩ := hrel;obtain ⟨r0, r1, r2, r3⟩ := qbz HA.o.box.blk
     by_cases hlt : i < x.f3.length
     ·have c1 : decide ((i : Int) < (x.f3.length : Int)) = true := decide_eq_true zbV;have w2 : IntKind.i64.wrap ((i : Int) + 1) = (i : Int) + 1 := by rw [IntKind.wrap_i64]; have := HL2.o; omega
      have HIP := z_ (show i < (partsOf x).length from by have := HPN.o.2.2.1; omega);have hrk : rd x.f3 (i : Int) = (((partsOf x)[i]'HIP.o).2 : Int) := by
       have e := HPN.o.1;unfold rd;rw [Int.toNat_natCast, e, List.getD_eq_getElem?_getD, List.getElem?_map, List.getElem?_eq_getElem HIP.o];rfl
      have hrl : rdOf ByteArray.empty x.f2 (i : Int) = ((partsOf x)[i]'HIP.o).1 := by
       have e := HPN.o.2.1;unfold rdOf;rw [Int.toNat_natCast, e, List.getD_eq_getElem?_getD, List.getElem?_map, List.getElem?_eq_getElem HIP.o];rfl
      obtain ⟨IN, rfl, hk3⟩ := Kd.qbN (Kd.qdc HA.o.box.r3) (i : Int) zbV zbV;rw [Int.toNat_natCast, hrk] at hk3;have HLC := z_ (show ch.1.length ≤ 2 from HCH.o ▸ qdo _ _ _ _ _);have p1 : (0 : Int) ≤ (i : Int) := zbV;have q1 : (i : Int) < (x.f3.length : Int) := zbV
      by_cases him : i = m
      ·subst him;have HA1 := z_ HA.o;rw [if_pos (Nat.le_refl i)] at HA1;rw [← HKK.o] at hk3;clear HA hrk hrl
       go_wp2_with fail
       refine (HIH.o w0 wr g gn cn gu cu bq kk pk gk HA1.o.below HA1.o.bs HLN.o HT.o).mono ?_;rintro e w1 ⟨v, rfl, hv, hb1, hw1, hk1⟩;have HA2 := z_ (HA1.o.call HSS.o hb1 hw1 hk1);rw [← HCH.o] at HA2 hv;obtain ⟨A5, c5, rfl, l5, g5⟩ := Kd.qbI hv;have HG5 := z_ g5;have HLE := z_ (show ((partL (preL (partsOf x) ch.1 i i)).length + (partL ch.1).length) ≤ 1000 from by
        have := qgG (parts := partsOf x) (ch := ch.1) (m := i) (i := i) (by have := HIP.o; omega);have := HLC.o;have := HL2.o;have := HPN.o.2.2.1;unfold partL;rw [List.length_map, List.length_map];omega)
       clear hv hb1 hw1 hk1 l5 g5 HA1
       go_wp2_with ((with_reducible refine qbs (b := .append) (xs := #[.tmp 68, .tmp 78]) rfl ?_); at_builtin; go_must (refine Kd.qbJ k118 (w0 := w1) w.heap.size rfl (.tmp 68) (.tmp 78) 112 118 (.agg #[.string ⟨#[]⟩, .int .i64 0]) 24 rfl Try.underlying112 qd1 rfl zbT zbV vl (partL (preL (partsOf x) ch.1 i i)) (partL ch.1) _ _ _ (fun _ => True) (fun _ => False) rfl rfl ?aO ?aR (fun _ _ h => h) (fun _ h => h.elim) (fun _ _ => trivial) ?aB ?aS ?aL ?_; (case aR => exact HG5.o); (case aB => exact Below.refl _ _); (case aO => exact HA2.o.o); (case aS => exact HA2.o.kept.1); (case aL => have := HLE.o; omega); intro vq wq hoq hnq hgq hatq; have HA3 := z_ (HA2.o.grown HW0.o hgq hoq); clear hoq hnq hgq hatq))
       go_roundw
       case rel =>
        refine ⟨i + 1, _, zbV, rfl, zbU, ⟨?_⟩⟩;rw [if_neg zbV, preL_at, qfa];exact HA3.o
       case measure => simp [intOf]; omega
      ·have hne : ((i : Int) == (m : Int)) = false := beq_eq_false_iff_ne.mpr zbV;obtain ⟨DG, rfl, _⟩ := Kd.qbA (Kd.qdc HA.o.box.r2) (i : Int) zbV zbM;have HRK := z_ hrk;have HRL := z_ hrl;have mc := z_ (show (i : Int) < (x.f2.length : Int) from zbM);have HQ3 := z_ (show (i < x.f2.length) = True from eq_true zbM);have HQ4 := z_ (show (i < x.f3.length) = True from eq_true hlt);have HQ5 := z_ q1;have HLE := z_ (show (partL (preL (partsOf x) ch.1 m i)).length ≤ 1000 from by
        have := qgG (parts := partsOf x) (ch := ch.1) (m := m) (i := i) (by have := HIP.o; omega);have := HLC.o;have := HL2.o;have := HPN.o.2.2.1;unfold partL;rw [List.length_map];omega)
       have HNE := z_ him;have S0 := z_ (HA.o.qbE HSS.o (qaW (Below.refl wr.heap.size wr)));clear hrk hrl hk3 HA him
       go_upto_region 15 with fail
       refine qbY (n := 15) (S := fun w' => True) (ds := []) #[false, false, false, false, false, false, false, false, false, false, false, false, false, false, false] zbS rfl rfl trivial (fun hHeld => ?_);refine qbg qd7.tab15 qd7.bits15 (fun l4 R6 => ?_);generalize wr.drew = wd at S0 ⊢;refine qcd [0, 1, 2, 3, 4, 5, 6, 7, 8, 9, 10, 11, 12, 13, 14] (fun E8 b a w' => ∃ (gq : Nat) (vo : Value) (G0 : Value) (N1 : Value), a = qa7 E8 b [(0, 80, vl), (1, 81, .pointer (some ⟨gb, 2, none⟩)), (2, 82, .slice (some DG) x.f2.length vQ), (3, 83, .int .i64 (i : Int)), (4, 84, .pointer (some (DG.add i))), (5, 85, .string ((partsOf x)[i]'HIP.o).1), (6, 86, .pointer (some ⟨gb, 3, none⟩)), (7, 87, .slice (some IN) x.f3.length sQ), (8, 88, .int .i64 (i : Int)), (9, 89, .pointer (some (IN.add i))), (10, 90, .int .i64 (((partsOf x)[i]'HIP.o).2 : Int)), (11, 91, .agg #[.string ((partsOf x)[i]'HIP.o).1, .int .i64 (((partsOf x)[i]'HIP.o).2 : Int)]), (12, 92, G0), (13, 93, vo), (14, 13, N1)] ∧ (b 13 = false → ChAt w0 w w' g gn cn gu cu gb x A1 oW (some DG) vQ (some IN) sQ (if i ≤ m then bq else ch.2) vl (partL (preL (partsOf x) ch.1 m i))) ∧ (b 13 = true → ChAt w0 w w' g gn cn gu cu gb x A1 oW (some DG) vQ (some IN) sQ (if i ≤ m then bq else ch.2) vo ((partL (preL (partsOf x) ch.1 m i)) ++ [(⟨((partsOf x)[i]'HIP.o).1, (((partsOf x)[i]'HIP.o).2 : Int)⟩ : S118)])) ∧ (b 12 = true → b 13 = false → ∃ W, w' = W.alloc (.cells #[.string ((partsOf x)[i]'HIP.o).1, .int .i64 (((partsOf x)[i]'HIP.o).2 : Int)] 118 (0, 0)) ∧ gq = W.heap.size ∧ ChAt w0 w W g gn cn gu cu gb x A1 oW (some DG) vQ (some IN) sQ (if i ≤ m then bq else ch.2) vl (partL (preL (partsOf x) ch.1 m i))) ∧ (b 12 = true → (G0 : Value) = .slice (some ⟨gq, 0, none⟩) 1 1) ∧ (b 14 = true → (N1 : Value) = vo)) l4.o R6.o zbS zbS ?_ ?_ ?_
       ·exact ⟨0, .bool false, .bool false, .bool false, zaO, fun _ => S0.o, fun h_ => absurd h_ zbT, fun h_ => absurd h_ zbT, fun h_ => absurd h_ zbT, fun h_ => absurd h_ zbT⟩
       ·skip;clear S0;refine qaa ?_ ?_
        ·rintro b a w' ⟨gq, vo, G0, N1, ha, QT⟩ hb_ hon hoff;refine ⟨_, rfl, fun K hK => ?_⟩;have e13 : a.tmps[13]? = some (vl) := zaJ;replace ha := z_ ha;refine qae (w1 := w') (v := vl) zbX rfl zbt ?_;refine hK.o _ _ ⟨gq, vo, G0, N1, zbg, QT⟩
        refine qaa ?_ ?_
        ·rintro b a w' ⟨gq, vo, G0, N1, ha, QT⟩ hb_ hon hoff;refine ⟨_, rfl, fun K hK => ?_⟩;have e11 : a.tmps[11]? = some (.pointer (some ⟨gb, 0, none⟩)) := zbu;replace ha := z_ ha;refine qae (w1 := w') (v := .pointer (some ⟨gb, 2, none⟩)) zbX rfl zbt ?_;refine hK.o _ _ ⟨gq, vo, G0, N1, zbh, QT⟩
        refine qaa ?_ ?_
        ·rintro b a w' ⟨gq, vo, G0, N1, ha, QT⟩ hb_ hon hoff;refine ⟨_, rfl, fun K hK => ?_⟩;have Mh : a.tmps[81]? = some (.pointer (some ⟨gb, 2, none⟩)) := zon_ ha 1 rfl rfl hon;replace ha := z_ ha;have S0 := z_ (QT.1 (hoff 13 zbS));obtain ⟨ug, Og, Te, Sg⟩ := qbz S0.o.box.blk;refine qae (w1 := w') (v := .slice (some DG) x.f2.length vQ) zbX rfl zbt ?_;refine hK.o _ _ ⟨gq, vo, G0, N1, zbi, QT⟩
        refine qaa ?_ ?_
        ·rintro b a w' ⟨gq, vo, G0, N1, ha, QT⟩ hb_ hon hoff;refine ⟨_, rfl, fun K hK => ?_⟩;have e14 : a.tmps[14]? = some (.int .i64 (i : Int)) := zbu;replace ha := z_ ha;refine qae (w1 := w') (v := .int .i64 (i : Int)) zbX rfl zbt ?_;refine hK.o _ _ ⟨gq, vo, G0, N1, zbj, QT⟩
        refine qaa ?_ ?_
        ·rintro b a w' ⟨gq, vo, G0, N1, ha, QT⟩ hb_ hon hoff;refine ⟨_, rfl, fun K hK => ?_⟩;have e82 : a.tmps[82]? = some (.slice (some DG) x.f2.length vQ) := zon_ ha 2 rfl rfl hon;have Hh : a.tmps[83]? = some (.int .i64 (i : Int)) := zon_ ha 3 rfl rfl hon;replace ha := z_ ha;have Sa := mc.o;have yd := HQ3.o;refine qae (w1 := w') (v := .pointer (some (DG.add i))) zbX rfl zbt ?_;refine hK.o _ _ ⟨gq, vo, G0, N1, zbk, QT⟩
        refine qaa ?_ ?_
        ·rintro b a w' ⟨gq, vo, G0, N1, ha, QT⟩ hb_ hon hoff;refine ⟨_, rfl, fun K hK => ?_⟩;have e84 : a.tmps[84]? = some (.pointer (some (DG.add i))) := zon_ ha 4 rfl rfl hon;replace ha := z_ ha;have S0 := z_ (QT.1 (hoff 13 zbS));obtain ⟨sT, e_, Pe⟩ := Kd.qbA (Kd.qdc S0.o.box.r2) (i : Int) zbV mc.o
         cases e_
         rw [Int.toNat_natCast, HRL.o] at Pe;refine qae (w1 := w') (v := .string ((partsOf x)[i]'HIP.o).1) zbX rfl zbt ?_;refine hK.o _ _ ⟨gq, vo, G0, N1, zbl, QT⟩
        refine qaa ?_ ?_
        ·rintro b a w' ⟨gq, vo, G0, N1, ha, QT⟩ hb_ hon hoff;refine ⟨_, rfl, fun K hK => ?_⟩;have e11 : a.tmps[11]? = some (.pointer (some ⟨gb, 0, none⟩)) := zbu;replace ha := z_ ha;refine qae (w1 := w') (v := .pointer (some ⟨gb, 3, none⟩)) zbX rfl zbt ?_;refine hK.o _ _ ⟨gq, vo, G0, N1, zbm, QT⟩
        refine qaa ?_ ?_
        ·rintro b a w' ⟨gq, vo, G0, N1, ha, QT⟩ hb_ hon hoff;refine ⟨_, rfl, fun K hK => ?_⟩;have Mg : a.tmps[86]? = some (.pointer (some ⟨gb, 3, none⟩)) := zon_ ha 6 rfl rfl hon;replace ha := z_ ha;have S0 := z_ (QT.1 (hoff 13 zbS));obtain ⟨ug, Og, Te, Sg⟩ := qbz S0.o.box.blk;refine qae (w1 := w') (v := .slice (some IN) x.f3.length sQ) zbX rfl zbt ?_;refine hK.o _ _ ⟨gq, vo, G0, N1, zbn, QT⟩
        refine qaa ?_ ?_
        ·rintro b a w' ⟨gq, vo, G0, N1, ha, QT⟩ hb_ hon hoff;refine ⟨_, rfl, fun K hK => ?_⟩;have e14 : a.tmps[14]? = some (.int .i64 (i : Int)) := zbu;replace ha := z_ ha;refine qae (w1 := w') (v := .int .i64 (i : Int)) zbX rfl zbt ?_;refine hK.o _ _ ⟨gq, vo, G0, N1, zbo, QT⟩
        refine qaa ?_ ?_
        ·rintro b a w' ⟨gq, vo, G0, N1, ha, QT⟩ hb_ hon hoff;refine ⟨_, rfl, fun K hK => ?_⟩;have e87 : a.tmps[87]? = some (.slice (some IN) x.f3.length sQ) := zon_ ha 7 rfl rfl hon;have If : a.tmps[88]? = some (.int .i64 (i : Int)) := zon_ ha 8 rfl rfl hon;replace ha := z_ ha;have yd := HQ4.o;refine qae (w1 := w') (v := .pointer (some (IN.add i))) zbX rfl zbt ?_;refine hK.o _ _ ⟨gq, vo, G0, N1, zbp, QT⟩
        refine qaa ?_ ?_
        ·rintro b a w' ⟨gq, vo, G0, N1, ha, QT⟩ hb_ hon hoff;refine ⟨_, rfl, fun K hK => ?_⟩;have e89 : a.tmps[89]? = some (.pointer (some (IN.add i))) := zon_ ha 9 rfl rfl hon;replace ha := z_ ha;have S0 := z_ (QT.1 (hoff 13 zbS));obtain ⟨sT, e_, Pe⟩ := Kd.qbN (Kd.qdc S0.o.box.r3) (i : Int) zbV HQ5.o
         cases e_
         rw [Int.toNat_natCast, HRK.o] at Pe;refine qae (w1 := w') (v := .int .i64 (((partsOf x)[i]'HIP.o).2 : Int)) zbX rfl zbt ?_;refine hK.o _ _ ⟨gq, vo, G0, N1, zaP, QT⟩
        refine qaa ?_ ?_
        ·rintro b a w' ⟨gq, vo, G0, N1, ha, QT⟩ hb_ hon hoff;refine ⟨_, rfl, fun K hK => ?_⟩;have rg : a.tmps[85]? = some (.string ((partsOf x)[i]'HIP.o).1) := zon_ ha 5 rfl rfl hon;have e90 : a.tmps[90]? = some (.int .i64 (((partsOf x)[i]'HIP.o).2 : Int)) := zon_ ha 10 rfl rfl hon;replace ha := z_ ha;refine qae (w1 := w') (v := .agg #[.string ((partsOf x)[i]'HIP.o).1, .int .i64 (((partsOf x)[i]'HIP.o).2 : Int)]) zbX rfl zbt ?_;refine hK.o _ _ ⟨gq, vo, G0, N1, zaQ, QT⟩
        refine qaa ?_ ?_
        ·rintro b a w' ⟨gq, vo, G0, N1, ha, X3, V3, t4, T0, V5⟩ hb_ hon hoff;refine ⟨_, rfl, fun K hK => ?_⟩;have e91 : a.tmps[91]? = some (.agg #[.string ((partsOf x)[i]'HIP.o).1, .int .i64 (((partsOf x)[i]'HIP.o).2 : Int)]) := zon_ ha 11 rfl rfl hon;replace ha := z_ ha;have S0 := z_ (X3 (hoff 13 zbS));refine qae (w1 := w'.alloc (.cells #[.string ((partsOf x)[i]'HIP.o).1, .int .i64 (((partsOf x)[i]'HIP.o).2 : Int)] 118 (0, 0))) (v := .slice (some ⟨w'.heap.size, 0, none⟩) 1 1) zbX rfl zbP ?_;refine hK.o _ _ ⟨w'.heap.size, vo, (.slice (some ⟨w'.heap.size, 0, none⟩) 1 1), N1, zaR, fun _ => S0.o.qbE HSS.o (qas (Below.refl _ _) _), nf_ (hoff 13 zbS), fun _ _ => ⟨w', rfl, rfl, S0.o⟩, fun _ => rfl, nf_ (hoff 14 zbS)⟩
        refine qaa ?_ ?_
        ·rintro b a w' ⟨gq, vo, G0, N1, ha, X3, V3, t4, T0, V5⟩ hb_ hon hoff;refine ⟨_, rfl, fun K hK => ?_⟩;have Ub : a.tmps[80]? = some (vl) := zon_ ha 0 rfl rfl hon;have e92 : a.tmps[92]? = some (G0) := zon_ ha 12 rfl rfl hon;rw [T0 (hon 12 zbS)] at e92;replace ha := z_ ha;have S0 := z_ (X3 hb_);have BX := z_ (t4 (hon 12 zbS) hb_);obtain ⟨FN, JF, LF, C8⟩ := BX.o;clear BX S0;have IF := C8.kept.1;have hll_ := HLE.o;rw [JF];refine Kd.qbS k118 (w0 := FN) w.heap.size zbX (.tmp 80) (.tmp 92) 112 118 (.agg #[.string ⟨#[]⟩, .int .i64 0]) 24 rfl Try.underlying112 qd1 rfl zbT zbV vl (partL (preL (partsOf x) ch.1 m i)) (⟨((partsOf x)[i]'HIP.o).1, (((partsOf x)[i]'HIP.o).2 : Int)⟩ : S118) [.string ((partsOf x)[i]'HIP.o).1, .int .i64 (((partsOf x)[i]'HIP.o).2 : Int)] (fun _ => True) (fun _ => False) (by simp only [Act.eval, Array.getD_eq_getD_getElem?, Ub, Option.getD_some]) (by simp only [Act.eval, Array.getD_eq_getD_getElem?, e92, Option.getD_some, LF]) zbL (fun _ hk => hk.elim) (fun _ _ => trivial) C8.o (Below.refl _ _) IF zbV ?_;intro DN lO AK XV F5 XN;refine hK.o _ _ ⟨gq, DN, G0, N1, zaS, fun N7 => absurd ((qa5 b 13).symm.trans N7) zbT, fun _ => C8.grown HW0.o F5 AK, fun _ u3 => absurd ((qa5 b 13).symm.trans u3) zbT, T0, nf_ (hoff 14 zbS)⟩
        refine qaa ?_ ?_
        ·rintro b a w' ⟨gq, vo, G0, N1, ha, X3, V3, t4, T0, V5⟩ hb_ hon hoff;refine ⟨_, rfl, fun K hK => ?_⟩;have e93 : a.tmps[93]? = some (vo) := zon_ ha 13 rfl rfl hon;replace ha := z_ ha;refine qae (w1 := w') (v := vo) zbX rfl zbt ?_;refine hK.o _ _ ⟨gq, vo, G0, (vo), zaT, nt_ (hon 13 zbS), V3, fun _ u3 => absurd ((hon 13 zbS).symm.trans u3) zbT, T0, fun _ => rfl⟩
        exact qbo
       rintro b a wE hall ⟨gq, vo, G0, N1, ha, X3, V3, t4, T0, V5⟩;clear S0;have X2 := hall 0 zbS;have X1 := hall 1 zbS;have N2 := hall 2 zbS;have M2 := hall 3 zbS;have I2 := hall 4 zbS;have D3 := hall 5 zbS;have j3 := hall 6 zbS;have i3 := hall 7 zbS;have U2 := hall 8 zbS;have Y2 := hall 9 zbS;have D2 := hall 10 zbS;have Q2 := hall 11 zbS;have F2 := hall 12 zbS;have j4 := hall 13 zbS;have D4 := hall 14 zbS;subst ha;obtain rfl := T0 F2;obtain rfl := V5 D4;simp only [qa7, X2, X1, N2, M2, I2, D3, j3, i3, U2, Y2, D2, Q2, F2, j4, D4, if_true, Act.put, List.setIfInBounds_toArray, List.set_cons_zero, List.set_cons_succ];clear X3;have S2 := z_ (V3 j4);clear V3 t4 hall X2 X1 N2 M2 I2 D3 j3 i3 U2 Y2 D2 Q2 F2 j4 D4
       go_wp2_with fail
       go_roundw
       case rel =>
        refine ⟨i + 1, _, zbV, rfl, zbU, ⟨?_⟩⟩;rw [qjJ HNE.o HIP.o, qfa];have e : (if i + 1 ≤ m then bq else ch.2) = if i ≤ m then bq else ch.2 := by
         by_cases h : i ≤ m
         ·rw [if_pos h, if_pos (by have := HNE.o; omega)]
         ·rw [if_neg h, if_neg zbV]
        rw [e];exact S2.o
       case measure => simp [intOf]; omega
     ·have c1 : decide ((i : Int) < (x.f3.length : Int)) = false := decide_eq_false zbV;have hie : i = (partsOf x).length := by have := HPN.o.2.2.1; omega
      have HA1 := z_ HA.o;rw [if_neg (by have := HPM.o; omega), hie] at HA1;have HLC := z_ (show ch.1.length ≤ 2 from HCH.o ▸ qdo _ _ _ _ _);have hbg := qdF (dopB drop key value) key n kk bq;rw [← HCH.o] at hbg;have He := z_ (show ch.2.1.length = 50 ∧ ch.2.2.1.length = 50 from ⟨hbg.len.trans HLN.o.1, hbg.lenu.trans HLN.o.2⟩);have HLE := z_ (show (preL (partsOf x) ch.1 m (partsOf x).length).length ≤ 1000 from by
       have := qgG (parts := partsOf x) (ch := ch.1) (m := m) (i := (partsOf x).length) (Nat.le_refl _);have := HLC.o;have := HL2.o;have := HPN.o.2.2.1;omega)
      obtain ⟨A5, c5, rfl, l5, f5⟩ := qei HA1.o.bs HA1.o.o nePt.1 nePt.2.1 nePt.2.2;have HF5 := z_ f5;have sX := z_ l5;clear f5 l5 hbg hie HA
      go_wp2_with fail
      refine (qb7 w0 wr g gn cn gu cu ch.2 HA1.o.below HA1.o.bs He.o _ (fun k hk => hk.1) A5 c5 _ HF5.o sX.o HLE.o).mono ?_;rintro e w1 ⟨v, rfl, hv, hb1, hw1, hk1⟩;have hk3 := HA1.o.kept.qg3 hk1 (fun _ h => .inl h);have hs1 := HA1.o.kept.1
      go_wp2_with fail
      go_ret
      rw [HPS.o];exact ⟨_, rfl, Kd.qa9 hv hs1, hb1, hw1, hk3⟩
end Go.Proofs.Ytcdokcpiahbejaa.X
namespace Go.Proofs.Ytcdokcpiahbejaa.X
open Go.RowKit Go.Proofs.YtcdokcpiahbejaaW.PrintWords Go.Proofs.YtcdokcpiahbejaaW.PrintLast Go.Proofs.YtcdokcpiahbejaaW.PrintMore
attribute [local go_sem] qax qay qaz qat qau qaJ qaK qam qan qav qaw
set_option linter.unusedVariables false
set_option linter.unusedSimpArgs false
def qa1.l0 : Nat → Int → List (S75) → List (S75) → Option ((List (S75)))
 | 0, _, _, _ => none
 | k + 1, x4, x185000, x190000 => if x4 < (x185000.length : Int) then (if 0 ≤ x4 then ((qbK.f ((qaH x185000 x4).f0) ((qaH x185000 x4).f1) ((qaH x185000 x4).f2) ((qaH x185000 x4).f3)).bind fun VL => (if x190000.length < 1759218604441 then (qa1.l0 k (wrap64 (x4 + 1)) x185000 (x190000 ++ [(⟨VL.1, VL.2.1, VL.2.2.1, VL.2.2.2⟩ : S75)])) else (none))) else (none)) else (some x190000)
def qa1.f (k : Nat) (t0 : List (S75)) : Option ((List (S75))) := qa1.l0 k 0 t0 (([] : List (S75)))
theorem qa1.qbW : ∀ k, (∀ y0 y1 y2, LeO (qa1.l0 k y0 y1 y2) (qa1.l0 (k + 1) y0 y1 y2))
 | 0 => fun _ _ _ r h => by simp [qa1.l0] at h
 | k + 1 => by
  have d6 := qa1.qbW k
  ·intro y0 y1 y2;unfold qa1.l0
   repeat' first
   | (with_reducible exact d6 _ _ _)
   | (with_reducible exact LeO.refl _)
   | (with_reducible exact LeO.none _)
   | (with_reducible refine LeO.ite ?_ ?_)
   | (with_reducible refine LeO.bind ?_ (fun _ => ?_))
   | exact d6 _ _ _
   | exact LeO.none _
   | refine LeO.ite ?_ ?_
   | refine LeO.bind ?_ (fun _ => ?_)
def qa1.T5 : Bool × List (List Nat × List Nat) := (true, [([], []), ([0], [0]), ([], []), ([2], [2]), ([], []), ([3, 4], [3, 4]), ([5], [5]), ([6], [6]), ([7], [7]), ([1, 8, 7], [1, 8]), ([0, 1, 2, 3, 4, 5, 6, 7, 8, 9], []), ([10, 9, 9, 0, 1, 2, 3, 4, 5, 6, 7, 8, 9], [9, 10])])
def qa1.B5 : List Nat := [0, 1, 0, 4, 0, 28, 60, 124, 252, 511, 1023, 2047]
theorem qa1.tab5 : rtab .any (opsOf Try.f38 5) = qa1.T5 := zbS
theorem qa1.bits5 : qbv qa1.T5.2 qa1.B5 = true := zbS
set_option maxHeartbeats 8000000 in
set_option maxRecDepth 100000 in
theorem qa1.calls (k : Nat) (P0 : Option Addr) (O0 : Nat) (t0 : List (S75)) (r : List (S75)) (w : World) (a5 : Kd.C k75 w P0 t0.length t0) (J6 : t0.length ≤ O0) (h : qa1.f k t0 = some r) :
  Calls Try.prog 38 #[.agg #[.slice P0 t0.length O0]] w fun e w' => ∃ mA : Value, e = .returned (.agg #[mA]) ∧ Kd.S k75 75 w' w.heap.size (fun _ => True) mA r ∧ Below w.heap.size w w' := by
 have bI := Try.underlying25;have JN := Try.underlying75;have S6 := z_ a5;have r8 := z_ J6;clear a5 J6;have HB := z_ (Below.refl w.heap.size w);have H : (qa1.l0 k 0 t0 (([] : List (S75)))) = some r := h;clear h;obtain ⟨XQ, ZI⟩ : ∃ y_ : List (S75), y_ = (([] : List (S75))) := ⟨_, rfl⟩
 replace H : (qa1.l0 k 0 t0 XQ) = some r := by first | (rw [ZI]; with_reducible exact H) | (have Y1 := (Option.bind_some _ _).symm.trans H; rw [ZI]; with_reducible exact Y1) | (have Y1 := (Option.bind_some _ _).symm.trans H; with_reducible exact Y1) | with_reducible exact H | (rw [ZI]; exact H) | exact H
 have sU := z_ ZI;clear ZI;have H' := z_ H;clear H
 go_enter Try.func38, Try.ntmps38
 go_wp2_with (first | ((with_reducible refine qaG (N := 1) rfl ?_); refine qaS zbX (N := 1) zbX (cs := #[.slice P0 t0.length O0]) (t := 25) zbv ?_; intro Z8 hg w2 hbox hb; have H0 := z_ (qad zaq hb); have I0 := z_ (hbox); have K0 := z_ ((zal : w.heap.size ≤ Z8)); have U0 := z_ ((zal : w.heap.size ≤ Z8)); clear HB; have HB := H0; have S4 := I0; have GW184 := K0; have V8 := U0; clear H0 I0 K0 U0; clear hb hbox hg) | ((with_reducible refine qaG (N := 2) rfl ?_); refine qaS zbX (N := 2) zbX (cs := #[.slice none 0 0]) (t := 25) zbv ?_; intro k9 hg w3 hbox hb; have H0 := z_ (qap (g := Z8) (o := .cells #[.slice P0 t0.length O0] 25 (0, 0)) (zac S4.o) hb); have I0 := z_ (qad (zab V8.o) hb); have K0 := z_ (hbox); have U0 := z_ ((by rw [hg]; exact (qaC (zab V8.o)) : w.heap.size ≤ k9)); have N5 := z_ ((by rw [hg]; exact (qaC (zab V8.o)) : w.heap.size ≤ k9)); have b9 := z_ ((zar : Z8 ≠ k9)); have WF := z_ ((zas : k9 ≠ Z8)); clear S4 HB; have S4 := H0; have HB := I0; have i6 := K0; have GW185 := U0; have aA := N5; have JH := b9; have MH := WF; clear H0 I0 K0 U0 N5 b9 WF; clear hb hbox hg) | ((with_reducible refine qaG (N := 5) rfl ?_); refine Kd.S_lit k75 _ 75 zbX (N := 5) zbX (xs := ([] : List (S75))) (inner := []) (ok := fun _ => True) (okp := fun _ => True) zbv ?hp (fun _ hk => hk) trivial (Below.refl _ _) (Nat.le_refl _) zbW ?_; (case hp => exact (Reps.none _ _)); intro v187 w4 TS hb F5 Z1; clear F5 Z1; (first | rw [← sU.o] at TS | (simp only [Int.reduceToNat] at TS; rw [← sU.o] at TS)); have H0 := z_ (Kd.qdZ TS (qaC (zaf V8.o aA.o))); have I0 := z_ (qap (g := Z8) (o := .cells #[.slice P0 t0.length O0] 25 (0, 0)) (zac S4.o) hb); have K0 := z_ (qap (g := k9) (o := .cells #[.slice none 0 0] 25 (0, 0)) (zac i6.o) hb); have U0 := z_ (qad (zaf V8.o aA.o) hb); clear S4 i6 HB; have LI := H0; have S4 := I0; have i6 := K0; have HB := U0; clear H0 I0 K0 U0 hb TS; obtain ⟨Ao6, co6, eo6⟩ := Kd.qeT LI.o; subst eo6) | ((with_reducible refine qaG (N := 3) rfl ?_); refine qaS zbX (N := 3) zbX (cs := #[.slice none 0 0]) (t := 25) zbv ?_; intro N9 hg w7 hbox hb; have H0 := z_ (Kd.qck (zag LI.o) hb); have I0 := z_ (qap (g := Z8) (o := .cells #[.slice P0 t0.length O0] 25 (0, 0)) (zac S4.o) hb); have K0 := z_ (qap (g := k9) (o := .cells #[.slice none 0 0] 25 (0, 0)) (zac i6.o) hb); have U0 := z_ (qad (zaf V8.o aA.o) hb); have N5 := z_ (hbox); have b9 := z_ ((by rw [hg]; exact (qaC (zaf V8.o aA.o)) : w.heap.size ≤ N9)); have WF := z_ ((by rw [hg]; exact (qaC (zaf V8.o aA.o)) : w.heap.size ≤ N9)); have qK := z_ ((zar : Z8 ≠ N9)); have oP := z_ ((zas : N9 ≠ Z8)); have aU := z_ ((by rw [hg]; exact Nat.ne_of_lt (qbH (g := k9) (o := .cells #[.slice none 0 0] 25 (0, 0)) (zac i6.o)) : k9 ≠ N9)); have DP := z_ ((by rw [hg]; exact Nat.ne_of_gt (qbH (g := k9) (o := .cells #[.slice none 0 0] 25 (0, 0)) (zac i6.o)) : N9 ≠ k9)); clear LI S4 i6 HB; have LI := H0; have S4 := I0; have i6 := K0; have HB := U0; have k6 := N5; have GW189 := b9; have nD := WF; have D9 := qK; have yC := oP; have BA := aU; have NF := DP; clear H0 I0 K0 U0 N5 b9 WF qK oP aU DP hb hbox hg; have hnb8 := yC.o; have hnc8 := D9.o; have rY := NF.o; have XZ := BA.o; have kG : w7.cell? ⟨N9, 0, none⟩ = some (.slice none 0 0) := (qac k6.o 0).trans rfl; have rG := qab k6.o 0))
 go_loopg [4] k (fun kq v4 w' => ∃ (U3 : Int) (t7 : List (S75)) (Q5 : Value), v4 = .int .i64 U3 ∧ Aside0 (qa1.l0 kq U3 t0 t7 = some r) ∧ Aside0 (kq ≤ k) ∧ Aside0 (Kd.S k75 75 w' w.heap.size (fun _ => True) Q5 t7) ∧ Aside0 (w'.heap[Z8]? = some (.cells #[(.slice P0 t0.length O0)] 25 (0, 0))) ∧ Aside0 (w'.heap[k9]? = some (.cells #[(.slice none 0 0)] 25 (0, 0))) ∧ Aside0 (w'.heap[N9]? = some (.cells #[Q5] 25 (0, 0))) ∧ Aside0 (Below w.heap.size w w'))
 case atStart => exact ⟨(0), (XQ), (.slice Ao6 XQ.length co6), zbs, H', ⟨Nat.le_refl _⟩, ⟨by (with_reducible repeat (first | apply Kd.qcO | apply Kd.qcP | apply Kd.qc9)); exact Kd.qcx (Kd.qeF (p := ⟨N9, 0, none⟩) (Kd.qdx LI.o k6.o zbT) (fun _ hk => hk.2) (.slice Ao6 XQ.length co6)) (fun _ hk => trivial)⟩, ⟨by (with_reducible repeat (first | refine qaj ?_ _ | refine qai ?_ | refine qah ?_ _)); refine qbF ?_ D9.o _; (with_reducible repeat (first | refine qaj ?_ _ | refine qai ?_ | refine qah ?_ _)); exact S4.o⟩, ⟨by (with_reducible repeat (first | refine qaj ?_ _ | refine qai ?_ | refine qah ?_ _)); refine qbF ?_ BA.o _; (with_reducible repeat (first | refine qaj ?_ _ | refine qai ?_ | refine qah ?_ _)); exact i6.o⟩, ⟨by (with_reducible repeat (first | refine qaj ?_ _ | refine qai ?_ | refine qah ?_ _)); refine qbm (cs := #[.slice none 0 0]) ?_ 0 _ rfl; (with_reducible repeat (first | refine qaj ?_ _ | refine qai ?_ | refine qah ?_ _)); exact k6.o⟩, ⟨zah V8.o aA.o nD.o⟩⟩
 case round =>
  clear H';try clear p2
  try clear c3
  try clear c8
  try clear c9
  try clear kG
  try clear rG
  obtain ⟨U3, t7, Q5, rfl, HA, q7, L3, S4, i6, k6, HB⟩ := hrel
  cases gk with
  | zero => exact absurd HA.o (by simp [qa1.l0])
  | succ k1 =>
   have H := HA.o;clear HA;simp only [qa1.l0] at H
   by_cases c11 : U3 < (t0.length : Int)
   ·rw [if_pos c11] at H;have CE : decide (U3 < (t0.length : Int)) = true := decide_eq_true c11;clear c11
    by_cases c12 : 0 ≤ U3
    ·rw [if_pos c12] at H;have W9 : decide (0 ≤ U3) = true := decide_eq_true c12;clear c12;replace H := Option.bind_eq_some_iff.mp H;obtain ⟨⟨BO, UN, YN, t198⟩, vP, H⟩ := H;try dsimp only at H
     have yh := z_ vP;clear vP
     by_cases c14 : t7.length < 1759218604441
     ·rw [if_pos c14] at H;have IP := z_ c14;clear c14;obtain ⟨VR, CJ⟩ : ∃ y_ : List (S75), y_ = (t7 ++ [(⟨BO, UN, YN, t198⟩ : S75)]) := ⟨_, rfl⟩
      replace H : (qa1.l0 k1 (wrap64 (U3 + 1)) t0 VR) = some r := by first | (rw [CJ]; with_reducible exact H) | (have Y1 := (Option.bind_some _ _).symm.trans H; rw [CJ]; with_reducible exact Y1) | (have Y1 := (Option.bind_some _ _).symm.trans H; with_reducible exact Y1) | with_reducible exact H | (rw [CJ]; exact H) | exact H
      have Ra := z_ CJ;clear CJ;have H' := z_ H;clear H;have hnb15 := JH.o;have hnc15 := MH.o;have hnb16 := D9.o;have hnc16 := yC.o;have cC : wr.cell? ⟨Z8, 0, none⟩ = some (.slice P0 t0.length O0) := (qac S4.o 0).trans rfl;have iC := qab S4.o 0;try go_wp2
      have H0 := z_ (Kd.qc9 L3.o);have I0 := z_ (qai S4.o);have K0 := z_ (qai i6.o);have U0 := z_ (qai k6.o);have N5 := z_ (qaP HB.o);clear L3 S4 i6 k6 HB;have L3 := H0;have S4 := I0;have i6 := K0;have k6 := U0;have HB := N5;clear H0 I0 K0 U0 N5;have VW : 0 ≤ (U3 : Int) := of_decide_eq_true zaN;have AV : U3 < (t0.length : Int) := of_decide_eq_true zaN;obtain ⟨TC, cP, RP, GP, nP, GO, TO, e190, jF, UE, SD, ME, yN, JM, XL, cM, AN, jM⟩ := qfz S6.o U3 VW AV;have F8 := ME;have M8 := SD;have P8 := UE;have O8 := jF
      cases e190
      replace jF := (HB.o.cell (World.block_lt_of_cell? w _ jF)).trans jF;replace UE := (HB.o.cell (World.block_lt_of_cell? w _ UE)).trans UE;replace SD := (HB.o.cell (World.block_lt_of_cell? w _ SD)).trans SD;replace ME := (HB.o.cell (World.block_lt_of_cell? w _ ME)).trans ME;have cN := z_ JM;have gS := z_ yN;clear JM yN;have CN := z_ cM;have uR := z_ XL;clear cM XL;have BM := z_ jM;have AS := z_ AN;clear jM AN;replace VW := eq_true VW;replace AV := eq_true AV;refine qbY (n := 12) (S := fun w' => w'.cell? ⟨N9, 0, none⟩ = some (Q5) ∧ w'.cell? ⟨Z8, 0, none⟩ = some (.slice (some TC) t0.length O0) ∧ w'.cell? (TC.add ((U3).toNat * 4)) = some (.bool ((qaH t0 U3).f0)) ∧ w'.cell? ⟨(TC.add ((U3).toNat * 4)).block, (TC.add ((U3).toNat * 4)).off + 1, none⟩ = some (.slice cP ((qaH t0 U3).f1).length RP) ∧ w'.cell? ⟨(TC.add ((U3).toNat * 4)).block, (TC.add ((U3).toNat * 4)).off + 2, none⟩ = some (.slice GP ((qaH t0 U3).f2).length nP) ∧ w'.cell? ⟨(TC.add ((U3).toNat * 4)).block, (TC.add ((U3).toNat * 4)).off + 3, none⟩ = some (.slice GO ((qaH t0 U3).f3).length TO)) (ds := [11]) #[false, false, false, false, false, false, false, false, false, false, false, false] zbS rfl rfl ⟨(qac k6.o 0).trans rfl, (qac S4.o 0).trans rfl, ((HB.o.cell (World.block_lt_of_cell? w _ O8)).trans O8), ((HB.o.cell (World.block_lt_of_cell? w _ P8)).trans P8), ((HB.o.cell (World.block_lt_of_cell? w _ M8)).trans M8), ((HB.o.cell (World.block_lt_of_cell? w _ F8)).trans F8)⟩ (fun hHeld => ?_); refine qbg qa1.tab5 qa1.bits5 (fun l4 R6 => ?_);generalize wr.drew = ae at L3 S4 i6 k6 HB cN CN BM jF UE SD ME hHeld ⊢;refine qcu (i := 0) (N := some 14) (v := ?_) (a' := ?_) #[true, false, false, false, false, false, false, false, false, false, false, false] rfl rfl (qbP l4.o zbS) (fun _ _ _ h => h) (Or.inl ⟨zbX, ?_⟩) ?_ ?_;rotate_left
      ·intro w';go_simp
       with_reducible rfl
      rotate_left
      ·simp only [Act.put, List.setIfInBounds_toArray, List.set_cons_zero, List.set_cons_succ, qbw, qbB];rfl
      refine qcu (i := 2) (N := some 16) (v := ?_) (a' := ?_) #[true, false, true, false, false, false, false, false, false, false, false, false] rfl rfl (qbP l4.o zbS) (fun _ _ _ h => h) (Or.inl ⟨zbX, ?_⟩) ?_ ?_;rotate_left
      ·intro w';go_simp
       with_reducible rfl
      rotate_left
      ·simp only [Act.put, List.setIfInBounds_toArray, List.set_cons_zero, List.set_cons_succ, qbw, qbB];rfl
      refine qcu (i := 4) (N := some 18) (v := ?_) (a' := ?_) #[true, false, true, false, true, false, false, false, false, false, false, false] rfl rfl (qbP l4.o zbS) (fun _ _ _ h => h) (Or.inl ⟨zbX, ?_⟩) ?_ ?_;rotate_left
      ·intro w';go_simp
       with_reducible rfl
      rotate_left
      ·simp only [Act.put, List.setIfInBounds_toArray, List.set_cons_zero, List.set_cons_succ, qbw, qbB];rfl
      refine qfe (i := 1) (N := some 15) (v := ?_) (a' := ?_) #[true, true, true, false, true, false, false, false, false, false, false, false] rfl rfl (qcN l4.o R6.o zbS) (fun _ _ _ h => h) (Or.inl ⟨zbX, ?_⟩) hHeld ?_ ?_;rotate_left
      ·rintro w' ⟨s0, s1, s2, s3, s4, s5⟩;go_simp
       with_reducible rfl
      rotate_left
      ·simp only [Act.put, List.setIfInBounds_toArray, List.set_cons_zero, List.set_cons_succ, qbw, qbB];rfl
      refine qfe (i := 3) (N := some 17) (v := ?_) (a' := ?_) #[true, true, true, true, true, false, false, false, false, false, false, false] rfl rfl (qcN l4.o R6.o zbS) (fun _ _ _ h => h) (Or.inl ⟨zbX, ?_⟩) hHeld ?_ ?_;rotate_left
      ·rintro w' ⟨s0, s1, s2, s3, s4, s5⟩;go_simp
       with_reducible rfl
      rotate_left
      ·simp only [Act.put, List.setIfInBounds_toArray, List.set_cons_zero, List.set_cons_succ, qbw, qbB];rfl
      refine qcu (i := 5) (N := some 19) (v := ?_) (a' := ?_) #[true, true, true, true, true, true, false, false, false, false, false, false] rfl rfl (qbP l4.o zbS) (fun _ _ _ h => h) (Or.inl ⟨zbX, ?_⟩) ?_ ?_;rotate_left
      ·intro w';go_simp
       with_reducible rfl
      rotate_left
      ·simp only [Act.put, List.setIfInBounds_toArray, List.set_cons_zero, List.set_cons_succ, qbw, qbB];rfl
      refine qfe (i := 6) (N := some 20) (v := ?_) (a' := ?_) #[true, true, true, true, true, true, true, false, false, false, false, false] rfl rfl (qcN l4.o R6.o zbS) (fun _ _ _ h => h) (Or.inl ⟨zbX, ?_⟩) hHeld ?_ ?_;rotate_left
      ·rintro w' ⟨s0, s1, s2, s3, s4, s5⟩;go_simp
       with_reducible rfl
      rotate_left
      ·simp only [Act.put, List.setIfInBounds_toArray, List.set_cons_zero, List.set_cons_succ, qbw, qbB];rfl
      refine one_ (i := 7) (N := some 21) #[true, true, true, true, true, true, true, true, false, false, false, false] rfl rfl (qdV l4.o zbS) zbT (fun K hK => ?_);refine qdr Try.func66 zbS rfl #[.agg #[.bool ((qaH t0 U3).f0), .slice cP ((qaH t0 U3).f1).length RP, .slice GP ((qaH t0 U3).f2).length nP, .slice GO ((qaH t0 U3).f3).length TO]] zbX rfl rfl zao ?_
      with_reducible refine (qbK.calls ((qaH t0 U3).f0) _ _ ((qaH t0 U3).f1) _ _ ((qaH t0 U3).f2) _ _ ((qaH t0 U3).f3) BO UN YN t198 _ ?side1 ?side2 ?side3 ?side4 ?side5 ?side6 yh.o).mono ?_
      (case side1 => exact zad (Kd.qaO cN.o HB.o))
      (case side2 => exact gS.o)
      (case side3 => exact zad (Kd.qaO CN.o HB.o))
      (case side4 => exact uR.o)
      (case side5 => exact zad (Kd.qaO BM.o HB.o))
      (case side6 => exact AS.o)
      rintro e CG ⟨v193, v196, v199, rfl, ho0, ho1, ho2, hb⟩;refine ⟨_, rfl, ?_⟩;have H0 := z_ (Kd.qcx (Kd.qjk (Kd.qjk (Kd.qjk (Kd.S_old (zag L3.o) hb) (Kd.qb0 ho0)) (Kd.qb0 ho1)) (Kd.qb0 ho2)) (fun _ h_ => h_.1));have I0 := z_ (Kd.qa9 ho0 (qaC (zah V8.o aA.o nD.o)));have K0 := z_ (Kd.qa9 ho1 (qaC (zah V8.o aA.o nD.o)));have U0 := z_ (Kd.qa9 ho2 (qaC (zah V8.o aA.o nD.o)));have N5 := z_ (qap (g := Z8) (o := .cells #[.slice (some TC) t0.length O0] 25 (0, 0)) (zac S4.o) hb);have b9 := z_ (qap (g := k9) (o := .cells #[.slice none 0 0] 25 (0, 0)) (zac i6.o) hb);have WF := z_ (qap (g := N9) (o := .cells #[Q5] 25 (0, 0)) (zac k6.o) hb);have qK := z_ (qad (zah V8.o aA.o nD.o) hb);clear L3 S4 i6 k6 HB;have L3 := H0;have OM := I0;have xN := K0;have eM := U0;have S4 := N5;have i6 := b9;have k6 := WF;have HB := qK;clear H0 I0 K0 U0 N5 b9 WF qK
      (try clear hb)
      (try clear hb2)
      (try clear hk)
      (try clear hi)
      (try clear ho0)
      (try clear ho1)
      (try clear ho2)
      obtain ⟨EA, UA, MO⟩ := Kd.qbi OM.o
      (first | subst MO | (injection MO with GI jO CI; have UP := GI.symm; have dP := CI.symm; clear GI jO CI; subst UP; subst dP))
      obtain ⟨RZ, fa, yZ⟩ := Kd.qbi xN.o
      (first | subst yZ | (injection yZ with GI jO CI; have UP := GI.symm; have dP := CI.symm; clear GI jO CI; subst UP; subst dP))
      obtain ⟨na, fW, aQ⟩ := Kd.qbi eM.o
      (first | subst aQ | (injection aQ with GI jO CI; have UP := GI.symm; have dP := CI.symm; clear GI jO CI; subst UP; subst dP))
      refine hK.o _ _ ⟨(qac k6.o 0).trans rfl, (qac S4.o 0).trans rfl, ((HB.o.cell (World.block_lt_of_cell? w _ O8)).trans O8), ((HB.o.cell (World.block_lt_of_cell? w _ P8)).trans P8), ((HB.o.cell (World.block_lt_of_cell? w _ M8)).trans M8), ((HB.o.cell (World.block_lt_of_cell? w _ F8)).trans F8)⟩ (fun hHeld => ?_);clear hK K;refine qgt (a' := ?_) ?_ ?_;rotate_left
      ·show Act.put _ (some 21) _ = _
       simp only [Act.put, List.setIfInBounds_toArray, List.set_cons_zero, List.set_cons_succ, qbw, qbB];rfl
      refine one_ (i := 8) (N := some 22) #[true, true, true, true, true, true, true, true, true, false, false, false] rfl rfl (qdV l4.o zbS) zbT (fun K hK => ?_);refine qae (w1 := ?_) (v := ?_) zbX rfl ?_ ?_;rotate_left 2
      ·go_simp
       constructor
       ·rfl
       ·rfl
      refine hK.o _ _ ⟨(qac (qah k6.o _) 0).trans rfl, (qac (qah S4.o _) 0).trans rfl, (World.cell?_alloc_lt _ _ _ (World.block_lt_of_cell? _ _ (((HB.o.cell (World.block_lt_of_cell? w _ O8)).trans O8)))).trans (((HB.o.cell (World.block_lt_of_cell? w _ O8)).trans O8)), (World.cell?_alloc_lt _ _ _ (World.block_lt_of_cell? _ _ (((HB.o.cell (World.block_lt_of_cell? w _ P8)).trans P8)))).trans (((HB.o.cell (World.block_lt_of_cell? w _ P8)).trans P8)), (World.cell?_alloc_lt _ _ _ (World.block_lt_of_cell? _ _ (((HB.o.cell (World.block_lt_of_cell? w _ M8)).trans M8)))).trans (((HB.o.cell (World.block_lt_of_cell? w _ M8)).trans M8)), (World.cell?_alloc_lt _ _ _ (World.block_lt_of_cell? _ _ (((HB.o.cell (World.block_lt_of_cell? w _ F8)).trans F8)))).trans (((HB.o.cell (World.block_lt_of_cell? w _ F8)).trans F8))⟩ (fun hHeld => ?_);clear hK K;refine qgt (a' := ?_) ?_ ?_;rotate_left
      ·show Act.put _ (some 22) _ = _
       simp only [Act.put, List.setIfInBounds_toArray, List.set_cons_zero, List.set_cons_succ, qbw, qbB];rfl
      refine one_ (i := 9) (N := some 23) #[true, true, true, true, true, true, true, true, true, true, false, false] rfl rfl (qdV l4.o zbS) zbT (fun K hK => ?_);refine Kd.qgx k75 (w0 := w) w.heap.size zbX (.tmp 15) (.tmp 22) 23 75 (.agg #[(.bool false), (.slice none 0 0), (.slice none 0 0), (.slice none 0 0)]) 80 rfl Try.underlying23 info75 rfl zbT zbV Q5 t7 (⟨BO, UN, YN, t198⟩ : S75) [.bool BO, .slice EA UN.length UA, .slice RZ YN.length fa, .slice na t198.length fW] (fun _ => True) (fun k_ => some k_ = (.slice EA UN.length UA : Value).ownBlock ∨ some k_ = (.slice RZ YN.length fa : Value).ownBlock ∨ some k_ = (.slice na t198.length fW : Value).ownBlock) rfl rfl ?aP (fun k_ fY => fY.elim (fun h_ => ((Kd.qbb (ok' := fun k_ => ((fun _ => True)) k_ ∧ some k_ ≠ (Q5 : Value).ownBlock) (Kd.qec (OM.o) (Kd.qdN L3.o) zbT) (fun k_ hk => ⟨trivial, hk.2⟩))).1 k_ h_.symm) (fun h_ => h_.elim (fun h_ => ((Kd.qbb (ok' := fun k_ => ((fun _ => True)) k_ ∧ some k_ ≠ (Q5 : Value).ownBlock) (Kd.qec (xN.o) (Kd.qdN L3.o) zbT) (fun k_ hk => ⟨trivial, hk.2⟩))).1 k_ h_.symm) (fun h_ => ((Kd.qbb (ok' := fun k_ => ((fun _ => True)) k_ ∧ some k_ ≠ (Q5 : Value).ownBlock) (Kd.qec (eM.o) (Kd.qdN L3.o) zbT) (fun k_ hk => ⟨trivial, hk.2⟩))).1 k_ h_.symm))) ?aF ?aO ?aB ?aS ?aL ?_
      (case aP => exact qhQ _ _ _ (⟨BO, UN, YN, t198⟩ : S75) (Kd.qbb (Kd.qgw rfl (Kd.qbb (ok' := fun k_ => ((fun _ => True)) k_ ∧ some k_ ≠ (Q5 : Value).ownBlock) (Kd.qec (OM.o) (Kd.qdN L3.o) zbT) (fun k_ hk => ⟨trivial, hk.2⟩))) (fun _ h_ => Or.inl h_)) (Kd.qbb (Kd.qgw rfl (Kd.qbb (ok' := fun k_ => ((fun _ => True)) k_ ∧ some k_ ≠ (Q5 : Value).ownBlock) (Kd.qec (xN.o) (Kd.qdN L3.o) zbT) (fun k_ hk => ⟨trivial, hk.2⟩))) (fun _ h_ => Or.inr (Or.inl h_))) (Kd.qbb (Kd.qgw rfl (Kd.qbb (ok' := fun k_ => ((fun _ => True)) k_ ∧ some k_ ≠ (Q5 : Value).ownBlock) (Kd.qec (eM.o) (Kd.qdN L3.o) zbT) (fun k_ hk => ⟨trivial, hk.2⟩))) (fun _ h_ => Or.inr (Or.inr (h_)))))
      (case aB => exact (zah V8.o aA.o nD.o))
      (case aF => exact (fun _ _ => trivial))
      (case aO => exact (by (with_reducible repeat (first | apply Kd.qcO | apply Kd.qcP | apply Kd.qc9)); exact Kd.qcx L3.o (fun k_ hk => ⟨trivial, fun e_ => e_.elim (fun h_ => hk.1.1.2 h_) (fun h_ => h_.elim (fun h_ => hk.1.2 h_) (fun h_ => hk.2 h_))⟩)))
      (case aS => exact (qaC (zah V8.o aA.o nD.o)))
      (case aL => have := IP.o; omega)
      intro v202 uG ho hb hg hat;rw [← Ra.o] at ho;have H0 := z_ (qbd (g := Z8) (o := .cells #[.slice (some TC) t0.length O0] 25 (0, 0)) (zac S4.o) hg (Kd.S_ne L3.o S4.o zbT));have I0 := z_ (qbd (g := k9) (o := .cells #[.slice none 0 0] 25 (0, 0)) (zac i6.o) hg (Kd.S_ne L3.o i6.o zbT));have K0 := z_ (qbd (g := N9) (o := .cells #[Q5] 25 (0, 0)) (zac k6.o) hg (Kd.S_ne L3.o k6.o zbT));have U0 := z_ (hb);have N5 := z_ (ho);clear S4 i6 k6 HB L3 OM xN eM;have S4 := H0;have i6 := I0;have k6 := K0;have HB := U0;have FS := N5;clear H0 I0 K0 U0 N5 ho hb hg hat;obtain ⟨SG, zE, bO⟩ := Kd.qeT FS.o
      (first | subst bO | (injection bO with GI jO CI; have UP := GI.symm; have dP := CI.symm; clear GI jO CI; subst UP; subst dP))
      refine hK.o _ _ ⟨(qac k6.o 0).trans rfl, (qac S4.o 0).trans rfl, ((HB.o.cell (World.block_lt_of_cell? w _ O8)).trans O8), ((HB.o.cell (World.block_lt_of_cell? w _ P8)).trans P8), ((HB.o.cell (World.block_lt_of_cell? w _ M8)).trans M8), ((HB.o.cell (World.block_lt_of_cell? w _ F8)).trans F8)⟩ (fun hHeld => ?_);clear hK K;refine qgt (a' := ?_) ?_ ?_;rotate_left
      ·show Act.put _ (some 23) _ = _
       simp only [Act.put, List.setIfInBounds_toArray, List.set_cons_zero, List.set_cons_succ, qbw, qbB];rfl
      refine qcu (i := 10) (N := some 24) (v := ?_) (a' := ?_) #[true, true, true, true, true, true, true, true, true, true, true, false] rfl rfl (qbP l4.o zbS) (fun _ _ _ h => h) (Or.inl ⟨zbX, ?_⟩) ?_ ?_;rotate_left
      ·intro w';go_simp
       with_reducible rfl
      rotate_left
      ·simp only [Act.put, List.setIfInBounds_toArray, List.set_cons_zero, List.set_cons_succ, qbw, qbB];rfl
      refine last_ (i := 11) (N := none) #[true, true, true, true, true, true, true, true, true, true, true, true] rfl rfl (qdV l4.o zbS) zbT (fun K hK => ?_);have hs25 : uG.cell? ⟨N9, 0, none⟩ = some (Q5) := (qac k6.o 0).trans rfl;have hfs25 := qab k6.o 0;have Ld := D9.o;have eb := BA.o;have Hd := yC.o;have Qc := NF.o;refine qeR (w1 := ?_) zbX rfl ?_ ?_;rotate_left
      ·go_simp;rfl
      refine hK.o _ _ ?_;clear hK K;refine qjc (qfv l4.o zbS) ?_;try go_wp2
      go_roundg k1
      case measure => have := q7.o; omega
      case rel => exact ⟨(wrap64 (U3 + 1)), (VR), (.slice SG VR.length zE), zbs, H', ⟨zbK⟩, ⟨by (with_reducible repeat (first | apply Kd.qcO | apply Kd.qcP | apply Kd.qc9)); exact Kd.qcx (Kd.qeF (p := ⟨N9, 0, none⟩) (Kd.qdx FS.o k6.o zbT) (fun _ hk => hk.2) (.slice SG VR.length zE)) (fun _ hk => trivial)⟩, ⟨by (with_reducible repeat (first | refine qaj ?_ _ | refine qai ?_ | refine qah ?_ _)); refine qbF ?_ D9.o _; (with_reducible repeat (first | refine qaj ?_ _ | refine qai ?_ | refine qah ?_ _)); exact S4.o⟩, ⟨by (with_reducible repeat (first | refine qaj ?_ _ | refine qai ?_ | refine qah ?_ _)); refine qbF ?_ BA.o _; (with_reducible repeat (first | refine qaj ?_ _ | refine qai ?_ | refine qah ?_ _)); exact i6.o⟩, ⟨by (with_reducible repeat (first | refine qaj ?_ _ | refine qai ?_ | refine qah ?_ _)); refine qbm (cs := #[Q5]) ?_ 0 _ rfl; (with_reducible repeat (first | refine qaj ?_ _ | refine qai ?_ | refine qah ?_ _)); exact k6.o⟩, ⟨zah V8.o aA.o nD.o⟩⟩
     ·rw [if_neg c14] at H;exact absurd H zbW
    ·rw [if_neg c12] at H;exact absurd H zbW
   ·rw [if_neg c11] at H;have CE : decide (U3 < (t0.length : Int)) = false := decide_eq_false c11;clear c11;obtain rfl := Option.some.inj H;have hnb26 := JH.o;have hnc26 := MH.o;have hnb27 := D9.o;have hnc27 := yC.o;have VA : wr.cell? ⟨Z8, 0, none⟩ = some (.slice P0 t0.length O0) := (qac S4.o 0).trans rfl;have KA := qab S4.o 0;have hnb29 := NF.o;have hnc29 := BA.o;have BQ : wr.cell? ⟨N9, 0, none⟩ = some (Q5) := (qac k6.o 0).trans rfl;have QQ := qab k6.o 0;obtain ⟨YH, sI, eQ⟩ := Kd.qeT L3.o;subst eQ;have rc : wr.cell? ⟨k9, 0, none⟩ = some (.slice none 0 0) := (qac i6.o 0).trans rfl;have Dc := qab i6.o 0
    go_wp2
    refine bodyPost_ret (results_cell_row rfl _ _ k9 25 #[.slice YH t7.length sI] (0, 0) _ rfl (by (with_reducible repeat (first | refine qaj ?_ _ | refine qai ?_ | refine qah ?_ _)); refine qbm (cs := #[.slice none 0 0]) ?_ 0 _ rfl; (with_reducible repeat (first | refine qaj ?_ _ | refine qai ?_ | refine qah ?_ _)); exact i6.o) Try.underlying25 rfl zbS) rfl ?_;exact ⟨_, zaF, by (with_reducible repeat (first | apply Kd.qcO | apply Kd.qcP | apply Kd.qc9)); exact Kd.qcx (Kd.qeF (p := ⟨k9, 0, none⟩) (Kd.qdx L3.o i6.o zbT) (fun _ hk => hk.2) (.slice YH t7.length sI)) (fun _ hk => trivial), zah V8.o aA.o nD.o⟩
def TinyN (ns : List S75) : Prop := ∀ x, x ∈ ns → x.f1.length ≤ 1000 ∧ x.f2.length ≤ 1000 ∧ x.f3.length ≤ 1000
theorem qdH {ns : List S75} (h : TinyN ns) : qcv ns = true := by
 unfold qcv;rw [List.all_eq_true];intro x hx;have := h x hx;exact decide_eq_true zbV
theorem own_loop (l : List S75) (hl : l.length ≤ 1000) (ht : TinyN l) : ∀ (d i k : Nat), i + d = l.length → d < k → qa1.l0 k (i : Int) l (l.take i) = some l := by
 intro d
 induction d with
 | zero =>
  intro i k hi hk;obtain ⟨k, rfl⟩ : ∃ j, k = j + 1 := ⟨k - 1, zbV⟩
  simp only [qa1.l0];rw [if_neg zbV, List.take_of_length_le zbV]
 | succ d ih =>
  intro i k hi hk;obtain ⟨k, rfl⟩ : ∃ j, k = j + 1 := ⟨k - 1, zbV⟩
  have hlt : i < l.length := zbV;have hrd : qaH l (i : Int) = l[i] := by
   unfold qaH;rw [Int.toNat_natCast];simp [List.getD_eq_getElem?_getD, hlt]
  have hw : wrap64 ((i : Int) + 1) = ((i + 1 : Nat) : Int) := zbO;have h1 := ht l[i] (List.getElem_mem hlt);have h2 := ih (i + 1) k zbV zbV;rw [List.take_succ_eq_append_getElem hlt] at h2;simp only [qa1.l0];rw [if_pos zbV, if_pos zbV, hrd, qeh l[i] zbV, Option.bind_some, if_pos zbG, hw];exact h2
theorem own_is (l : List S75) (hl : l.length ≤ 1000) (ht : TinyN l) : qa1.f (l.length + 1) l = some l := own_loop l hl ht l.length 0 (l.length + 1) zbV zbV
theorem tiny_set {ns : List S75} {i : Nat} {x : S75} (h : TinyN ns) (hx : x.f1.length ≤ 1000 ∧ x.f2.length ≤ 1000 ∧ x.f3.length ≤ 1000) : TinyN (ns.set i x) := fun y hy => by
 rcases List.mem_or_eq_of_mem_set hy with hy | hy
 ·exact h y hy
 ·rw [hy]; exact hx
theorem qhx {ns : List S75} (h : TinyN ns) (i : Nat) : (ns.getD i z75).f1.length ≤ 1000 ∧ (ns.getD i z75).f2.length ≤ 1000 ∧ (ns.getD i z75).f3.length ≤ 1000 := by
 rw [List.getD_eq_getElem?_getD]
 cases e : ns[i]? with
 | none => simp only [Option.getD_none]; decide
 | some x => exact h x (List.mem_of_getElem? e)
theorem qfL {ns : List S75} {keep : List Bool} (h : TinyN ns) : TinyN (onlyN ns keep) := fun x hx => by
 obtain ⟨i, _, rfl⟩ := List.mem_map.1 hx
 split
 ·exact qhx h i
 ·decide
theorem tiny_lay {x : S75} {b : List S75 × List Bool × Bool} (h : TinyN b.1) (hx : x.f1.length ≤ 1000 ∧ x.f2.length ≤ 1000 ∧ x.f3.length ≤ 1000) : TinyN (layB x b).2.1 := by
 unfold layB
 split
 ·exact tiny_set h hx
 ·exact h
theorem qiy {α : Type} {f : List α → ByteArray × S75} : ∀ (cs : List (List α)) (b : List S75 × List Bool × Bool), (∀ c, c ∈ cs → (f c).2.f1.length ≤ 1000 ∧ (f c).2.f2.length ≤ 1000 ∧ (f c).2.f3.length ≤ 1000) → TinyN b.1 → TinyN (layAll f cs b).2.1 := by
 intro cs
 induction cs with
 | nil => intro b _ h; exact h
 | cons c cs ih => intro b hc h; exact ih _ (fun c' hc' => hc c' (List.mem_cons_of_mem _ hc')) (tiny_lay h (hc c (List.mem_cons_self ..)))
theorem qfM {α : Type} {most : Nat} {l c : List α} (hm : most ≤ 1000) (hl : l.length ≤ 1900) (h : c ∈ qcl most l) : c.length ≤ 1000 := by
 unfold qcl at h
 split at h
 ·simp only [List.mem_cons, List.not_mem_nil, or_false] at h
  rcases h with rfl | rfl
  ·rw [List.length_take]; omega
  ·rw [List.length_drop]; omega
 ·split at h
  ·cases h
  ·simp only [List.mem_cons, List.not_mem_nil, or_false] at h;rw [h];omega
theorem qey {l : List S77} {b : List S75 × List Bool × Bool} (hl : l.length ≤ 1900) (h : TinyN b.1) : TinyN (qb6 l b).2.1 := by
 unfold qb6;refine qiy _ _ (fun c hc => ?_) h;have := qfM zbV hl hc;unfold leafF;simp;omega
theorem qfN {l : List (ByteArray × Nat)} {b : List S75 × List Bool × Bool} (hl : l.length ≤ 1900) (h : TinyN b.1) : TinyN (qcp l b).2.1 := by
 unfold qcp;refine qiy _ _ (fun c hc => ?_) h;have := qfM zbV hl hc;unfold qaN;simp;omega
theorem qjN (x : S75) : (partsOf x).length ≤ x.f3.length := by
 unfold partsOf;rw [List.length_zip, List.length_map];omega
theorem qfO {dop : List S77 → List S77} {key : ByteArray} (hd : ∀ l, (dop l).length ≤ l.length + 1) : ∀ (n k : Nat) (b : List S75 × List Bool × Bool), TinyN b.1 → TinyN (qbx dop key n k b).2.1 := by
 intro n
 induction n with
 | zero => intro k b h; exact h
 | succ n ih =>
  intro k b h;have hx := qhx h k;unfold qbx
  split
  ·exact qey (by have := hd (b.1.getD k z75).f1; omega) h
  ·refine qfN ?_ (ih _ _ h);have h1 := qdo dop key n ((partsOf (b.1.getD k z75)).getD (qcm (b.1.getD k z75).f2 key) (ByteArray.empty, 0)).2 b;have h2 := qjN (b.1.getD k z75);rw [List.length_append, List.length_append, List.length_take, List.length_drop];omega
theorem qhy {p : List (ByteArray × Nat) × List S75 × List Bool × Bool} (hp : p.1.length ≤ 2) (h : TinyN p.2.1) : TinyN (topsB p).2.1 := by
 unfold topsB
 split
 ·exact qfN zbV h
 ·exact h
structure CgAt (w wr : World) (g gn cn gu cu gh gr : Nat) (H : Value) (b : List S75 × List Bool × Bool) : Prop where
 below : Below w.heap.size w wr
 bs : BsAt w wr g gn cn gu cu b
 boxh : wr.heap[gh]? = some (.cells #[H] 25 (0, 0))
 boxr : wr.heap[gr]? = some (.cells #[.slice none 0 0] 25 (0, 0))
 ge : w.heap.size ≤ gr
theorem CgAt.qbE {w wr w1 : World} {g gn cn gu cu gh gr : Nat} {H : Value} {b : List S75 × List Bool × Bool} (h : CgAt w wr g gn cn gu cu gh gr H b) (hb : Below wr.heap.size wr w1) : CgAt w w1 g gn cn gu cu gh gr H b := ⟨qad h.below hb, h.bs.below hb, qap h.boxh hb, qap h.boxr hb, h.ge⟩
theorem CgAt.call {w wr w1 : World} {g gn cn gu cu gh gr : Nat} {H : Value} {b c : List S75 × List Bool × Bool} (h : CgAt w wr g gn cn gu cu gh gr H b) (hb : BsAt w w1 g gn cn gu cu c) (hw : Below w.heap.size w w1) (hk : Kept wr w1 (S3 g gn gu)) : CgAt w w1 g gn cn gu cu gh gr H c :=
 ⟨hw, hb, (hk.2 gh (qbH h.boxh) (h.bs.other h.boxh zbT zbT zbT)).trans h.boxh, (hk.2 gr (qbH h.boxr) (h.bs.other h.boxr zbT zbT zbT)).trans h.boxr, h.ge⟩
theorem CgAt.store {w wd w' : World} {g gn cn gu cu gh gr i : Nat} {H v1 v2 v3 : Value} {ms : List S75} {us : List Bool} {f : Bool} (h : CgAt w wd g gn cn gu cu gh gr H (ms, us, f)) (hb : Below wd.heap.size wd w') (hi : i < ms.length) (x : S75) (r1 : Kd.R k77 77 w' wd.heap.size (fun _ => True) v1 x.f1) (r2 : Kd.R Kd.string 9 w' wd.heap.size (fun _ => True) v2 x.f2) (r3 : Kd.R (Kd.int .i64) 3 w' wd.heap.size (fun _ => True) v3 x.f3) (o : v1.oneCell' = true ∧ v2.oneCell' = true ∧ v3.oneCell' = true) :
  CgAt w (set4 w' gn (i * 4) (.bool x.f0) v1 v2 v3) g gn cn gu cu gh gr H (ms.set i x, us, f) := by
 have h' := h.qbE hb;obtain ⟨ap1, ap2, ap3⟩ := h'.bs.apart;obtain ⟨y, hy⟩ := h'.bs.tn;have hS0 : Kd.S k75 75 wd w.heap.size (fun k => k < wd.heap.size) (.slice (some ⟨gn, 0, none⟩) ms.length cn) ms := Kd.qcx (Kd.qet h.bs.nodes) (fun k hk => hk.2.2.1);have hS := S_put (Kd.qck hS0 hb) hi x r1 r2 r3 h.below.size o;refine ⟨qiq h'.below (Kd.qih h.bs.nodes gn (qcS _ _ _)) _ _ _ _, ⟨h.bs.ge, ?_, ?_, ?_⟩, qfk h'.boxh (qc7 h'.boxh hy zbT) _ _ _ _, qfk h'.boxr (qc7 h'.boxr hy zbT) _ _ _ _, h.ge⟩
 ·simp only [List.length_set];exact qfk h'.bs.blk ap1 _ _ _ _
 ·simp only [List.length_set];exact hS
 ·exact Kd.qbb (qhm (Kd.qbu h'.bs.used hy ne_tB) (fun k hk => hk.2) _ _ _ _) (fun _ _ => trivial)
def slLen : Value → Nat
 | .slice _ n _ => n
 | _ => 0
theorem qiz {p : List (ByteArray × Nat) × List S75 × List Bool × Bool} (hp : p.1.length ≤ 2) : (topsB p).1.length ≤ 1 := by
 unfold topsB
 split
 ·unfold qcp;rw [qcr];exact (qcs 4 p.1).2 zbV
 ·omega
theorem PD_mem {T : Nat → List S77 → List Nat → Prop} : ∀ (ms : List (ByteArray × Nat)) (ps : List S77) (pg : List Nat), PD T ms ps pg → ∀ m, m ∈ ms → ∃ p g, T m.2 p g := by
 intro ms
 induction ms with
 | nil => intro ps pg _ m hm; cases hm
 | cons a r ih =>
  intro ps pg h m hm;obtain ⟨p1, p2, g1, g2, rfl, rfl, h1, _, h3⟩ := h
  rcases List.mem_cons.1 hm with rfl | hm
  ·exact ⟨p1, g1, h1⟩
  ·exact ih _ _ h3 m hm
theorem qd8 {dop : List S77 → List S77} {key : ByteArray} {b : List S75 × List Bool × Bool} : ∀ (d k : Nat) (ps : List S77) (pg : List Nat), TrD b.1 d k ps pg → ∀ n, d ≤ n → qbx dop key n k b = qbx dop key d k b := by
 intro d
 induction d with
 | zero => intro k ps pg h; exact h.elim
 | succ d ih =>
  intro k ps pg h n hn;obtain ⟨x, hx, hb, hf, h⟩ := h;have hget : b.1.getD k z75 = x := by rw [List.getD_eq_getElem?_getD, hx]; rfl
  obtain ⟨m, rfl⟩ : ∃ m, n = m + 1 := ⟨n - 1, zbV⟩
  unfold qbx;rw [hget]
  rcases h with ⟨hl, _⟩ | ⟨hl, pg', rfl, hp⟩
  ·rw [if_pos hl, if_pos hl]
  ·rw [if_neg (by rw [hl]; decide), if_neg (by rw [hl]; decide)];obtain ⟨e3, e2, elen, _⟩ := qcB hb hf hl;obtain ⟨_, k1, _, klen, _⟩ := qcz hb hf hl;have hat := qfJ (ls := x.f2) key zbV;have fO : qcm x.f2 key < (partsOf x).length := zbV;have hgd : (partsOf x).getD (qcm x.f2 key) (ByteArray.empty, 0) = (partsOf x)[qcm x.f2 key] := by rw [List.getD_eq_getElem?_getD, List.getElem?_eq_getElem fO]; rfl
   rw [hgd];obtain ⟨p, g, t⟩ := PD_mem _ _ _ hp _ (List.getElem_mem fO);rw [ih _ p g t m zbV]
theorem qeK (p : List (ByteArray × Nat) × List S75 × List Bool × Bool) : BG p.2 (topsB p).2 := by
 unfold topsB
 split
 ·exact qdb _ _ _
 ·exact BG.refl _
theorem qgI {p : List (ByteArray × Nat) × List S75 × List Bool × Bool} {d : Nat} {ps : List S77} {pg : List Nat} (hl1 : p.2.1.length = 50) (hl2 : p.2.2.1.length = 50) (h : PD (TrD p.2.1 d) p.1 ps pg) (hn : pg.Nodup) (hu : ∀ i, i ∈ pg → qbj p.2.2.1 i) (hp : p.1.length ≤ 2) (hf : Fine ps) (hnf : (topsB p).2.2.2 = false) :
  ∃ e pg', e ≤ d + 1 ∧ (p.1.length ≤ 1 → e = d) ∧ (topsB p).1.length ≤ 1 ∧ PD (TrD (topsB p).2.1 e) (topsB p).1 ps pg' ∧ pg'.Nodup := by
 unfold topsB at hnf ⊢
 by_cases hc : 1 < p.1.length
 ·rw [if_pos hc] at hnf ⊢;unfold qcp at hnf ⊢;obtain ⟨pg', t, nd, _, _⟩ := qd5 qaN d (qcl 4 p.1) p.2 ps pg zbV (qeJ h hf hl1 zbV) hn hu hnf;exact ⟨d + 1, pg', Nat.le_refl _, fun h => absurd h zbV, by rw [qcr]; exact (qcs 4 _).2 zbV, t, nd⟩
 ·rw [if_neg hc] at hnf ⊢;exact ⟨d, pg, zbV, fun _ => rfl, zbV, h, hn⟩
theorem qdS {a b : List Bool} {i : Nat} (hi : i < 50) : qbj (orW a b) i ↔ qbj a i ∨ qbj b i := by
 have := qdv a b 50 i hi;rw [qc8, qc8, qc8, decide_eq_true hi, Bool.true_and] at this;unfold qbj orW;rw [this, Bool.or_eq_true]
theorem qjO {a : List Bool} {i : Nat} (h : qbj a i) : i < a.length := by
 rcases Nat.lt_or_ge i a.length with h1 | h1
 ·exact h1
 ·unfold qbj at h;rw [List.getD_eq_getElem?_getD, List.getElem?_eq_none h1] at h
  cases h
theorem qiS {h : List S75} {root : Int} {keep : List Bool} {dop : List S77 → List S77} {key : ByteArray} {one : List S77} {d : Nat} {ps : List S77} {pg : List Nat} (hl : h.length = 50) (hk : keep.length = 50) (ht : qcW h d root ps pg) (hu : ∀ i, i ∈ pg → qbj keep i) (hf : Fine ps) (hop : LocalOp dop key) (h1 : one = dop [] ∧ one.length ≤ 3) (hd : 1 ≤ d ∧ d ≤ 20 ∨ d = 21 ∧ (∀ l, (dop l).length ≤ l.length)) (hlen : (dop ps).length ≤ 60) (hr : (qbC h root keep dop key one).2.2 = true) :
  ∃ e pg', e ≤ 21 ∧ e ≤ d + 1 ∧ qcW (qbC h root keep dop key one).1 e (qbC h root keep dop key one).2.1 (dop ps) pg' ∧ walkR (qbC h root keep dop key one).1 (qbC h root keep dop key one).2.1 = (dop ps, markL noneW pg', true) ∧ (qbC h root keep dop key one).1.length = 50 ∧ (∀ i, qbj keep i → (qbC h root keep dop key one).1[i]? = h[i]?) ∧ Fine (dop ps) ∧ walkR (qbX h root keep dop key one).2.1 (rootOf (qbX h root keep dop key one)) = (dop ps, markL noneW pg', true) := by
 have hfd := hop.fine ps hf;have hnf : (qbX h root keep dop key one).2.2.2 = false := by
  unfold qbC at hr
  cases e : (qbX h root keep dop key one).2.2.2 with
  | false => rfl
  | true => rw [if_pos e] at hr; cases hr
 have hres : qbC h root keep dop key one = (onlyN (qbX h root keep dop key one).2.1 (orW keep (walkR (qbX h root keep dop key one).2.1 (rootOf (qbX h root keep dop key one))).2.1), rootOf (qbX h root keep dop key one), true) := by
  unfold qbC;rw [if_neg (by rw [hnf]; decide)]
 rw [hres];simp only;have hbuilt : ∃ e pg', e ≤ 21 ∧ e ≤ d + 1 ∧ (qbX h root keep dop key one).1.length ≤ 1 ∧ PD (TrD (qbX h root keep dop key one).2.1 e) (qbX h root keep dop key one).1 (dop ps) pg' ∧ pg'.Nodup ∧ BG (onlyN h keep, keep, false) (qbX h root keep dop key one).2 := by
  unfold qbX at hnf ⊢;have hb0 : ∀ (a b : Nat), a = 50 → b = 50 → a = b := fun _ _ x y => zbV
  rcases ht with ⟨hr1, rfl, rfl⟩ | ⟨k, hr1, ht, hn⟩
  ·rw [if_pos hr1] at hnf ⊢;have hbg := qdb leafF (qcl 3 one) (onlyN h keep, keep, false);have htb := qeK (qb6 one (onlyN h keep, keep, false));have hf1 := htb.qeZ hnf;unfold qb6 at hf1 hnf htb ⊢;have hone : Fine one := by rw [h1.1]; exact hfd
   obtain ⟨Fb, t, nd, us, _⟩ := qd5 leafF 0 (qcl 3 one) (onlyN h keep, keep, false) one [] (by simp only; rw [qcT]; exact hk.symm) (qdR hone zbV _ 0) List.nodup_nil (fun i hi => by cases hi) hf1;have hl1 : (layAll leafF (qcl 3 one) (onlyN h keep, keep, false)).1.length ≤ 1 := by rw [qcr]; exact (qcs 3 _).2 h1.2
   obtain ⟨e, pg', e1, e2, e3, t2, n2⟩ := qgI zbB (by rw [hbg.lenu]; exact hk) t nd us zbV hone hnf;refine ⟨e, pg', by have := e2 hl1; omega, by have := e2 hl1; omega, e3, ?_, n2, hbg.trans htb⟩;rw [← h1.1];exact t2
  ·rw [if_neg zbV] at hnf ⊢;rw [hr1, Int.toNat_natCast] at hnf ⊢;have ht' : TrD (onlyN h keep, keep, false).1 d k ps pg := qdD _ _ _ _ (fun i hi => qdG hl (hu i hi) hk) ht;rw [qd8 (b := (onlyN h keep, keep, false)) d k ps pg ht' 21 zbV] at hnf ⊢;have hbg := qdF dop key d k (onlyN h keep, keep, false);have htb := qeK (qbx dop key d k (onlyN h keep, keep, false));have hf1 := htb.qeZ hnf;obtain ⟨⟨l2, l1⟩, Fb, t, nd, us, _⟩ := qgj hop d k (onlyN h keep, keep, false) ps pg (qcT _ _) hk ht' hn hu hf hf1;obtain ⟨e, pg', e1, e2, e3, t2, n2⟩ := qgI zbB (by rw [hbg.lenu]; exact hk) t nd us l2 hfd hnf;refine ⟨e, pg', ?_, e1, e3, t2, n2, hbg.trans htb⟩
   rcases hd with hd | hd
   ·omega
   ·have := e2 (l1 hd.2); omega
 obtain ⟨e, pg', e21, ed, el, t, nd, hbg⟩ := hbuilt;generalize hq : qbX h root keep dop key one = q at *;have hql : q.2.1.length = 50 := zbB;have htree : ∃ SP, qcW q.2.1 e (rootOf q) (dop ps) SP := by
  unfold rootOf
  match hp : q.1 with
  | [] =>
   rw [hp] at t;exact ⟨[], .inl ⟨rfl, t.1, rfl⟩⟩
  | m :: r =>
   have hr0 : r = [] := by
    rw [hp, List.length_cons] at el;exact List.eq_nil_of_length_eq_zero zbV
   rw [hp, hr0] at t;obtain ⟨t1, _⟩ := PD_one.1 t;obtain ⟨g, t2, n2, _⟩ := qh3 22 e m.2 (dop ps) pg' t1 nd;exact ⟨g, .inr ⟨_, rfl, t2, n2⟩⟩
 obtain ⟨SP, ht2⟩ := htree;have hw := qej hql e21 ht2 hfd hlen;rw [hw];simp only;have hlt : ∀ i, i ∈ SP → i < 50 := fun i hi => by
  rcases ht2 with ⟨_, _, rfl⟩ | ⟨k, _, ht3, _⟩
  ·cases hi
  ·rw [← hql]; exact qeI _ _ _ _ ht3 i hi
 have hsame : ∀ i, i ∈ SP → (onlyN q.2.1 (orW keep (markL noneW SP)))[i]? = q.2.1[i]? := fun i hi => by
  refine qdG hql ((qdS (hlt i hi)).2 (.inr ?_)) (by unfold orW; exact qch _ _ _);have := qdE SP noneW i (by unfold noneW; rw [List.length_replicate]; exact hlt i hi);unfold qbj;rw [List.getD_eq_getElem?_getD, this];simp [hi]
 have ht4 := qfb ht2 hsame;refine ⟨e, SP, e21, ed, ht4, qej (qcT _ _) e21 ht4 hfd hlen, qcT _ _, fun i hi => ?_, hfd, rfl⟩;have Je : i < 50 := by rw [← hk]; exact qjO hi
 rw [qdG hql ((qdS Je).2 (.inl hi)) (by unfold orW; exact qch _ _ _), (hbg.stay i hi).2];exact qdG hl hi hk
end Go.Proofs.Ytcdokcpiahbejaa.X
