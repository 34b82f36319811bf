import Derived.Test.YtgcncphdjabjjaaKFnExactApplyDiff3
import Derived.Test.YtgcncphdjabjjaaKFnExactApplyDiff10
import Derived.Test.YtgcncphdjabjjaaKFnExactApplyDiff11
import Derived.Test.YtgcncphdjabjjaaKFnExactApplyDiff12
import Derived.Test.YtgcncphdjabjjaaKFnExactApplyDiff13
import Derived.LoopTactic
import Derived.BigQuiet
namespace Go.Proofs.Ytgcncphdjabjjaa.X
open Go.RowKit Go.Proofs.YtgcncphdjabjjaaW.PrintWords Go.Proofs.YtgcncphdjabjjaaW.PrintLast Go.Proofs.YtgcncphdjabjjaaW.PrintMore
attribute [local go_sem] xbin_geq xbin_leq xbin_gtr max2_int min2_int max_two min_two max_three min_three max_four min_four
set_option linter.unusedVariables false
set_option linter.unusedSimpArgs false
def Rises (l : List S76) : Prop := l.Pairwise fun a b => Op.bytesLess a.f0.toList b.f0.toList = true
instance risesDec (l : List S76) : Decidable (Rises l) := by unfold Rises; infer_instance
theorem rises_lt {l : List S76} (h : Rises l) {i j : Nat} (hj : j < l.length) (hij : i < j) : Op.bytesLess (l[i]'(by omega)).f0.toList l[j].f0.toList = true := (List.pairwise_iff_getElem.1 h) i j (by omega) hj hij
def okP (p : S76) : Bool := keyB p.f0 && decide (p.f1.size ≤ 90)
def chainB : Option S76 → List S76 → Bool
  | _, [] => true
  | none, p :: r => okP p && chainB (some p) r
  | some q, p :: r => okP p && (Op.bytesLess q.f0.toList p.f0.toList && chainB (some p) r)
def pairsB (l : List S76) : Bool := decide (l.length ≤ 60) && chainB none l
theorem chainB_rises (l : List S76) : ∀ q, chainB (some q) l = true → (∀ p ∈ l, okP p = true) ∧ (q :: l).Pairwise fun a b => Op.bytesLess a.f0.toList b.f0.toList = true := by
  induction l with
  | nil => intro q _; exact ⟨fun p hp => (by cases hp), List.pairwise_singleton _ _⟩
  | cons p r ih =>
    intro q h
    simp only [chainB, Bool.and_eq_true] at h
    obtain ⟨h1, h2, h3⟩ := h
    obtain ⟨i1, i2⟩ := ih p h3
    refine ⟨fun x hx => ?_, List.pairwise_cons.2 ⟨fun x hx => ?_, i2⟩⟩
    · rcases List.mem_cons.1 hx with rfl | hx
      · exact h1
      · exact i1 x hx
    · rcases List.mem_cons.1 hx with rfl | hx
      · exact h2
      · exact bless_trans h2 ((List.pairwise_cons.1 i2).1 x hx)
theorem chainB_none {l : List S76} (h : chainB none l = true) : (∀ p ∈ l, okP p = true) ∧ Rises l := by
  cases l with
  | nil => exact ⟨fun p hp => (by cases hp), List.Pairwise.nil⟩
  | cons p r =>
    simp only [chainB, Bool.and_eq_true] at h
    obtain ⟨i1, i2⟩ := chainB_rises r p h.2
    refine ⟨fun x hx => ?_, i2⟩
    rcases List.mem_cons.1 hx with rfl | hx
    · exact h.1
    · exact i1 x hx
theorem chainB_of (l : List S76) : ∀ q, (∀ p ∈ l, okP p = true) → ((q :: l).Pairwise fun a b => Op.bytesLess a.f0.toList b.f0.toList = true) → chainB (some q) l = true := by
  induction l with
  | nil => intro q _ _; rfl
  | cons p r ih =>
    intro q h1 h2
    simp only [chainB, Bool.and_eq_true]
    exact ⟨h1 p List.mem_cons_self, (List.pairwise_cons.1 h2).1 p List.mem_cons_self, ih p (fun x hx => h1 x (List.mem_cons_of_mem _ hx)) (List.pairwise_cons.1 h2).2⟩
theorem chainB_none_of {l : List S76} (h1 : ∀ p ∈ l, okP p = true) (h2 : Rises l) : chainB none l = true := by
  cases l with
  | nil => rfl
  | cons p r =>
    simp only [chainB, Bool.and_eq_true]
    exact ⟨h1 p List.mem_cons_self, chainB_of r p (fun x hx => h1 x (List.mem_cons_of_mem _ hx)) h2⟩
theorem pairsB_is {l : List S76} : pairsB l = true ↔ l.length ≤ 60 ∧ (∀ p ∈ l, okP p = true) ∧ Rises l := by
  unfold pairsB
  rw [Bool.and_eq_true, decide_eq_true_eq]
  exact ⟨fun h => ⟨h.1, chainB_none h.2⟩, fun h => ⟨h.1, chainB_none_of h.2.1 h.2.2⟩⟩
theorem rd_at (l : List S76) (pre rest : List S76) (x : S76) (h : l = pre ++ x :: rest) : rd_T76 l ((pre.length : Nat) : Int) = x := by
  subst h
  simp [rd_T76, List.getD_eq_getElem?_getD]
theorem spec_pair (p : S76) : spec_l01Pair.f p.f0 p.f1 = some (okP p) := by
  unfold spec_l01Pair.f okP
  have e : ((p.f1.size : Int) ≤ 90) = (p.f1.size ≤ 90) := propext (by omega)
  rw [spec_key, Option.bind_some]
  cases keyB p.f0 <;> simp [e]
theorem impl_pair (p : S76) : impl_pairOK.f p.f0 p.f1 = some (okP p) := by
  unfold impl_pairOK.f okP
  have e : ((p.f1.size : Int) ≤ 90) = (p.f1.size ≤ 90) := propext (by omega)
  rw [impl_key, Option.bind_some]
  cases keyB p.f0 <;> simp [e]
theorem spec_rise_more (l : List S76) (hl : l.length ≤ 60) (rest : List S76) : ∀ (pre : List S76) (q : S76), l = (pre ++ [q]) ++ rest →
    Ev (fun k => spec_PairsOK.l0 k l (((pre ++ [q]).length : Nat) : Int)) (chainB (some q) rest) := by
  induction rest with
  | nil =>
    intro pre q h
    refine Ev.succ ?_
    simp only [spec_PairsOK.l0]
    exact Ev.neg (by rw [h]; simp) (Ev.is rfl)
  | cons p r ih =>
    intro pre q h
    have hx := rd_at l (pre ++ [q]) r p h
    have hq := rd_at l pre (p :: r) q (by rw [h]; simp)
    have hlen : (pre ++ [q]).length < l.length := by rw [h]; simp
    have hw := wrap_at (n := (pre ++ [q]).length) (by omega)
    have hp : wrap64 ((((pre ++ [q]).length : Nat) : Int) - 1) = ((pre.length : Nat) : Int) := by rw [← len_snoc]; exact wrap_pred (by simp at hlen <;> omega)
    have hi := ih (pre ++ [q]) p (by rw [h]; simp)
    rw [← len_snoc] at hi
    refine Ev.succ ?_
    simp only [spec_PairsOK.l0, hx, hp, hq, hw]
    refine Ev.pos (by omega) (Ev.pos (by omega) (Ev.bindk (spec_pair p) ?_))
    cases ho : okP p with
    | false => exact Ev.neg (by simp) (Ev.is (by simp [chainB, ho]))
    | true =>
      refine Ev.pos rfl (Ev.pos (by simp <;> omega) (Ev.pos (by omega) (Ev.pos (by simp at hlen <;> omega) ?_)))
      cases hb : Op.bytesLess q.f0.toList p.f0.toList with
      | false => exact Ev.neg (by simp) (Ev.is (by simp [chainB, ho, hb]))
      | true => exact Ev.pos rfl (Ev.same hi (by simp [chainB, ho, hb]))
theorem spec_rise (l : List S76) (hl : l.length ≤ 60) : Ev (fun k => spec_PairsOK.l0 k l 0) (chainB none l) := by
  cases l with
  | nil =>
    refine Ev.succ ?_
    simp only [spec_PairsOK.l0]
    exact Ev.neg (by simp) (Ev.is rfl)
  | cons p r =>
    have hx := rd_at (p :: r) [] r p rfl
    simp only [List.length_nil, Int.natCast_zero] at hx
    have hi := spec_rise_more (p :: r) hl r [] p rfl
    refine Ev.succ ?_
    simp only [spec_PairsOK.l0, hx]
    refine Ev.pos (by simp <;> omega) (Ev.pos (by omega) (Ev.bindk (spec_pair p) ?_))
    cases ho : okP p with
    | false => exact Ev.neg (by simp) (Ev.is (by simp [chainB, ho]))
    | true =>
      have e0 : ((([] ++ [p] : List S76).length : Nat) : Int) = wrap64 (0 + 1) := by unfold wrap64; simp
      rw [e0] at hi
      exact Ev.pos rfl (Ev.neg (by omega) (Ev.same hi (by simp [chainB, ho])))
theorem spec_pairsOK (l : List S76) : Ev (fun k => spec_PairsOK.f k l) (pairsB l) := by
  unfold spec_PairsOK.f pairsB
  by_cases h1 : (l.length : Int) > 4096
  · exact Ev.pos h1 (Ev.is (by simp [show ¬ l.length ≤ 60 by omega]))
  · by_cases h2 : (l.length : Int) > 60
    · exact Ev.neg h1 (Ev.pos h2 (Ev.is (by simp [show ¬ l.length ≤ 60 by omega])))
    · exact Ev.neg h1 (Ev.neg h2 (Ev.same (spec_rise l (by omega)) (by simp [show l.length ≤ 60 by omega])))
theorem impl_rise_more (l : List S76) (hl : l.length < 9223372036854775807) (rest : List S76) : ∀ (pre : List S76) (q : S76), l = (pre ++ [q]) ++ rest →
    Ev (fun k => impl_risingPairs.l0 k l l (l.length : Int) (((pre ++ [q]).length : Nat) : Int)) (chainB (some q) rest) := by
  induction rest with
  | nil =>
    intro pre q h
    refine Ev.succ ?_
    simp only [impl_risingPairs.l0]
    exact Ev.neg (by rw [h]; simp) (Ev.is rfl)
  | cons p r ih =>
    intro pre q h
    have hx := rd_at l (pre ++ [q]) r p h
    have hq := rd_at l pre (p :: r) q (by rw [h]; simp)
    have hlen : (pre ++ [q]).length < l.length := by rw [h]; simp
    have hw := wrap_at (n := (pre ++ [q]).length) (by omega)
    have hp : wrap64 ((((pre ++ [q]).length : Nat) : Int) - 1) = ((pre.length : Nat) : Int) := by rw [← len_snoc]; exact wrap_pred (by simp at hlen <;> omega)
    have hi := ih (pre ++ [q]) p (by rw [h]; simp)
    rw [← len_snoc] at hi
    refine Ev.succ ?_
    simp only [impl_risingPairs.l0, hx, hp, hq, hw]
    refine Ev.pos (by omega) (Ev.pos (by omega) (Ev.pos (by omega) (Ev.bindk (impl_pair p) ?_)))
    cases ho : okP p with
    | false => exact Ev.neg (by simp) (Ev.is (by simp [chainB, ho]))
    | true =>
      refine Ev.pos rfl (Ev.pos (by simp <;> omega) (Ev.pos (by omega) (Ev.pos (by simp at hlen <;> omega) ?_)))
      cases hb : Op.bytesLess q.f0.toList p.f0.toList with
      | false => exact Ev.neg (by simp) (Ev.is (by simp [chainB, ho, hb]))
      | true => exact Ev.pos rfl (Ev.same hi (by simp [chainB, ho, hb]))
theorem impl_rising (l : List S76) (hl : l.length < 9223372036854775807) : Ev (fun k => impl_risingPairs.f k l) (chainB none l) := by
  unfold impl_risingPairs.f
  cases l with
  | nil =>
    refine Ev.succ ?_
    simp only [impl_risingPairs.l0]
    exact Ev.neg (by simp) (Ev.is rfl)
  | cons p r =>
    have hx := rd_at (p :: r) [] r p rfl
    simp only [List.length_nil, Int.natCast_zero] at hx
    have hi := impl_rise_more (p :: r) hl r [] p rfl
    refine Ev.succ ?_
    simp only [impl_risingPairs.l0, hx]
    refine Ev.pos (by simp <;> omega) (Ev.pos (by omega) (Ev.pos (by simp <;> omega) (Ev.bindk (impl_pair p) ?_)))
    cases ho : okP p with
    | false => exact Ev.neg (by simp) (Ev.is (by simp [chainB, ho]))
    | true =>
      have e0 : ((([] ++ [p] : List S76).length : Nat) : Int) = wrap64 (0 + 1) := by unfold wrap64; simp
      rw [e0] at hi
      exact Ev.pos rfl (Ev.neg (by omega) (Ev.same hi (by simp [chainB, ho])))
end Go.Proofs.Ytgcncphdjabjjaa.X
namespace Go.Proofs.Ytgcncphdjabjjaa.X
open Go.RowKit Go.Proofs.YtgcncphdjabjjaaW.PrintWords Go.Proofs.YtgcncphdjabjjaaW.PrintLast Go.Proofs.YtgcncphdjabjjaaW.PrintMore
attribute [local go_sem] xbin_geq xbin_leq xbin_gtr max2_int min2_int max_two min_two max_three min_three max_four min_four
set_option linter.unusedVariables false
set_option linter.unusedSimpArgs false
def lowAt (l : List S76) (key : ByteArray) : Nat := l.findIdx fun p => !Op.bytesLess p.f0.toList key.toList
def hasAt (l : List S76) (key : ByteArray) : Bool := decide (lowAt l key < l.length) && decide ((rd_T76 l (lowAt l key)).f0.toList = key.toList)
theorem lowAt_is {l : List S76} {key : ByteArray} {i : Nat} (hi : i ≤ l.length) (h0 : ∀ j (hj : j < l.length), j < i → Op.bytesLess l[j].f0.toList key.toList = true) (h1 : ∀ (hj : i < l.length), Op.bytesLess l[i].f0.toList key.toList = false) : lowAt l key = i := by
  unfold lowAt
  rcases Nat.lt_or_ge i l.length with h | h
  · exact (List.findIdx_eq h).2 ⟨by simp [h1 h], fun j hj => by simp [h0 j (by omega) hj]⟩
  · have e : i = l.length := by omega
    rw [e]
    exact List.findIdx_eq_length.2 fun x hx => by
      obtain ⟨j, hj, rfl⟩ := List.getElem_of_mem hx
      simp [h0 j hj (by omega)]
def impl_pairAt.f (l0 : List S76) (a1 : ByteArray) : Option (Int × Bool) := if Rises l0 ∧ l0.length ≤ 1000000 then some ((lowAt l0 a1 : Int), hasAt l0 a1) else none
set_option maxHeartbeats 1000000 in
set_option maxRecDepth 100000 in
theorem pairAt_closure (x : S76) (key : ByteArray) (w : World) : Calls Try.prog 110 #[.agg #[.string x.f0, .string x.f1], .string key] w fun e w' => e = .returned (.int .i64 (cmpS x.f0 key)) ∧ Below w.heap.size w w' := by
  have hu := Try.underlying76
  go_enter Try.func110, Try.ntmps110
  go_wp2_with fail
  refine (strings_Compare' _ _ _).mono ?_
  rintro e w' ⟨rfl, rfl⟩
  go_wp2_with fail
  go_ret
  exact ⟨rfl, (Below.refl _ _).alloc (Nat.le_refl _) _⟩
theorem cmpS_neg {a b : ByteArray} (h : Op.bytesLess a.toList b.toList = true) : cmpS a b = -1 := by unfold cmpS; rw [if_pos h]
theorem cmpS_nonneg {a b : ByteArray} (h : Op.bytesLess a.toList b.toList = false) : 0 ≤ cmpS a b := by unfold cmpS; rw [if_neg (by rw [h]; decide)]; split <;> omega
theorem cmpS_zero {a b : ByteArray} : cmpS a b = 0 ↔ a.toList = b.toList := by
  unfold cmpS
  by_cases h : Op.bytesLess a.toList b.toList = true
  · rw [if_pos h]
    exact ⟨fun e => by omega, fun e => by rw [e, bless_irrefl] at h; cases h⟩
  · rw [if_neg h]
    by_cases k : a.toList = b.toList
    · simp [k]
    · simp [k]
set_option maxHeartbeats 4000000 in
set_option maxRecDepth 100000 in
theorem binarySearch_pairs (A0 : Option Addr) (c0 : Nat) (l0 : List S76) (a1 : ByteArray) (w : World) (hr0 : Kd.C k76 w A0 l0.length l0) (hs : Rises l0) (hl : l0.length ≤ 1000000) :
    Calls Try.prog 109 #[.slice A0 l0.length c0, .string a1, .func (.func 110) #[] #[]] w
      fun e w' => e = .returned (.tuple #[.int .i64 (lowAt l0 a1), .bool (hasAt l0 a1)]) ∧ Below w.heap.size w w' := by
  have hu := Try.underlying76
  have HR0 := Aside0.mk hr0
  have HS := Aside0.mk hs
  clear hr0 hs
  go_enter Try.func109, Try.ntmps109
  go_wp2_with fail
  go_loopw [9, 10] (fun v9 v10 wr => ∃ i j : Nat, i ≤ j ∧ j ≤ l0.length ∧ v9 = .int .i64 i ∧ v10 = .int .i64 j ∧ Aside0 (∀ m (hm : m < l0.length), m < i → Op.bytesLess l0[m].f0.toList a1.toList = true) ∧ Aside0 (∀ m (hm : m < l0.length), j ≤ m → Op.bytesLess l0[m].f0.toList a1.toList = false) ∧ Aside0 (Below w.heap.size w wr)) (fun v9 v10 _ => (intOf v10).toNat - (intOf v9).toNat)
  case atStart => exact ⟨0, l0.length, Nat.zero_le _, Nat.le_refl _, rfl, rfl, ⟨fun m hm h => absurd h (by omega)⟩, ⟨fun m hm h => absurd h (by omega)⟩, ⟨Below.refl _ _⟩⟩
  case round =>
    obtain ⟨i, j, hij, hj, rfl, rfl, HL, HG, HB⟩ := hrel
    by_cases hlt : i < j
    · obtain ⟨h, hh⟩ : ∃ h : Nat, h = (i + j) / 2 := ⟨_, rfl⟩
      have hh1 : i ≤ h := by omega
      have hh2 : h < j := by omega
      have hh3 : h < l0.length := by omega
      have p1 : 0 ≤ (h : Int) := by omega
      have q1 : (h : Int) < (l0.length : Int) := by omega
      obtain ⟨ad1, e1, hx0, hx1⟩ := at_T76 HR0.out (h : Int) p1 q1
      have hx : rd_T76 l0 (h : Int) = l0[h] := by unfold rd_T76; rw [Int.toNat_natCast]; simp [List.getD_eq_getElem?_getD, hh3]
      rw [hx] at hx0 hx1
      cases e1
      replace hx0 := (HB.out.cell (World.block_lt_of_cell? w _ hx0)).trans hx0
      replace hx1 := (HB.out.cell (World.block_lt_of_cell? w _ hx1)).trans hx1
      rw [Int.toNat_natCast] at hx0 hx1
      clear hx
      obtain ⟨x, hx⟩ : ∃ x, x = l0[h] := ⟨_, rfl⟩
      rw [← hx] at hx0 hx1
      have HX := Aside0.mk hx
      clear hx
      subst hh
      cases hb : Op.bytesLess x.f0.toList a1.toList with
      | true =>
        have HC := Aside0.mk (cmpS_neg hb)
        have HX2 := Aside0.mk hb
        clear hb
        go_wp2_with fail
        refine (pairAt_closure x a1 _).mono ?_
        rintro e w1 ⟨rfl, hb1⟩
        rw [HC.out]
        go_wp2_with fail
        go_roundw
        case rel => exact ⟨(i + j) / 2 + 1, j, by omega, by omega, by go_num, rfl, ⟨fun m hm h => by
          by_cases e : m = (i + j) / 2
          · subst e; rw [← HX.out]; exact HX2.out
          · have hm2 : m < (i + j) / 2 := by omega
            have := rises_lt HS.out hh3 hm2
            rw [← HX.out] at this
            exact bless_trans this HX2.out⟩, HG, ⟨below_step HB.out hb1⟩⟩
        case measure => simp [intOf]; omega
      | false =>
        have hc := cmpS_nonneg hb
        obtain ⟨c, hcc⟩ : ∃ c, c = cmpS x.f0 a1 := ⟨_, rfl⟩
        rw [← hcc] at hc
        have HC := Aside0.mk hcc
        have hc2 : decide (c < 0) = false := decide_eq_false (by omega)
        have HX2 := Aside0.mk hb
        clear hb hcc hc
        go_wp2_with fail
        refine (pairAt_closure x a1 _).mono ?_
        rintro e w1 ⟨rfl, hb1⟩
        rw [← HC.out]
        go_wp2_with fail
        go_roundw
        case rel => exact ⟨i, (i + j) / 2, by omega, by omega, rfl, by go_num, HL, ⟨fun m hm h => by
          by_cases e : m = (i + j) / 2
          · subst e; rw [← HX.out]; exact HX2.out
          · have hm2 : (i + j) / 2 < m := by omega
            have h2 := rises_lt HS.out hm hm2
            rw [← HX.out] at h2
            cases h3 : Op.bytesLess l0[m].f0.toList a1.toList with
            | false => rfl
            | true => have := bless_trans h2 h3; rw [HX2.out] at this; cases this⟩, ⟨below_step HB.out hb1⟩⟩
        case measure => simp [intOf]; omega
    · have hie : i = j := by omega
      subst hie
      have HI := Aside0.mk (lowAt_is hj HL.out (fun h => HG.out i h (Nat.le_refl _)))
      by_cases hn : i < l0.length
      · have p1 : 0 ≤ (i : Int) := by omega
        have q1 : (i : Int) < (l0.length : Int) := by omega
        obtain ⟨ad1, e1, hx0, hx1⟩ := at_T76 HR0.out (i : Int) p1 q1
        cases e1
        replace hx0 := (HB.out.cell (World.block_lt_of_cell? w _ hx0)).trans hx0
        replace hx1 := (HB.out.cell (World.block_lt_of_cell? w _ hx1)).trans hx1
        rw [Int.toNat_natCast] at hx0 hx1
        obtain ⟨x, hx⟩ : ∃ x, x = rd_T76 l0 (i : Int) := ⟨_, rfl⟩
        rw [← hx] at hx0 hx1
        have HX := Aside0.mk hx
        clear hx
        obtain ⟨c, hcc⟩ : ∃ c, c = cmpS x.f0 a1 := ⟨_, rfl⟩
        have HC := Aside0.mk hcc
        clear hcc
        by_cases hz : c = 0
        · have HZ : hasAt l0 a1 = true := by
            unfold hasAt
            rw [HI.out, ← HX.out, decide_eq_true hn, decide_eq_true (cmpS_zero.1 (HC.out ▸ hz))]
            rfl
          have HZ2 := Aside0.mk HZ
          clear HZ
          have hz2 : (c == 0) = true := beq_iff_eq.2 hz
          have HZ3 := Aside0.mk hz
          clear hz
          go_wp2_with fail
          refine (pairAt_closure x a1 _).mono ?_
          rintro e w1 ⟨rfl, hb1⟩
          rw [← HC.out]
          go_wp2_with fail
          go_ret2
          exact ⟨by rw [HI.out, HZ2.out]; rfl, below_step HB.out hb1⟩
        · have HZ : hasAt l0 a1 = false := by
            unfold hasAt
            rw [HI.out, ← HX.out, decide_eq_false (fun e => hz (HC.out.trans (cmpS_zero.2 e)))]
            simp
          have HZ2 := Aside0.mk HZ
          clear HZ
          have hz2 : (c == 0) = false := beq_eq_false_iff_ne.2 hz
          have HZ3 := Aside0.mk hz
          clear hz
          go_wp2_with fail
          refine (pairAt_closure x a1 _).mono ?_
          rintro e w1 ⟨rfl, hb1⟩
          rw [← HC.out]
          go_wp2_with fail
          go_ret2
          exact ⟨by rw [HI.out, HZ2.out]; rfl, below_step HB.out hb1⟩
      · have HZ : hasAt l0 a1 = false := by
          unfold hasAt
          rw [HI.out, decide_eq_false hn]
          rfl
        have HZ2 := Aside0.mk HZ
        clear HZ
        go_wp2_with fail
        go_ret2
        exact ⟨by rw [HI.out, HZ2.out]; rfl, HB.out⟩
set_option maxHeartbeats 1000000 in
set_option maxRecDepth 100000 in
theorem impl_pairAt.calls (A0 : Option Addr) (c0 : Nat) (l0 : List (S76)) (a1 : ByteArray) (r1 : Int) (r2 : Bool) (w : World) (hr0 : Kd.C k76 w A0 l0.length l0) (hc0 : l0.length ≤ c0) (h : impl_pairAt.f l0 a1 = some (r1, r2)) :
    Calls Try.prog 91 #[.slice A0 l0.length c0, .string a1] w fun e w' => e = .returned (.tuple #[.int .i64 r1, .bool r2]) ∧ Below w.heap.size w w' := by
  unfold impl_pairAt.f at h
  by_cases hs : Rises l0 ∧ l0.length ≤ 1000000
  · rw [if_pos hs] at h
    have h' := Option.some.inj h
    clear h
    obtain ⟨rfl, rfl⟩ := Prod.mk.inj h'
    clear h'
    have HC := Aside0.mk (binarySearch_pairs A0 c0 l0 a1 w hr0 hs.1 hs.2)
    clear hr0 hs
    generalize hasAt l0 a1 = b at HC ⊢
    generalize lowAt l0 a1 = i at HC ⊢
    go_enter Try.func91, Try.ntmps91
    go_wp2_with fail
    refine HC.out.mono ?_
    rintro e w1 ⟨rfl, hb1⟩
    go_wp2_with fail
    go_ret2
    exact ⟨rfl, hb1⟩
  · rw [if_neg hs] at h
    cases h
end Go.Proofs.Ytgcncphdjabjjaa.X
namespace Go.Proofs.Ytgcncphdjabjjaa.X
open Go.RowKit Go.Proofs.YtgcncphdjabjjaaW.PrintWords Go.Proofs.YtgcncphdjabjjaaW.PrintLast Go.Proofs.YtgcncphdjabjjaaW.PrintMore
attribute [local go_sem] xbin_geq xbin_leq xbin_gtr max2_int min2_int max_two min_two max_three min_three max_four min_four
set_option linter.unusedVariables false
set_option linter.unusedSimpArgs false
def spec_l01At.l0 : Nat → List (S76) → ByteArray → Int → Option (Int)
 | 0, _, _, _ => none
 | k + 1, x0, x1, x5 => if x5 < (x0.length : Int) then (if 0 ≤ x5 then (if (Op.bytesLess (((rd_T76 x0 x5).f0).toList) x1.toList) = true then (spec_l01At.l0 k x0 x1 (wrap64 (x5 + 1))) else (some x5)) else (none)) else (some x5)
def spec_l01At.f (k : Nat) (l0 : List (S76)) (a1 : ByteArray) : Option (Int) := spec_l01At.l0 k l0 a1 0
theorem spec_l01At.mono_l : ∀ k, (∀ y0 y1 y2, LeO (spec_l01At.l0 k y0 y1 y2) (spec_l01At.l0 (k + 1) y0 y1 y2))
 | 0 => fun _ _ _ r h => by simp [spec_l01At.l0] at h
 | k + 1 => by
  have ih0 := spec_l01At.mono_l k
  ·intro y0 y1 y2
   unfold spec_l01At.l0
   repeat' first
   | (with_reducible exact ih0 _ _ _)
   | (with_reducible exact LeO.refl _)
   | (with_reducible exact LeO.none _)
   | (with_reducible refine LeO.ite ?_ ?_)
   | (with_reducible refine LeO.bind ?_ (fun _ => ?_))
   | exact ih0 _ _ _
   | exact LeO.none _
   | refine LeO.ite ?_ ?_
   | refine LeO.bind ?_ (fun _ => ?_)
theorem spec_l01At.mono : ∀ a0 a1 k, LeO (spec_l01At.f k a0 a1) (spec_l01At.f (k + 1) a0 a1) := by
 intro a0 a1 k
 have ih0 := spec_l01At.mono_l k
 unfold spec_l01At.f
 repeat' first
   | (with_reducible exact ih0 _ _ _)
   | (with_reducible exact LeO.refl _)
   | (with_reducible exact LeO.none _)
   | (with_reducible refine LeO.ite ?_ ?_)
   | (with_reducible refine LeO.bind ?_ (fun _ => ?_))
   | exact ih0 _ _ _
   | exact LeO.none _
   | refine LeO.ite ?_ ?_
   | refine LeO.bind ?_ (fun _ => ?_)
set_option maxHeartbeats 8000000 in
set_option maxRecDepth 100000 in
theorem spec_l01At.calls (k : Nat) (A0 : Option Addr) (c0 : Nat) (l0 : List (S76)) (a1 : ByteArray) (r : Int) (w : World) (hr0 : Kd.C k76 w A0 l0.length l0) (hc0 : l0.length ≤ c0) (h : spec_l01At.f k l0 a1 = some r) :
  Calls Try.prog 108 #[.slice A0 l0.length c0, .string a1] w fun e w' => e = .returned (.int .i64 r) ∧ Drawn0 w w' := by
 have HR0 := Aside0.mk hr0
 have HC0 := Aside0.mk hc0
 clear hr0 hc0
 have H : (spec_l01At.l0 k l0 a1 0) = some r := h
 clear h
 have H' := Aside0.mk H
 clear H
 go_enter Try.func108, Try.ntmps108
 go_wp2
 go_loopg [5] k (fun kq v5 w' => ∃ (x5_1 : Int), v5 = .int .i64 x5_1 ∧ Aside0 (spec_l01At.l0 kq l0 a1 x5_1 = some r) ∧ Aside0 (kq ≤ k) ∧ Drawn0 w w')
 case atStart => exact ⟨(0), (by first | rfl | (simp; done) | (simp [*]; done)), H', ⟨Nat.le_refl _⟩, by repeat (first | exact Drawn0.refl _ | apply Drawn0.step)⟩
 case round =>
  clear H'
  try clear c1
  try clear p2
  obtain ⟨x5_1, rfl, HA, HK1, ⟨m1, rfl⟩⟩ := hrel
  cases gk with
  | zero => exact absurd HA.out (by simp [spec_l01At.l0])
  | succ k1 =>
   have H := HA.out
   clear HA
   simp only [spec_l01At.l0] at H
   by_cases c3 : x5_1 < (l0.length : Int)
   ·rw [if_pos c3] at H
    have c3b0 : decide (x5_1 < (l0.length : Int)) = true := decide_eq_true c3
    clear c3
    by_cases c4 : 0 ≤ x5_1
    ·rw [if_pos c4] at H
     have c4b0 : decide (0 ≤ x5_1) = true := decide_eq_true c4
     clear c4
     by_cases c5 : (Op.bytesLess (((rd_T76 l0 x5_1).f0).toList) a1.toList) = true
     ·rw [if_pos c5] at H
      have c5b0 : (Op.bytesLess (((rd_T76 l0 x5_1).f0).toList) a1.toList) = true := c5
      clear c5
      have H' := Aside0.mk H
      clear H
      have p359 : 0 ≤ (x5_1 : Int) := of_decide_eq_true (by first | (with_reducible assumption) | assumption)
      have q359 : x5_1 < (l0.length : Int) := of_decide_eq_true (by first | (with_reducible assumption) | assumption)
      obtain ⟨ad359, e359, hx359_0, hx359_1⟩ := at_T76 HR0.out x5_1 p359 q359
      cases e359
      replace p359 := eq_true p359
      replace q359 := eq_true q359
      go_wp2
      go_roundg k1
      case measure => have := HK1.out; omega
      case rel => exact ⟨(wrap64 (x5_1 + 1)), (by first | rfl | (simp; done) | (simp [*]; done)), H', ⟨by have := HK1.out; omega⟩, by repeat (first | exact Drawn0.refl _ | apply Drawn0.step)⟩
     ·rw [if_neg c5] at H
      have c5b0 : (Op.bytesLess (((rd_T76 l0 x5_1).f0).toList) a1.toList) = false := by simpa using c5
      clear c5
      obtain rfl := Option.some.inj H
      have p359 : 0 ≤ (x5_1 : Int) := of_decide_eq_true (by first | (with_reducible assumption) | assumption)
      have q359 : x5_1 < (l0.length : Int) := of_decide_eq_true (by first | (with_reducible assumption) | assumption)
      obtain ⟨ad359, e359, hx359_0, hx359_1⟩ := at_T76 HR0.out x5_1 p359 q359
      cases e359
      replace p359 := eq_true p359
      replace q359 := eq_true q359
      go_wp2
      go_ret
      exact ⟨by first | rfl | (simp; done) | (simp [*]; done), by repeat (first | exact Drawn0.refl _ | apply Drawn0.step)⟩
    ·rw [if_neg c4] at H
     exact absurd H (by simp)
   ·rw [if_neg c3] at H
    have c3b0 : decide (x5_1 < (l0.length : Int)) = false := decide_eq_false c3
    clear c3
    obtain rfl := Option.some.inj H
    go_wp2
    go_ret
    exact ⟨by first | rfl | (simp; done) | (simp [*]; done), by repeat (first | exact Drawn0.refl _ | apply Drawn0.step)⟩
end Go.Proofs.Ytgcncphdjabjjaa.X
namespace Go.Proofs.Ytgcncphdjabjjaa.X
open Go.RowKit Go.Proofs.YtgcncphdjabjjaaW.PrintWords Go.Proofs.YtgcncphdjabjjaaW.PrintLast Go.Proofs.YtgcncphdjabjjaaW.PrintMore
attribute [local go_sem] xbin_geq xbin_leq xbin_gtr max2_int min2_int max_two min_two max_three min_three max_four min_four
set_option linter.unusedVariables false
set_option linter.unusedSimpArgs false
def spec_l01Get.f (k : Nat) (l0 : List (S76)) (a1 : ByteArray) : Option (ByteArray × Bool) := (spec_l01At.f k l0 a1).bind fun t360 => (if t360 < (l0.length : Int) then (if 0 ≤ t360 then (if ((rd_T76 l0 t360).f0).toList = a1.toList then (some ((rd_T76 l0 t360).f1, true)) else (some ((⟨#[]⟩ : ByteArray), false))) else (none)) else (some ((⟨#[]⟩ : ByteArray), false)))
theorem spec_l01Get.mono : ∀ a0 a1 k, LeO (spec_l01Get.f k a0 a1) (spec_l01Get.f (k + 1) a0 a1) := by
 intro a0 a1 k
 unfold spec_l01Get.f
 repeat' first
   | (with_reducible exact spec_l01At.mono _ _ _)
   | (with_reducible exact LeO.refl _)
   | (with_reducible exact LeO.none _)
   | (with_reducible refine LeO.ite ?_ ?_)
   | (with_reducible refine LeO.bind ?_ (fun _ => ?_))
   | exact spec_l01At.mono _ _ _
   | exact LeO.none _
   | refine LeO.ite ?_ ?_
   | refine LeO.bind ?_ (fun _ => ?_)
set_option maxHeartbeats 8000000 in
set_option maxRecDepth 100000 in
theorem spec_l01Get.calls (k : Nat) (A0 : Option Addr) (c0 : Nat) (l0 : List (S76)) (a1 : ByteArray) (r1 : ByteArray) (r2 : Bool) (w : World) (hr0 : Kd.C k76 w A0 l0.length l0) (hc0 : l0.length ≤ c0) (h : spec_l01Get.f k l0 a1 = some (r1, r2)) :
  Calls Try.prog 87 #[.slice A0 l0.length c0, .string a1] w fun e w' => e = .returned (.tuple #[.string r1, .bool r2]) ∧ Drawn0 w w' := by
 have HR0 := Aside0.mk hr0
 have HC0 := Aside0.mk hc0
 clear hr0 hc0
 have H : ((spec_l01At.f k l0 a1).bind fun t360 => (if t360 < (l0.length : Int) then (if 0 ≤ t360 then (if ((rd_T76 l0 t360).f0).toList = a1.toList then (some ((rd_T76 l0 t360).f1, true)) else (some ((⟨#[]⟩ : ByteArray), false))) else (none)) else (some ((⟨#[]⟩ : ByteArray), false)))) = some (r1, r2) := h
 clear h
 replace H := Option.bind_eq_some_iff.mp H
 obtain ⟨t360, A30, H⟩ := H
 replace H : (if t360 < (l0.length : Int) then (if 0 ≤ t360 then (if ((rd_T76 l0 t360).f0).toList = a1.toList then (some ((rd_T76 l0 t360).f1, true)) else (some ((⟨#[]⟩ : ByteArray), false))) else (none)) else (some ((⟨#[]⟩ : ByteArray), false))) = some (r1, r2) := H
 have A3 := Aside0.mk A30
 clear A30
 by_cases c4 : t360 < (l0.length : Int)
 ·rw [if_pos c4] at H
  have c4b0 : decide (t360 < (l0.length : Int)) = true := decide_eq_true c4
  clear c4
  by_cases c5 : 0 ≤ t360
  ·rw [if_pos c5] at H
   have c5b0 : decide (0 ≤ t360) = true := decide_eq_true c5
   clear c5
   by_cases c6 : ((rd_T76 l0 t360).f0).toList = a1.toList
   ·rw [if_pos c6] at H
    have c6b0 : (((rd_T76 l0 t360).f0).toList == a1.toList) = true := beq_iff_eq.mpr c6
    have c6b1 : (((rd_T76 l0 t360).f0).toList != a1.toList) = false := bne_eq_false_iff_eq.mpr c6
    clear c6
    simp only [Option.some.injEq, Prod.mk.injEq] at H
    obtain ⟨rfl, rfl⟩ := H
    go_enter Try.func87, Try.ntmps87
    go_wp2_with (first | ((with_reducible refine gate_callee (f := 108) rfl ?_); refine goesL_ (some 9) rfl rfl Try.func108 (by kernel_rfl) rfl #[.slice A0 l0.length c0, .string a1] rfl (by (try simp only [List.map_toArray, List.map_cons, List.map_nil]); first | done | rfl | (simp only [List.length_drop, List.length_take]; rfl)) ?_; (with_reducible refine (spec_l01At.calls k _ _ l0 a1 t360 _ ?side1 ?side2 A3.out).mono ?_); (case side1 => repeat (first | exact HR0.out | (with_reducible refine Kd.C_alloc ?_ _) | (with_reducible refine Kd.C_drewN ?_ _) | (with_reducible refine Kd.C_drew ?_))); (case side2 => exact HC0.out); rintro e w' ⟨rfl, ⟨nd, rfl⟩⟩; refine ⟨_, rfl, ?_⟩; have p361 : 0 ≤ (t360 : Int) := of_decide_eq_true (by first | (with_reducible assumption) | assumption); have q361 : t360 < (l0.length : Int) := of_decide_eq_true (by first | (with_reducible assumption) | assumption); obtain ⟨ad361, e361, hx361_0, hx361_1⟩ := at_T76 HR0.out t360 p361 q361; cases e361; replace p361 := eq_true p361; replace q361 := eq_true q361; have p362 : 0 ≤ (t360 : Int) := of_decide_eq_true (by first | (with_reducible assumption) | assumption); have q362 : t360 < (l0.length : Int) := of_decide_eq_true (by first | (with_reducible assumption) | assumption); obtain ⟨ad362, e362, hx362_0, hx362_1⟩ := at_T76 HR0.out t360 p362 q362; obtain rfl : ad361 = ad362 := (by injection e362); replace p362 := eq_true p362; replace q362 := eq_true q362))
    go_ret2
    exact ⟨by first | rfl | (simp; done) | (simp [*]; done), by repeat (first | exact Drawn0.refl _ | apply Drawn0.step)⟩
   ·rw [if_neg c6] at H
    have c6b0 : (((rd_T76 l0 t360).f0).toList == a1.toList) = false := beq_eq_false_iff_ne.mpr c6
    have c6b1 : (((rd_T76 l0 t360).f0).toList != a1.toList) = true := bne_iff_ne.mpr c6
    simp only [Option.some.injEq, Prod.mk.injEq] at H
    obtain ⟨rfl, rfl⟩ := H
    go_enter Try.func87, Try.ntmps87
    go_wp2_with (first | ((with_reducible refine gate_callee (f := 108) rfl ?_); refine goesL_ (some 9) rfl rfl Try.func108 (by kernel_rfl) rfl #[.slice A0 l0.length c0, .string a1] rfl (by (try simp only [List.map_toArray, List.map_cons, List.map_nil]); first | done | rfl | (simp only [List.length_drop, List.length_take]; rfl)) ?_; (with_reducible refine (spec_l01At.calls k _ _ l0 a1 t360 _ ?side1 ?side2 A3.out).mono ?_); (case side1 => repeat (first | exact HR0.out | (with_reducible refine Kd.C_alloc ?_ _) | (with_reducible refine Kd.C_drewN ?_ _) | (with_reducible refine Kd.C_drew ?_))); (case side2 => exact HC0.out); rintro e w' ⟨rfl, ⟨nd, rfl⟩⟩; refine ⟨_, rfl, ?_⟩; have p361 : 0 ≤ (t360 : Int) := of_decide_eq_true (by first | (with_reducible assumption) | assumption); have q361 : t360 < (l0.length : Int) := of_decide_eq_true (by first | (with_reducible assumption) | assumption); obtain ⟨ad361, e361, hx361_0, hx361_1⟩ := at_T76 HR0.out t360 p361 q361; cases e361; replace p361 := eq_true p361; replace q361 := eq_true q361))
    go_ret2
    exact ⟨by first | rfl | (simp; done) | (simp [*]; done), by repeat (first | exact Drawn0.refl _ | apply Drawn0.step)⟩
  ·rw [if_neg c5] at H
   exact absurd H (by simp)
 ·rw [if_neg c4] at H
  have c4b0 : decide (t360 < (l0.length : Int)) = false := decide_eq_false c4
  clear c4
  simp only [Option.some.injEq, Prod.mk.injEq] at H
  obtain ⟨rfl, rfl⟩ := H
  go_enter Try.func87, Try.ntmps87
  go_wp2_with (first | ((with_reducible refine gate_callee (f := 108) rfl ?_); refine goesL_ (some 9) rfl rfl Try.func108 (by kernel_rfl) rfl #[.slice A0 l0.length c0, .string a1] rfl (by (try simp only [List.map_toArray, List.map_cons, List.map_nil]); first | done | rfl | (simp only [List.length_drop, List.length_take]; rfl)) ?_; (with_reducible refine (spec_l01At.calls k _ _ l0 a1 t360 _ ?side1 ?side2 A3.out).mono ?_); (case side1 => repeat (first | exact HR0.out | (with_reducible refine Kd.C_alloc ?_ _) | (with_reducible refine Kd.C_drewN ?_ _) | (with_reducible refine Kd.C_drew ?_))); (case side2 => exact HC0.out); rintro e w' ⟨rfl, ⟨nd, rfl⟩⟩; refine ⟨_, rfl, ?_⟩))
  go_ret2
  exact ⟨by first | rfl | (simp; done) | (simp [*]; done), by repeat (first | exact Drawn0.refl _ | apply Drawn0.step)⟩
end Go.Proofs.Ytgcncphdjabjjaa.X
