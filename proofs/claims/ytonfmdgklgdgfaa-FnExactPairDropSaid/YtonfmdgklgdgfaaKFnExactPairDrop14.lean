import Derived.Test.YtonfmdgklgdgfaaKFnExactPairDrop3
import Derived.Test.YtonfmdgklgdgfaaKFnExactPairDrop7
import Derived.Test.YtonfmdgklgdgfaaKFnExactPairDrop8
import Derived.Test.YtonfmdgklgdgfaaKFnExactPairDrop11
import Derived.Test.YtonfmdgklgdgfaaKFnExactPairDrop12
import Derived.Test.YtonfmdgklgdgfaaKFnExactPairDrop13
import Derived.LoopTactic
import Derived.BigQuiet
namespace Go.Proofs.Ytonfmdgklgdgfaa.X
open Go.RowKit Go.Proofs.YtonfmdgklgdgfaaW.PrintWords Go.Proofs.YtonfmdgklgdgfaaW.PrintLast Go.Proofs.YtonfmdgklgdgfaaW.PrintMore
attribute [local go_sem] xbin_geq xbin_leq xbin_gtr max2_int min2_int max_two min_two max_three min_three max_four min_four
set_option linter.unusedVariables false
set_option linter.unusedSimpArgs false
def Rises (l : List S65) : Prop := l.Pairwise fun a b => Op.bytesLess a.f0.toList b.f0.toList = true
instance risesDec (l : List S65) : Decidable (Rises l) := by unfold Rises; infer_instance
theorem rises_lt {l : List S65} (h : Rises l) {i j : Nat} (hj : j < l.length) (hij : i < j) : Op.bytesLess (l[i]'(by omega)).f0.toList l[j].f0.toList = true := (List.pairwise_iff_getElem.1 h) i j (by omega) hj hij
def okP (p : S65) : Bool := keyB p.f0 && decide (p.f1.size ≤ 90)
def chainB : Option S65 → List S65 → Bool
  | _, [] => true
  | none, p :: r => okP p && chainB (some p) r
  | some q, p :: r => okP p && (Op.bytesLess q.f0.toList p.f0.toList && chainB (some p) r)
def pairsB (l : List S65) : Bool := decide (l.length ≤ 60) && chainB none l
theorem chainB_rises (l : List S65) : ∀ q, chainB (some q) l = true → (∀ p ∈ l, okP p = true) ∧ (q :: l).Pairwise fun a b => Op.bytesLess a.f0.toList b.f0.toList = true := by
  induction l with
  | nil => intro q _; exact ⟨fun p hp => (by cases hp), List.pairwise_singleton _ _⟩
  | cons p r ih =>
    intro q h
    simp only [chainB, Bool.and_eq_true] at h
    obtain ⟨h1, h2, h3⟩ := h
    obtain ⟨i1, i2⟩ := ih p h3
    refine ⟨fun x hx => ?_, List.pairwise_cons.2 ⟨fun x hx => ?_, i2⟩⟩
    · rcases List.mem_cons.1 hx with rfl | hx
      · exact h1
      · exact i1 x hx
    · rcases List.mem_cons.1 hx with rfl | hx
      · exact h2
      · exact bless_trans h2 ((List.pairwise_cons.1 i2).1 x hx)
theorem chainB_none {l : List S65} (h : chainB none l = true) : (∀ p ∈ l, okP p = true) ∧ Rises l := by
  cases l with
  | nil => exact ⟨fun p hp => (by cases hp), List.Pairwise.nil⟩
  | cons p r =>
    simp only [chainB, Bool.and_eq_true] at h
    obtain ⟨i1, i2⟩ := chainB_rises r p h.2
    refine ⟨fun x hx => ?_, i2⟩
    rcases List.mem_cons.1 hx with rfl | hx
    · exact h.1
    · exact i1 x hx
theorem chainB_of (l : List S65) : ∀ q, (∀ p ∈ l, okP p = true) → ((q :: l).Pairwise fun a b => Op.bytesLess a.f0.toList b.f0.toList = true) → chainB (some q) l = true := by
  induction l with
  | nil => intro q _ _; rfl
  | cons p r ih =>
    intro q h1 h2
    simp only [chainB, Bool.and_eq_true]
    exact ⟨h1 p List.mem_cons_self, (List.pairwise_cons.1 h2).1 p List.mem_cons_self, ih p (fun x hx => h1 x (List.mem_cons_of_mem _ hx)) (List.pairwise_cons.1 h2).2⟩
theorem chainB_none_of {l : List S65} (h1 : ∀ p ∈ l, okP p = true) (h2 : Rises l) : chainB none l = true := by
  cases l with
  | nil => rfl
  | cons p r =>
    simp only [chainB, Bool.and_eq_true]
    exact ⟨h1 p List.mem_cons_self, chainB_of r p (fun x hx => h1 x (List.mem_cons_of_mem _ hx)) h2⟩
theorem pairsB_is {l : List S65} : pairsB l = true ↔ l.length ≤ 60 ∧ (∀ p ∈ l, okP p = true) ∧ Rises l := by
  unfold pairsB
  rw [Bool.and_eq_true, decide_eq_true_eq]
  exact ⟨fun h => ⟨h.1, chainB_none h.2⟩, fun h => ⟨h.1, chainB_none_of h.2.1 h.2.2⟩⟩
theorem rd_at (l : List S65) (pre rest : List S65) (x : S65) (h : l = pre ++ x :: rest) : rd_T65 l ((pre.length : Nat) : Int) = x := by
  subst h
  simp [rd_T65, List.getD_eq_getElem?_getD]
theorem spec_pair (p : S65) : spec_l01Pair.f p.f0 p.f1 = some (okP p) := by
  unfold spec_l01Pair.f okP
  have e : ((p.f1.size : Int) ≤ 90) = (p.f1.size ≤ 90) := propext (by omega)
  rw [spec_key, Option.bind_some]
  cases keyB p.f0 <;> simp [e]
theorem impl_pair (p : S65) : impl_pairOK.f p.f0 p.f1 = some (okP p) := by
  unfold impl_pairOK.f okP
  have e : ((p.f1.size : Int) ≤ 90) = (p.f1.size ≤ 90) := propext (by omega)
  rw [impl_key, Option.bind_some]
  cases keyB p.f0 <;> simp [e]
theorem spec_rise_more (l : List S65) (hl : l.length ≤ 60) (rest : List S65) : ∀ (pre : List S65) (q : S65), l = (pre ++ [q]) ++ rest →
    Ev (fun k => spec_PairsOK.l0 k l (((pre ++ [q]).length : Nat) : Int)) (chainB (some q) rest) := by
  induction rest with
  | nil =>
    intro pre q h
    refine Ev.succ ?_
    simp only [spec_PairsOK.l0]
    exact Ev.neg (by rw [h]; simp) (Ev.is rfl)
  | cons p r ih =>
    intro pre q h
    have hx := rd_at l (pre ++ [q]) r p h
    have hq := rd_at l pre (p :: r) q (by rw [h]; simp)
    have hlen : (pre ++ [q]).length < l.length := by rw [h]; simp
    have hw := wrap_at (n := (pre ++ [q]).length) (by omega)
    have hp : wrap64 ((((pre ++ [q]).length : Nat) : Int) - 1) = ((pre.length : Nat) : Int) := by rw [← len_snoc]; exact wrap_pred (by simp at hlen <;> omega)
    have hi := ih (pre ++ [q]) p (by rw [h]; simp)
    rw [← len_snoc] at hi
    refine Ev.succ ?_
    simp only [spec_PairsOK.l0, hx, hp, hq, hw]
    refine Ev.pos (by omega) (Ev.pos (by omega) (Ev.bindk (spec_pair p) ?_))
    cases ho : okP p with
    | false => exact Ev.neg (by simp) (Ev.is (by simp [chainB, ho]))
    | true =>
      refine Ev.pos rfl (Ev.pos (by simp <;> omega) (Ev.pos (by omega) (Ev.pos (by simp at hlen <;> omega) ?_)))
      cases hb : Op.bytesLess q.f0.toList p.f0.toList with
      | false => exact Ev.neg (by simp) (Ev.is (by simp [chainB, ho, hb]))
      | true => exact Ev.pos rfl (Ev.same hi (by simp [chainB, ho, hb]))
theorem spec_rise (l : List S65) (hl : l.length ≤ 60) : Ev (fun k => spec_PairsOK.l0 k l 0) (chainB none l) := by
  cases l with
  | nil =>
    refine Ev.succ ?_
    simp only [spec_PairsOK.l0]
    exact Ev.neg (by simp) (Ev.is rfl)
  | cons p r =>
    have hx := rd_at (p :: r) [] r p rfl
    simp only [List.length_nil, Int.natCast_zero] at hx
    have hi := spec_rise_more (p :: r) hl r [] p rfl
    refine Ev.succ ?_
    simp only [spec_PairsOK.l0, hx]
    refine Ev.pos (by simp <;> omega) (Ev.pos (by omega) (Ev.bindk (spec_pair p) ?_))
    cases ho : okP p with
    | false => exact Ev.neg (by simp) (Ev.is (by simp [chainB, ho]))
    | true =>
      have e0 : ((([] ++ [p] : List S65).length : Nat) : Int) = wrap64 (0 + 1) := by unfold wrap64; simp
      rw [e0] at hi
      exact Ev.pos rfl (Ev.neg (by omega) (Ev.same hi (by simp [chainB, ho])))
theorem spec_pairsOK (l : List S65) : Ev (fun k => spec_PairsOK.f k l) (pairsB l) := by
  unfold spec_PairsOK.f pairsB
  by_cases h1 : (l.length : Int) > 4096
  · exact Ev.pos h1 (Ev.is (by simp [show ¬ l.length ≤ 60 by omega]))
  · by_cases h2 : (l.length : Int) > 60
    · exact Ev.neg h1 (Ev.pos h2 (Ev.is (by simp [show ¬ l.length ≤ 60 by omega])))
    · exact Ev.neg h1 (Ev.neg h2 (Ev.same (spec_rise l (by omega)) (by simp [show l.length ≤ 60 by omega])))
theorem impl_rise_more (l : List S65) (hl : l.length < 9223372036854775807) (rest : List S65) : ∀ (pre : List S65) (q : S65), l = (pre ++ [q]) ++ rest →
    Ev (fun k => impl_risingPairs.l0 k l l (l.length : Int) (((pre ++ [q]).length : Nat) : Int)) (chainB (some q) rest) := by
  induction rest with
  | nil =>
    intro pre q h
    refine Ev.succ ?_
    simp only [impl_risingPairs.l0]
    exact Ev.neg (by rw [h]; simp) (Ev.is rfl)
  | cons p r ih =>
    intro pre q h
    have hx := rd_at l (pre ++ [q]) r p h
    have hq := rd_at l pre (p :: r) q (by rw [h]; simp)
    have hlen : (pre ++ [q]).length < l.length := by rw [h]; simp
    have hw := wrap_at (n := (pre ++ [q]).length) (by omega)
    have hp : wrap64 ((((pre ++ [q]).length : Nat) : Int) - 1) = ((pre.length : Nat) : Int) := by rw [← len_snoc]; exact wrap_pred (by simp at hlen <;> omega)
    have hi := ih (pre ++ [q]) p (by rw [h]; simp)
    rw [← len_snoc] at hi
    refine Ev.succ ?_
    simp only [impl_risingPairs.l0, hx, hp, hq, hw]
    refine Ev.pos (by omega) (Ev.pos (by omega) (Ev.pos (by omega) (Ev.bindk (impl_pair p) ?_)))
    cases ho : okP p with
    | false => exact Ev.neg (by simp) (Ev.is (by simp [chainB, ho]))
    | true =>
      refine Ev.pos rfl (Ev.pos (by simp <;> omega) (Ev.pos (by omega) (Ev.pos (by simp at hlen <;> omega) ?_)))
      cases hb : Op.bytesLess q.f0.toList p.f0.toList with
      | false => exact Ev.neg (by simp) (Ev.is (by simp [chainB, ho, hb]))
      | true => exact Ev.pos rfl (Ev.same hi (by simp [chainB, ho, hb]))
theorem impl_rising (l : List S65) (hl : l.length < 9223372036854775807) : Ev (fun k => impl_risingPairs.f k l) (chainB none l) := by
  unfold impl_risingPairs.f
  cases l with
  | nil =>
    refine Ev.succ ?_
    simp only [impl_risingPairs.l0]
    exact Ev.neg (by simp) (Ev.is rfl)
  | cons p r =>
    have hx := rd_at (p :: r) [] r p rfl
    simp only [List.length_nil, Int.natCast_zero] at hx
    have hi := impl_rise_more (p :: r) hl r [] p rfl
    refine Ev.succ ?_
    simp only [impl_risingPairs.l0, hx]
    refine Ev.pos (by simp <;> omega) (Ev.pos (by omega) (Ev.pos (by simp <;> omega) (Ev.bindk (impl_pair p) ?_)))
    cases ho : okP p with
    | false => exact Ev.neg (by simp) (Ev.is (by simp [chainB, ho]))
    | true =>
      have e0 : ((([] ++ [p] : List S65).length : Nat) : Int) = wrap64 (0 + 1) := by unfold wrap64; simp
      rw [e0] at hi
      exact Ev.pos rfl (Ev.neg (by omega) (Ev.same hi (by simp [chainB, ho])))
end Go.Proofs.Ytonfmdgklgdgfaa.X
namespace Go.Proofs.Ytonfmdgklgdgfaa.X
open Go.RowKit Go.Proofs.YtonfmdgklgdgfaaW.PrintWords Go.Proofs.YtonfmdgklgdgfaaW.PrintLast Go.Proofs.YtonfmdgklgdgfaaW.PrintMore
attribute [local go_sem] xbin_geq xbin_leq xbin_gtr max2_int min2_int max_two min_two max_three min_three max_four min_four
set_option linter.unusedVariables false
set_option linter.unusedSimpArgs false
def lowAt (l : List S65) (key : ByteArray) : Nat := l.findIdx fun p => !Op.bytesLess p.f0.toList key.toList
def hasAt (l : List S65) (key : ByteArray) : Bool := decide (lowAt l key < l.length) && decide ((rd_T65 l (lowAt l key)).f0.toList = key.toList)
theorem lowAt_is {l : List S65} {key : ByteArray} {i : Nat} (hi : i ≤ l.length) (h0 : ∀ j (hj : j < l.length), j < i → Op.bytesLess l[j].f0.toList key.toList = true) (h1 : ∀ (hj : i < l.length), Op.bytesLess l[i].f0.toList key.toList = false) : lowAt l key = i := by
  unfold lowAt
  rcases Nat.lt_or_ge i l.length with h | h
  · exact (List.findIdx_eq h).2 ⟨by simp [h1 h], fun j hj => by simp [h0 j (by omega) hj]⟩
  · have e : i = l.length := by omega
    rw [e]
    exact List.findIdx_eq_length.2 fun x hx => by
      obtain ⟨j, hj, rfl⟩ := List.getElem_of_mem hx
      simp [h0 j hj (by omega)]
def impl_pairAt.f (l0 : List S65) (a1 : ByteArray) : Option (Int × Bool) := if Rises l0 ∧ l0.length ≤ 1000000 then some ((lowAt l0 a1 : Int), hasAt l0 a1) else none
set_option maxHeartbeats 1000000 in
set_option maxRecDepth 100000 in
theorem pairAt_closure (x : S65) (key : ByteArray) (w : World) : Calls Try.prog 94 #[.agg #[.string x.f0, .string x.f1], .string key] w fun e w' => e = .returned (.int .i64 (cmpS x.f0 key)) ∧ Below w.heap.size w w' := by
  have hu := Try.underlying65
  go_enter Try.func94, Try.ntmps94
  go_wp2_with fail
  refine (strings_Compare' _ _ _).mono ?_
  rintro e w' ⟨rfl, rfl⟩
  go_wp2_with fail
  go_ret
  exact ⟨rfl, (Below.refl _ _).alloc (Nat.le_refl _) _⟩
theorem cmpS_neg {a b : ByteArray} (h : Op.bytesLess a.toList b.toList = true) : cmpS a b = -1 := by unfold cmpS; rw [if_pos h]
theorem cmpS_nonneg {a b : ByteArray} (h : Op.bytesLess a.toList b.toList = false) : 0 ≤ cmpS a b := by unfold cmpS; rw [if_neg (by rw [h]; decide)]; split <;> omega
theorem cmpS_zero {a b : ByteArray} : cmpS a b = 0 ↔ a.toList = b.toList := by
  unfold cmpS
  by_cases h : Op.bytesLess a.toList b.toList = true
  · rw [if_pos h]
    exact ⟨fun e => by omega, fun e => by rw [e, bless_irrefl] at h; cases h⟩
  · rw [if_neg h]
    by_cases k : a.toList = b.toList
    · simp [k]
    · simp [k]
set_option maxHeartbeats 4000000 in
set_option maxRecDepth 100000 in
theorem binarySearch_pairs (A0 : Option Addr) (c0 : Nat) (l0 : List S65) (a1 : ByteArray) (w : World) (hr0 : Kd.C k65 w A0 l0.length l0) (hs : Rises l0) (hl : l0.length ≤ 1000000) :
    Calls Try.prog 93 #[.slice A0 l0.length c0, .string a1, .func (.func 94) #[] #[]] w
      fun e w' => e = .returned (.tuple #[.int .i64 (lowAt l0 a1), .bool (hasAt l0 a1)]) ∧ Below w.heap.size w w' := by
  have hu := Try.underlying65
  have HR0 := Aside0.mk hr0
  have HS := Aside0.mk hs
  clear hr0 hs
  go_enter Try.func93, Try.ntmps93
  go_wp2_with fail
  go_loopw [9, 10] (fun v9 v10 wr => ∃ i j : Nat, i ≤ j ∧ j ≤ l0.length ∧ v9 = .int .i64 i ∧ v10 = .int .i64 j ∧ Aside0 (∀ m (hm : m < l0.length), m < i → Op.bytesLess l0[m].f0.toList a1.toList = true) ∧ Aside0 (∀ m (hm : m < l0.length), j ≤ m → Op.bytesLess l0[m].f0.toList a1.toList = false) ∧ Aside0 (Below w.heap.size w wr)) (fun v9 v10 _ => (intOf v10).toNat - (intOf v9).toNat)
  case atStart => exact ⟨0, l0.length, Nat.zero_le _, Nat.le_refl _, rfl, rfl, ⟨fun m hm h => absurd h (by omega)⟩, ⟨fun m hm h => absurd h (by omega)⟩, ⟨Below.refl _ _⟩⟩
  case round =>
    obtain ⟨i, j, hij, hj, rfl, rfl, HL, HG, HB⟩ := hrel
    by_cases hlt : i < j
    · obtain ⟨h, hh⟩ : ∃ h : Nat, h = (i + j) / 2 := ⟨_, rfl⟩
      have hh1 : i ≤ h := by omega
      have hh2 : h < j := by omega
      have hh3 : h < l0.length := by omega
      have p1 : 0 ≤ (h : Int) := by omega
      have q1 : (h : Int) < (l0.length : Int) := by omega
      obtain ⟨ad1, e1, hx0, hx1⟩ := at_T65 HR0.out (h : Int) p1 q1
      have hx : rd_T65 l0 (h : Int) = l0[h] := by unfold rd_T65; rw [Int.toNat_natCast]; simp [List.getD_eq_getElem?_getD, hh3]
      rw [hx] at hx0 hx1
      cases e1
      replace hx0 := (HB.out.cell (World.block_lt_of_cell? w _ hx0)).trans hx0
      replace hx1 := (HB.out.cell (World.block_lt_of_cell? w _ hx1)).trans hx1
      rw [Int.toNat_natCast] at hx0 hx1
      clear hx
      obtain ⟨x, hx⟩ : ∃ x, x = l0[h] := ⟨_, rfl⟩
      rw [← hx] at hx0 hx1
      have HX := Aside0.mk hx
      clear hx
      subst hh
      cases hb : Op.bytesLess x.f0.toList a1.toList with
      | true =>
        have HC := Aside0.mk (cmpS_neg hb)
        have HX2 := Aside0.mk hb
        clear hb
        go_wp2_with fail
        refine (pairAt_closure x a1 _).mono ?_
        rintro e w1 ⟨rfl, hb1⟩
        rw [HC.out]
        go_wp2_with fail
        go_roundw
        case rel => exact ⟨(i + j) / 2 + 1, j, by omega, by omega, by go_num, rfl, ⟨fun m hm h => by
          by_cases e : m = (i + j) / 2
          · subst e; rw [← HX.out]; exact HX2.out
          · have hm2 : m < (i + j) / 2 := by omega
            have := rises_lt HS.out hh3 hm2
            rw [← HX.out] at this
            exact bless_trans this HX2.out⟩, HG, ⟨below_step HB.out hb1⟩⟩
        case measure => simp [intOf]; omega
      | false =>
        have hc := cmpS_nonneg hb
        obtain ⟨c, hcc⟩ : ∃ c, c = cmpS x.f0 a1 := ⟨_, rfl⟩
        rw [← hcc] at hc
        have HC := Aside0.mk hcc
        have hc2 : decide (c < 0) = false := decide_eq_false (by omega)
        have HX2 := Aside0.mk hb
        clear hb hcc hc
        go_wp2_with fail
        refine (pairAt_closure x a1 _).mono ?_
        rintro e w1 ⟨rfl, hb1⟩
        rw [← HC.out]
        go_wp2_with fail
        go_roundw
        case rel => exact ⟨i, (i + j) / 2, by omega, by omega, rfl, by go_num, HL, ⟨fun m hm h => by
          by_cases e : m = (i + j) / 2
          · subst e; rw [← HX.out]; exact HX2.out
          · have hm2 : (i + j) / 2 < m := by omega
            have h2 := rises_lt HS.out hm hm2
            rw [← HX.out] at h2
            cases h3 : Op.bytesLess l0[m].f0.toList a1.toList with
            | false => rfl
            | true => have := bless_trans h2 h3; rw [HX2.out] at this; cases this⟩, ⟨below_step HB.out hb1⟩⟩
        case measure => simp [intOf]; omega
    · have hie : i = j := by omega
      subst hie
      have HI := Aside0.mk (lowAt_is hj HL.out (fun h => HG.out i h (Nat.le_refl _)))
      by_cases hn : i < l0.length
      · have p1 : 0 ≤ (i : Int) := by omega
        have q1 : (i : Int) < (l0.length : Int) := by omega
        obtain ⟨ad1, e1, hx0, hx1⟩ := at_T65 HR0.out (i : Int) p1 q1
        cases e1
        replace hx0 := (HB.out.cell (World.block_lt_of_cell? w _ hx0)).trans hx0
        replace hx1 := (HB.out.cell (World.block_lt_of_cell? w _ hx1)).trans hx1
        rw [Int.toNat_natCast] at hx0 hx1
        obtain ⟨x, hx⟩ : ∃ x, x = rd_T65 l0 (i : Int) := ⟨_, rfl⟩
        rw [← hx] at hx0 hx1
        have HX := Aside0.mk hx
        clear hx
        obtain ⟨c, hcc⟩ : ∃ c, c = cmpS x.f0 a1 := ⟨_, rfl⟩
        have HC := Aside0.mk hcc
        clear hcc
        by_cases hz : c = 0
        · have HZ : hasAt l0 a1 = true := by
            unfold hasAt
            rw [HI.out, ← HX.out, decide_eq_true hn, decide_eq_true (cmpS_zero.1 (HC.out ▸ hz))]
            rfl
          have HZ2 := Aside0.mk HZ
          clear HZ
          have hz2 : (c == 0) = true := beq_iff_eq.2 hz
          have HZ3 := Aside0.mk hz
          clear hz
          go_wp2_with fail
          refine (pairAt_closure x a1 _).mono ?_
          rintro e w1 ⟨rfl, hb1⟩
          rw [← HC.out]
          go_wp2_with fail
          go_ret2
          exact ⟨by rw [HI.out, HZ2.out]; rfl, below_step HB.out hb1⟩
        · have HZ : hasAt l0 a1 = false := by
            unfold hasAt
            rw [HI.out, ← HX.out, decide_eq_false (fun e => hz (HC.out.trans (cmpS_zero.2 e)))]
            simp
          have HZ2 := Aside0.mk HZ
          clear HZ
          have hz2 : (c == 0) = false := beq_eq_false_iff_ne.2 hz
          have HZ3 := Aside0.mk hz
          clear hz
          go_wp2_with fail
          refine (pairAt_closure x a1 _).mono ?_
          rintro e w1 ⟨rfl, hb1⟩
          rw [← HC.out]
          go_wp2_with fail
          go_ret2
          exact ⟨by rw [HI.out, HZ2.out]; rfl, below_step HB.out hb1⟩
      · have HZ : hasAt l0 a1 = false := by
          unfold hasAt
          rw [HI.out, decide_eq_false hn]
          rfl
        have HZ2 := Aside0.mk HZ
        clear HZ
        go_wp2_with fail
        go_ret2
        exact ⟨by rw [HI.out, HZ2.out]; rfl, HB.out⟩
set_option maxHeartbeats 1000000 in
set_option maxRecDepth 100000 in
theorem impl_pairAt.calls (A0 : Option Addr) (c0 : Nat) (l0 : List (S65)) (a1 : ByteArray) (r1 : Int) (r2 : Bool) (w : World) (hr0 : Kd.C k65 w A0 l0.length l0) (hc0 : l0.length ≤ c0) (h : impl_pairAt.f l0 a1 = some (r1, r2)) :
    Calls Try.prog 70 #[.slice A0 l0.length c0, .string a1] w fun e w' => e = .returned (.tuple #[.int .i64 r1, .bool r2]) ∧ Below w.heap.size w w' := by
  unfold impl_pairAt.f at h
  by_cases hs : Rises l0 ∧ l0.length ≤ 1000000
  · rw [if_pos hs] at h
    have h' := Option.some.inj h
    clear h
    obtain ⟨rfl, rfl⟩ := Prod.mk.inj h'
    clear h'
    have HC := Aside0.mk (binarySearch_pairs A0 c0 l0 a1 w hr0 hs.1 hs.2)
    clear hr0 hs
    generalize hasAt l0 a1 = b at HC ⊢
    generalize lowAt l0 a1 = i at HC ⊢
    go_enter Try.func70, Try.ntmps70
    go_wp2_with fail
    refine HC.out.mono ?_
    rintro e w1 ⟨rfl, hb1⟩
    go_wp2_with fail
    go_ret2
    exact ⟨rfl, hb1⟩
  · rw [if_neg hs] at h
    cases h
end Go.Proofs.Ytonfmdgklgdgfaa.X
namespace Go.Proofs.Ytonfmdgklgdgfaa.X
open Go.RowKit Go.Proofs.YtonfmdgklgdgfaaW.PrintWords Go.Proofs.YtonfmdgklgdgfaaW.PrintLast Go.Proofs.YtonfmdgklgdgfaaW.PrintMore
attribute [local go_sem] xbin_geq xbin_leq xbin_gtr max2_int min2_int max_two min_two max_three min_three max_four min_four
set_option linter.unusedVariables false
set_option linter.unusedSimpArgs false
def impl_PairsOK.f (k : Nat) (l0 : List (S65)) : Option (Bool) := if (l0.length : Int) ≤ 60 then ((impl_risingPairs.f k l0).bind fun t201 => (some t201)) else (some false)
theorem impl_PairsOK.mono : ∀ a0 k, LeO (impl_PairsOK.f k a0) (impl_PairsOK.f (k + 1) a0) := by
 intro a0 k
 unfold impl_PairsOK.f
 repeat' first
   | (with_reducible exact impl_risingPairs.mono _ _)
   | (with_reducible exact LeO.refl _)
   | (with_reducible exact LeO.none _)
   | (with_reducible refine LeO.ite ?_ ?_)
   | (with_reducible refine LeO.bind ?_ (fun _ => ?_))
   | exact impl_risingPairs.mono _ _
   | exact LeO.none _
   | refine LeO.ite ?_ ?_
   | refine LeO.bind ?_ (fun _ => ?_)
set_option maxHeartbeats 8000000 in
set_option maxRecDepth 100000 in
theorem impl_PairsOK.calls (k : Nat) (A0 : Option Addr) (c0 : Nat) (l0 : List (S65)) (r : Bool) (w : World) (hr0 : Kd.C k65 w A0 l0.length l0) (hc0 : l0.length ≤ c0) (h : impl_PairsOK.f k l0 = some r) :
  Calls Try.prog 29 #[.slice A0 l0.length c0] w fun e w' => e = .returned (.bool r) ∧ Below w.heap.size w w' := by
 have HR0 := Aside0.mk hr0
 have HC0 := Aside0.mk hc0
 clear hr0 hc0
 have HB := Aside0.mk (Below.refl w.heap.size w)
 have H : (if (l0.length : Int) ≤ 60 then ((impl_risingPairs.f k l0).bind fun t201 => (some t201)) else (some false)) = some r := h
 clear h
 by_cases c2 : (l0.length : Int) ≤ 60
 ·rw [if_pos c2] at H
  have c2b0 : decide ((l0.length : Int) ≤ 60) = true := decide_eq_true c2
  have c2b1 : decide (l0.length ≤ 60) = true := decide_eq_true (by omega)
  clear c2
  replace H := Option.bind_eq_some_iff.mp H
  obtain ⟨t201, A30, H⟩ := H
  replace H : (some t201) = some r := H
  have A3 := Aside0.mk A30
  clear A30
  obtain rfl := Option.some.inj H
  go_enter Try.func29, Try.ntmps29
  go_wp2_with (first | (go_at_call 60; (with_reducible refine (impl_risingPairs.calls k _ _ l0 t201 _ ?side1 ?side2 A3.out).mono ?_); (case side1 => repeat (first | exact HR0.out | (with_reducible refine Kd.C_alloc ?_ _) | (with_reducible refine Kd.C_drewN ?_ _) | (with_reducible refine Kd.C_drew ?_))); (case side2 => exact HC0.out); rintro e w4 ⟨rfl, hb⟩; have n0_ := Aside0.mk (below_step (by repeat (first | (with_reducible first | exact HB.out | apply below_alloc | apply pw_below_drewN | apply below_drew1) | exact HB.out)) hb); clear HB; have HB := n0_; clear n0_; (try clear hb); (try clear hb2); (try clear hk); (try clear hi)))
  go_ret
  exact ⟨by first | rfl | (simp [errW_none, errW_some] <;> rfl) | (simp [*, errW_none, errW_some] <;> rfl), by repeat (first | (with_reducible first | exact HB.out | apply below_alloc | apply pw_below_drewN | apply below_drew1) | exact HB.out)⟩
 ·rw [if_neg c2] at H
  have c2b0 : decide ((l0.length : Int) ≤ 60) = false := decide_eq_false c2
  have c2b1 : decide (l0.length ≤ 60) = false := decide_eq_false (by omega)
  clear c2
  obtain rfl := Option.some.inj H
  go_enter Try.func29, Try.ntmps29
  go_wp2
  go_ret
  exact ⟨by first | rfl | (simp [errW_none, errW_some] <;> rfl) | (simp [*, errW_none, errW_some] <;> rfl), by repeat (first | (with_reducible first | exact HB.out | apply below_alloc | apply pw_below_drewN | apply below_drew1) | exact HB.out)⟩
end Go.Proofs.Ytonfmdgklgdgfaa.X
