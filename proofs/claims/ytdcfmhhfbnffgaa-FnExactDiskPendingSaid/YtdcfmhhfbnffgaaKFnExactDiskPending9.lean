import Derived.Test.YtdcfmhhfbnffgaaKFnExactDiskPending3
import Derived.Test.YtdcfmhhfbnffgaaKFnExactDiskPending7
import Derived.Test.YtdcfmhhfbnffgaaKFnExactDiskPending8
import Derived.LoopTactic
import Derived.WalkSpells
import Derived.Outline
import Derived.Shelf.Sort.Plain
import Derived.Sort.OwnSortedInts
namespace Go.Proofs.Ytdcfmhhfbnffgaa.X
open Go.RowKit Go.Proofs.YtdcfmhhfbnffgaaW.PrintWords Go.Proofs.YtdcfmhhfbnffgaaW.PrintLast Go.Proofs.YtdcfmhhfbnffgaaW.PrintMore
attribute [local go_sem] xbin_geq xbin_leq xbin_gtr max2_int min2_int max_two min_two max_three min_three max_four min_four
set_option linter.unusedVariables false
set_option linter.unusedSimpArgs false
def pendB (n : Nat) (p : S43) : Bool := decide (0 ≤ p.f0 ∧ p.f0 ≤ (n : Int) - 1) && decide (p.f1.size ≤ 420)
def diskB (s : List ByteArray) (c : List S43) (a : Bool) (k : List Int) : Bool := decide (1 ≤ s.length ∧ s.length ≤ 80) && (decide (c.length ≤ 500) && (decide (k.length ≤ 500) && ((a || decide (k.length = 0)) && ((s.all fun t => decide (t.size ≤ 420)) && c.all (pendB s.length)))))
theorem within_is (a b c : Int) : impl_within.f a b c = some (decide (b ≤ a ∧ a ≤ c)) := by
  unfold impl_within.f
  by_cases h : a ≥ b
  · rw [if_pos h]; simp [h]
  · rw [if_neg h]; simp; omega
set_option maxRecDepth 100000 in
set_option maxHeartbeats 2000000 in
theorem diskOK_closure (x : S43) (A0 : Option Addr) (n c0 gb : Nat) (w : World) (hn : n ≤ 1000) (hc : w.cell? ⟨gb, 0, none⟩ = some (.slice A0 n c0)) : Calls Try.prog 32 #[.agg #[.int .i64 x.f0, .string x.f1], .pointer (some ⟨gb, 0, none⟩)] w fun e w' => e = .returned (.bool (!pendB n x)) ∧ Below w.heap.size w w' := by
  have hu := Try.underlying43
  have hu2 := Try.underlying32
  have HB0 := Aside0.mk ((Below.refl w.heap.size w).alloc (Nat.le_refl _) (.cells #[.int .i64 x.f0, .string x.f1] 43 (0, 0)))
  have hc2 := pw_cell_below HB0.out hc
  have hw := Aside0.mk (within_is x.f0 0 ((n : Int) - 1))
  have hwr : IntKind.i64.wrap ((n : Int) - 1) = (n : Int) - 1 := by rw [IntKind.wrap_i64]; omega
  by_cases h1 : 0 ≤ x.f0 ∧ x.f0 ≤ (n : Int) - 1
  · have h1b : decide (0 ≤ x.f0 ∧ x.f0 ≤ (n : Int) - 1) = true := decide_eq_true h1
    rw [h1b] at hw
    have hp : pendB n x = decide (x.f1.size ≤ 420) := by unfold pendB; rw [h1b]; rfl
    rw [hp]
    clear hp h1b h1
    by_cases h2 : x.f1.size ≤ 420
    · have h2b : decide (420 < (x.f1.size : Int)) = false := decide_eq_false (by omega)
      rw [decide_eq_true h2]
      go_enter Try.func32, Try.ntmps32
      go_wp2_with fail
      refine (impl_within.calls _ _ _ _ _ hw.out).mono ?_
      rintro e w' ⟨rfl, hb⟩
      have HB := Aside0.mk (show Below w.heap.size w w' from by first | exact below_step HB0.out hb | exact below_step HB0.out hb.below)
      have hl0 := by first | exact blk_below (blk_new w (.cells #[.int .i64 x.f0, .string x.f1] 43 (0, 0))) hb | exact blk_below (blk_new w (.cells #[.int .i64 x.f0, .string x.f1] 43 (0, 0))) hb.below
      have hl1 : w'.cell? ⟨w.heap.size, 1, none⟩ = some (.string x.f1) := blk_cell hl0 1
      clear hb hl0
      go_wp2_with fail
      go_ret
      exact ⟨rfl, HB.out⟩
    · have h2b : decide (420 < (x.f1.size : Int)) = true := decide_eq_true (by omega)
      rw [decide_eq_false h2]
      go_enter Try.func32, Try.ntmps32
      go_wp2_with fail
      refine (impl_within.calls _ _ _ _ _ hw.out).mono ?_
      rintro e w' ⟨rfl, hb⟩
      have HB := Aside0.mk (show Below w.heap.size w w' from by first | exact below_step HB0.out hb | exact below_step HB0.out hb.below)
      have hl0 := by first | exact blk_below (blk_new w (.cells #[.int .i64 x.f0, .string x.f1] 43 (0, 0))) hb | exact blk_below (blk_new w (.cells #[.int .i64 x.f0, .string x.f1] 43 (0, 0))) hb.below
      have hl1 : w'.cell? ⟨w.heap.size, 1, none⟩ = some (.string x.f1) := blk_cell hl0 1
      clear hb hl0
      go_wp2_with fail
      go_ret
      exact ⟨rfl, HB.out⟩
  · have h1b : decide (0 ≤ x.f0 ∧ x.f0 ≤ (n : Int) - 1) = false := decide_eq_false h1
    rw [h1b] at hw
    have hp : pendB n x = false := by unfold pendB; rw [h1b]; rfl
    rw [hp]
    clear hp h1b h1
    go_enter Try.func32, Try.ntmps32
    go_wp2_with fail
    refine (impl_within.calls _ _ _ _ _ hw.out).mono ?_
    rintro e w' ⟨rfl, hb⟩
    have HB := Aside0.mk (show Below w.heap.size w w' from by first | exact below_step HB0.out hb | exact below_step HB0.out hb.below)
    clear hb
    go_wp2_with fail
    go_ret
    exact ⟨rfl, HB.out⟩
set_option maxRecDepth 100000 in
set_option maxHeartbeats 16000000 in
theorem diskOK_core (n m q : Nat) (A0_0 : Option Addr) (c0_0 : Nat) (l0_0 : List ByteArray) (A0_1 : Option Addr) (c0_1 : Nat) (l0_1 : List (S43)) (a0_2 : Bool) (A0_3 : Option Addr) (c0_3 : Nat) (w : World) (hn : l0_0.length = n) (hm : l0_1.length = m) (hn2 : n ≤ 9223372036854775807) (hm2 : m ≤ 9223372036854775807) (hq2 : q ≤ 9223372036854775807) (hr0_0 : Kd.C Kd.string w A0_0 n l0_0) (hr0_1 : Kd.C k43 w A0_1 m l0_1) :
    Calls Try.prog 20 #[.agg #[.slice A0_0 n c0_0, .slice A0_1 m c0_1, .bool a0_2, .slice A0_3 q c0_3]] w fun e w' => e = .returned (.bool (decide (1 ≤ n ∧ n ≤ 80) && (decide (m ≤ 500) && (decide (q ≤ 500) && ((a0_2 || decide (q = 0)) && ((l0_0.all fun t => decide (t.size ≤ 420)) && l0_1.all (pendB n))))))) ∧ Below w.heap.size w w' := by
  have hu := Try.underlying32
  have HB0 := Aside0.mk ((Below.refl w.heap.size w).alloc (Nat.le_refl _) (.cells #[.slice A0_0 n c0_0, .slice A0_1 m c0_1, .bool a0_2, .slice A0_3 q c0_3] 32 (0, 0)))
  have hbk := blk_new w (.cells #[.slice A0_0 n c0_0, .slice A0_1 m c0_1, .bool a0_2, .slice A0_3 q c0_3] 32 (0, 0))
  have HR0 := Aside0.mk hr0_0
  have HR1 := Aside0.mk hr0_1
  have HN := Aside0.mk hn
  have HM := Aside0.mk hm
  clear hn hm
  have hw := Aside0.mk (within_is (n : Int) 1 80)
  by_cases h1 : 1 ≤ (n : Int) ∧ (n : Int) ≤ 80
  · have h1b : decide (1 ≤ (n : Int) ∧ (n : Int) ≤ 80) = true := decide_eq_true h1
    rw [h1b] at hw
    rw [decide_eq_true (show 1 ≤ n ∧ n ≤ 80 by omega), Bool.true_and]
    clear h1b
    by_cases h2 : m ≤ 500
    · have h2b : decide (500 < (m : Int)) = false := decide_eq_false (by omega)
      rw [decide_eq_true h2, Bool.true_and]
      by_cases h3 : q ≤ 500
      · have h3b : decide (500 < (q : Int)) = false := decide_eq_false (by omega)
        rw [decide_eq_true h3, Bool.true_and]
        by_cases h4 : q = 0
        · have h4b : decide (0 < (q : Int)) = false := decide_eq_false (by omega)
          have h4c : decide (0 < q) = false := decide_eq_false (by omega)
          rw [decide_eq_true h4, Bool.or_true, Bool.true_and]
          have h5 := Aside0.mk h4
          clear h4
          have eg : ∀ args w, (callFunc 32 args).run Try.prog w = .ok (.enter 32 args) w := fun args w => enters_here Try.func32 (by kernel_rfl) rfl args w
          have HEG := Aside0.mk eg
          clear eg hr0_0 hr0_1
          go_enter Try.func20, Try.ntmps20
          go_wp2_with fail
          refine (impl_within.calls _ _ _ _ _ hw.out).mono ?_
          rintro e w1 ⟨rfl, hb⟩
          have HB := Aside0.mk (show Below w.heap.size w w1 from by first | exact below_step HB0.out hb | exact below_step HB0.out hb.below)
          have HK1 := Aside0.mk (by first | exact blk_below hbk hb | exact blk_below hbk hb.below)
          have hk0 := blk_cell HK1.out 0
          have hk1 := blk_cell HK1.out 1
          have hk2 := blk_cell HK1.out 2
          have hk3 := blk_cell HK1.out 3
          replace hk0 : w1.cell? ⟨w.heap.size, 0, none⟩ = some (.slice A0_0 n c0_0) := hk0
          replace hk1 : w1.cell? ⟨w.heap.size, 1, none⟩ = some (.slice A0_1 m c0_1) := hk1
          replace hk2 : w1.cell? ⟨w.heap.size, 2, none⟩ = some (.bool a0_2) := hk2
          replace hk3 : w1.cell? ⟨w.heap.size, 3, none⟩ = some (.slice A0_3 q c0_3) := hk3
          clear hb hbk
          have HRs := Aside0.mk (Kd.C_below HR0.out HB.out)
          have HRc := Aside0.mk (Kd.C_below HR1.out HB.out)
          clear HR0 HR1 HB0
          go_wp2_with fail
          go_loopw [36] (fun v36 wr => ∃ k : Nat, k ≤ n ∧ v36 = .int .i64 k ∧ Aside0 (∀ j (hj : j < l0_0.length), j < k → l0_0[j].size ≤ 420) ∧ wr = w1) (fun v36 _ => n - (intOf v36).toNat)
          case atStart => exact ⟨0, Nat.zero_le _, rfl, ⟨fun j hj h => absurd h (by omega)⟩, rfl⟩
          case round =>
            obtain ⟨k, hk, rfl, HA, rfl⟩ := hrel
            by_cases hlt : k < n
            · have c1 : decide ((k : Int) < (n : Int)) = true := decide_eq_true (by omega)
              obtain ⟨ad, e, hx⟩ := Kd.at_string HRs.out (k : Int) (by omega) (by omega)
              cases e
              have hkl : k < l0_0.length := by rw [HN.out]; exact hlt
              have et : rdOf ByteArray.empty l0_0 (k : Int) = l0_0[k] := by unfold rdOf; rw [Int.toNat_natCast]; simp [List.getD_eq_getElem?_getD, hkl]
              rw [et, Int.toNat_natCast] at hx
              have hmem : l0_0[k] ∈ l0_0 := List.getElem_mem hkl
              obtain ⟨t, ht⟩ : ∃ t, t = l0_0[k] := ⟨_, rfl⟩
              rw [← ht] at hx hmem
              have HT := Aside0.mk ht
              have p1 : 0 ≤ (k : Int) := by omega
              have q1 : (k : Int) < (n : Int) := by omega
              have htz : (t.size : Int) ≤ 9223372036854775807 ∨ 9223372036854775807 < (t.size : Int) := by omega
              clear et ht htz
              by_cases hs : t.size ≤ 420
              · have c2 : decide (420 < (t.size : Int)) = false := decide_eq_false (by omega)
                go_wp2_with fail
                exact ⟨⟨k + 1, by omega, by go_num, ⟨fun j hj h => by
                  by_cases e : j = k
                  · subst e; rw [← HT.out]; exact hs
                  · exact HA.out j hj (by omega)⟩, trivial⟩, by simp [intOf]; omega⟩
              · have c2 : decide (420 < (t.size : Int)) = true := decide_eq_true (by omega)
                have HF := Aside0.mk (show (l0_0.all fun t => decide (t.size ≤ 420)) = false from by
                  rw [List.all_eq_false]
                  exact ⟨t, hmem, by simp; omega⟩)
                clear hmem
                go_wp2_with fail
                go_ret
                exact ⟨by rw [HF.out]; rfl, HB.out⟩
            · have he : k = n := by omega
              have c1 : decide ((k : Int) < (n : Int)) = false := decide_eq_false (by omega)
              have HF := Aside0.mk (show (l0_0.all fun t => decide (t.size ≤ 420)) = true from by
                rw [List.all_eq_true]
                intro x hx
                obtain ⟨j, hj, rfl⟩ := List.getElem_of_mem hx
                simp only [decide_eq_true_eq]
                exact HA.out j hj (by rw [he, ← HN.out]; exact hj))
              have HC := Aside0.mk (containsFunc_Pending (fun x => !pendB n x) 32 #[.pointer (some ⟨w.heap.size, 0, none⟩)] HEG.out A0_1 c0_1 l0_1 wr (by rw [HM.out]; exact HRc.out) (fun x W _ hW => diskOK_closure x A0_0 n c0_0 w.heap.size W (by omega) (pw_cell_below hW hk0)))
              rw [HM.out] at HC
              have HAN := Aside0.mk (any_not l0_1 (pendB n))
              rw [HAN.out] at HC
              obtain ⟨b, hb⟩ : ∃ b, b = l0_1.all (pendB n) := ⟨_, rfl⟩
              rw [← hb] at HC
              have HBb := Aside0.mk hb
              clear hb
              clear he HA HAN
              go_wp2_with fail
              refine HC.out.mono ?_
              rintro e w2 ⟨rfl, hb2⟩
              have HB2 := Aside0.mk (below_step HB.out hb2)
              clear hb2
              go_wp2_with fail
              go_ret
              exact ⟨by rw [HF.out, ← HBb.out]; simp, HB2.out⟩
        · have h4b : decide (0 < (q : Int)) = true := decide_eq_true (by omega)
          have h4c : decide (0 < q) = true := decide_eq_true (by omega)
          rw [decide_eq_false h4, Bool.or_false]
          cases a0_2 with
          | false =>
            rw [Bool.false_and]
            clear HR0 HR1 hr0_0 hr0_1
            go_enter Try.func20, Try.ntmps20
            go_wp2_with fail
            refine (impl_within.calls _ _ _ _ _ hw.out).mono ?_
            rintro e w1 ⟨rfl, hb⟩
            have HB := Aside0.mk (show Below w.heap.size w w1 from by first | exact below_step HB0.out hb | exact below_step HB0.out hb.below)
            have HK1 := Aside0.mk (by first | exact blk_below hbk hb | exact blk_below hbk hb.below)
            have hk0 := blk_cell HK1.out 0
            have hk1 := blk_cell HK1.out 1
            have hk2 := blk_cell HK1.out 2
            have hk3 := blk_cell HK1.out 3
            replace hk0 : w1.cell? ⟨w.heap.size, 0, none⟩ = some (.slice A0_0 n c0_0) := hk0
            replace hk1 : w1.cell? ⟨w.heap.size, 1, none⟩ = some (.slice A0_1 m c0_1) := hk1
            replace hk2 : w1.cell? ⟨w.heap.size, 2, none⟩ = some (.bool false) := hk2
            replace hk3 : w1.cell? ⟨w.heap.size, 3, none⟩ = some (.slice A0_3 q c0_3) := hk3
            clear hb hbk
            go_wp2_with fail
            go_ret
            exact ⟨rfl, HB.out⟩
          | true =>
            rw [Bool.true_and]
            have eg : ∀ args w, (callFunc 32 args).run Try.prog w = .ok (.enter 32 args) w := fun args w => enters_here Try.func32 (by kernel_rfl) rfl args w
            have HEG := Aside0.mk eg
            clear eg hr0_0 hr0_1
            go_enter Try.func20, Try.ntmps20
            go_wp2_with fail
            refine (impl_within.calls _ _ _ _ _ hw.out).mono ?_
            rintro e w1 ⟨rfl, hb⟩
            have HB := Aside0.mk (show Below w.heap.size w w1 from by first | exact below_step HB0.out hb | exact below_step HB0.out hb.below)
            have HK1 := Aside0.mk (by first | exact blk_below hbk hb | exact blk_below hbk hb.below)
            have hk0 := blk_cell HK1.out 0
            have hk1 := blk_cell HK1.out 1
            have hk2 := blk_cell HK1.out 2
            have hk3 := blk_cell HK1.out 3
            replace hk0 : w1.cell? ⟨w.heap.size, 0, none⟩ = some (.slice A0_0 n c0_0) := hk0
            replace hk1 : w1.cell? ⟨w.heap.size, 1, none⟩ = some (.slice A0_1 m c0_1) := hk1
            replace hk2 : w1.cell? ⟨w.heap.size, 2, none⟩ = some (.bool true) := hk2
            replace hk3 : w1.cell? ⟨w.heap.size, 3, none⟩ = some (.slice A0_3 q c0_3) := hk3
            clear hb hbk
            have HRs := Aside0.mk (Kd.C_below HR0.out HB.out)
            have HRc := Aside0.mk (Kd.C_below HR1.out HB.out)
            clear HR0 HR1 HB0
            go_wp2_with fail
            go_loopw [36] (fun v36 wr => ∃ k : Nat, k ≤ n ∧ v36 = .int .i64 k ∧ Aside0 (∀ j (hj : j < l0_0.length), j < k → l0_0[j].size ≤ 420) ∧ wr = w1) (fun v36 _ => n - (intOf v36).toNat)
            case atStart => exact ⟨0, Nat.zero_le _, rfl, ⟨fun j hj h => absurd h (by omega)⟩, rfl⟩
            case round =>
              obtain ⟨k, hk, rfl, HA, rfl⟩ := hrel
              by_cases hlt : k < n
              · have c1 : decide ((k : Int) < (n : Int)) = true := decide_eq_true (by omega)
                obtain ⟨ad, e, hx⟩ := Kd.at_string HRs.out (k : Int) (by omega) (by omega)
                cases e
                have hkl : k < l0_0.length := by rw [HN.out]; exact hlt
                have et : rdOf ByteArray.empty l0_0 (k : Int) = l0_0[k] := by unfold rdOf; rw [Int.toNat_natCast]; simp [List.getD_eq_getElem?_getD, hkl]
                rw [et, Int.toNat_natCast] at hx
                have hmem : l0_0[k] ∈ l0_0 := List.getElem_mem hkl
                obtain ⟨t, ht⟩ : ∃ t, t = l0_0[k] := ⟨_, rfl⟩
                rw [← ht] at hx hmem
                have HT := Aside0.mk ht
                have p1 : 0 ≤ (k : Int) := by omega
                have q1 : (k : Int) < (n : Int) := by omega
                have htz : (t.size : Int) ≤ 9223372036854775807 ∨ 9223372036854775807 < (t.size : Int) := by omega
                clear et ht htz
                by_cases hs : t.size ≤ 420
                · have c2 : decide (420 < (t.size : Int)) = false := decide_eq_false (by omega)
                  go_wp2_with fail
                  exact ⟨⟨k + 1, by omega, by go_num, ⟨fun j hj h => by
                    by_cases e : j = k
                    · subst e; rw [← HT.out]; exact hs
                    · exact HA.out j hj (by omega)⟩, trivial⟩, by simp [intOf]; omega⟩
                · have c2 : decide (420 < (t.size : Int)) = true := decide_eq_true (by omega)
                  have HF := Aside0.mk (show (l0_0.all fun t => decide (t.size ≤ 420)) = false from by
                    rw [List.all_eq_false]
                    exact ⟨t, hmem, by simp; omega⟩)
                  clear hmem
                  go_wp2_with fail
                  go_ret
                  exact ⟨by rw [HF.out]; rfl, HB.out⟩
              · have he : k = n := by omega
                have c1 : decide ((k : Int) < (n : Int)) = false := decide_eq_false (by omega)
                have HF := Aside0.mk (show (l0_0.all fun t => decide (t.size ≤ 420)) = true from by
                  rw [List.all_eq_true]
                  intro x hx
                  obtain ⟨j, hj, rfl⟩ := List.getElem_of_mem hx
                  simp only [decide_eq_true_eq]
                  exact HA.out j hj (by rw [he, ← HN.out]; exact hj))
                have HC := Aside0.mk (containsFunc_Pending (fun x => !pendB n x) 32 #[.pointer (some ⟨w.heap.size, 0, none⟩)] HEG.out A0_1 c0_1 l0_1 wr (by rw [HM.out]; exact HRc.out) (fun x W _ hW => diskOK_closure x A0_0 n c0_0 w.heap.size W (by omega) (pw_cell_below hW hk0)))
                rw [HM.out] at HC
                have HAN := Aside0.mk (any_not l0_1 (pendB n))
                rw [HAN.out] at HC
                obtain ⟨b, hb⟩ : ∃ b, b = l0_1.all (pendB n) := ⟨_, rfl⟩
                rw [← hb] at HC
                have HBb := Aside0.mk hb
                clear hb
                clear he HA HAN
                go_wp2_with fail
                refine HC.out.mono ?_
                rintro e w2 ⟨rfl, hb2⟩
                have HB2 := Aside0.mk (below_step HB.out hb2)
                clear hb2
                go_wp2_with fail
                go_ret
                exact ⟨by rw [HF.out, ← HBb.out]; simp, HB2.out⟩
      · have h3b : decide (500 < (q : Int)) = true := decide_eq_true (by omega)
        rw [decide_eq_false h3, Bool.false_and]
        clear HR0 HR1 hr0_0 hr0_1
        go_enter Try.func20, Try.ntmps20
        go_wp2_with fail
        refine (impl_within.calls _ _ _ _ _ hw.out).mono ?_
        rintro e w1 ⟨rfl, hb⟩
        have HB := Aside0.mk (show Below w.heap.size w w1 from by first | exact below_step HB0.out hb | exact below_step HB0.out hb.below)
        have HK1 := Aside0.mk (by first | exact blk_below hbk hb | exact blk_below hbk hb.below)
        have hk0 := blk_cell HK1.out 0
        have hk1 := blk_cell HK1.out 1
        have hk2 := blk_cell HK1.out 2
        have hk3 := blk_cell HK1.out 3
        replace hk0 : w1.cell? ⟨w.heap.size, 0, none⟩ = some (.slice A0_0 n c0_0) := hk0
        replace hk1 : w1.cell? ⟨w.heap.size, 1, none⟩ = some (.slice A0_1 m c0_1) := hk1
        replace hk2 : w1.cell? ⟨w.heap.size, 2, none⟩ = some (.bool a0_2) := hk2
        replace hk3 : w1.cell? ⟨w.heap.size, 3, none⟩ = some (.slice A0_3 q c0_3) := hk3
        clear hb hbk
        go_wp2_with fail
        go_ret
        exact ⟨rfl, HB.out⟩
    · have h2b : decide (500 < (m : Int)) = true := decide_eq_true (by omega)
      rw [decide_eq_false h2, Bool.false_and]
      clear HR0 HR1 hr0_0 hr0_1
      go_enter Try.func20, Try.ntmps20
      go_wp2_with fail
      refine (impl_within.calls _ _ _ _ _ hw.out).mono ?_
      rintro e w1 ⟨rfl, hb⟩
      have HB := Aside0.mk (show Below w.heap.size w w1 from by first | exact below_step HB0.out hb | exact below_step HB0.out hb.below)
      have HK1 := Aside0.mk (by first | exact blk_below hbk hb | exact blk_below hbk hb.below)
      have hk0 := blk_cell HK1.out 0
      have hk1 := blk_cell HK1.out 1
      have hk2 := blk_cell HK1.out 2
      have hk3 := blk_cell HK1.out 3
      replace hk0 : w1.cell? ⟨w.heap.size, 0, none⟩ = some (.slice A0_0 n c0_0) := hk0
      replace hk1 : w1.cell? ⟨w.heap.size, 1, none⟩ = some (.slice A0_1 m c0_1) := hk1
      replace hk2 : w1.cell? ⟨w.heap.size, 2, none⟩ = some (.bool a0_2) := hk2
      replace hk3 : w1.cell? ⟨w.heap.size, 3, none⟩ = some (.slice A0_3 q c0_3) := hk3
      clear hb hbk
      go_wp2_with fail
      go_ret
      exact ⟨rfl, HB.out⟩
  · have h1b : decide (1 ≤ (n : Int) ∧ (n : Int) ≤ 80) = false := decide_eq_false h1
    rw [h1b] at hw
    rw [decide_eq_false (show ¬ (1 ≤ n ∧ n ≤ 80) by omega), Bool.false_and]
    clear h1b
    clear HR0 HR1 hr0_0 hr0_1
    go_enter Try.func20, Try.ntmps20
    go_wp2_with fail
    refine (impl_within.calls _ _ _ _ _ hw.out).mono ?_
    rintro e w1 ⟨rfl, hb⟩
    have HB := Aside0.mk (show Below w.heap.size w w1 from by first | exact below_step HB0.out hb | exact below_step HB0.out hb.below)
    have HK1 := Aside0.mk (by first | exact blk_below hbk hb | exact blk_below hbk hb.below)
    have hk0 := blk_cell HK1.out 0
    have hk1 := blk_cell HK1.out 1
    have hk2 := blk_cell HK1.out 2
    have hk3 := blk_cell HK1.out 3
    replace hk0 : w1.cell? ⟨w.heap.size, 0, none⟩ = some (.slice A0_0 n c0_0) := hk0
    replace hk1 : w1.cell? ⟨w.heap.size, 1, none⟩ = some (.slice A0_1 m c0_1) := hk1
    replace hk2 : w1.cell? ⟨w.heap.size, 2, none⟩ = some (.bool a0_2) := hk2
    replace hk3 : w1.cell? ⟨w.heap.size, 3, none⟩ = some (.slice A0_3 q c0_3) := hk3
    clear hb hbk
    go_wp2_with fail
    go_ret
    exact ⟨rfl, HB.out⟩
def impl_DiskOK.f (l0_0 : List ByteArray) (l0_1 : List S43) (a0_2 : Bool) (l0_3 : List Int) : Option Bool := some (diskB l0_0 l0_1 a0_2 l0_3)
theorem impl_DiskOK.calls (A0_0 : Option Addr) (c0_0 : Nat) (l0_0 : List ByteArray) (A0_1 : Option Addr) (c0_1 : Nat) (l0_1 : List (S43)) (a0_2 : Bool) (A0_3 : Option Addr) (c0_3 : Nat) (l0_3 : List Int) (r : Bool) (w : World) (hr0_0 : Kd.C Kd.string w A0_0 l0_0.length l0_0) (hc0_0 : l0_0.length ≤ c0_0) (hr0_1 : Kd.C k43 w A0_1 l0_1.length l0_1) (hc0_1 : l0_1.length ≤ c0_1) (hr0_3 : Kd.C (Kd.int .i64) w A0_3 l0_3.length l0_3) (hc0_3 : l0_3.length ≤ c0_3) (h : impl_DiskOK.f l0_0 l0_1 a0_2 l0_3 = some r) :
    Calls Try.prog 20 #[.agg #[.slice A0_0 l0_0.length c0_0, .slice A0_1 l0_1.length c0_1, .bool a0_2, .slice A0_3 l0_3.length c0_3]] w fun e w' => e = .returned (.bool r) ∧ Below w.heap.size w w' := by
  unfold impl_DiskOK.f at h
  obtain rfl := Option.some.inj h
  exact diskOK_core l0_0.length l0_1.length l0_3.length A0_0 c0_0 l0_0 A0_1 c0_1 l0_1 a0_2 A0_3 c0_3 w rfl rfl hr0_0.2.1 hr0_1.2.1 hr0_3.2.1 hr0_0 hr0_1
end Go.Proofs.Ytdcfmhhfbnffgaa.X
namespace Go.Proofs.Ytdcfmhhfbnffgaa.X
open Go.RowKit Go.Proofs.YtdcfmhhfbnffgaaW.PrintWords Go.Proofs.YtdcfmhhfbnffgaaW.PrintLast Go.Proofs.YtdcfmhhfbnffgaaW.PrintMore
attribute [local go_sem] xbin_geq xbin_leq xbin_gtr max2_int min2_int max_two min_two max_three min_three max_four min_four
set_option linter.unusedVariables false
set_option linter.unusedSimpArgs false
open Go.Shelf Go.Sort
def Trysrt_ren : Go.Shelf.Ren := ⟨fun | 125 => 34 | 128 => 47 | 129 => 48 | 189 => 21 | 215 => 54 | 216 => 44 | 257 => 33 | 294 => 38 | 295 => 39 | 296 => 40 | 297 => 41 | 298 => 42 | 299 => 43 | 300 => 45 | 301 => 46 | 328 => 49 | 329 => 50 | 330 => 51 | 331 => 52 | 332 => 53 | 343 => 55 | n => n, fun | 0 => 0 | 3 => 3 | 4 => 4 | 5 => 5 | 9 => 9 | 28 => 24 | 46 => 59 | 51 => 73 | 53 => 75 | 131 => 70 | 182 => 64 | 183 => 65 | 218 => 77 | 222 => 81 | 228 => 84 | 229 => 85 | n => n, fun n => n⟩
theorem Trysrt189 : Go.Proofs.Lays.n189 Try.prog Trysrt_ren := {
  mixed := by kernel_rfl
  f125 := Try.func34.trans (congrArg some (by kernel_rfl))
  f128 := Try.func47.trans (congrArg some (by kernel_rfl))
  f129 := Try.func48.trans (congrArg some (by kernel_rfl))
  f189 := Try.func21.trans (congrArg some (by kernel_rfl))
  f215 := Try.func54.trans (congrArg some (by kernel_rfl))
  f216 := Try.func44.trans (congrArg some (by kernel_rfl))
  f257 := Try.func33.trans (congrArg some (by kernel_rfl))
  f294 := Try.func38.trans (congrArg some (by kernel_rfl))
  f295 := Try.func39.trans (congrArg some (by kernel_rfl))
  f296 := Try.func40.trans (congrArg some (by kernel_rfl))
  f297 := Try.func41.trans (congrArg some (by kernel_rfl))
  f298 := Try.func42.trans (congrArg some (by kernel_rfl))
  f299 := Try.func43.trans (congrArg some (by kernel_rfl))
  f300 := Try.func45.trans (congrArg some (by kernel_rfl))
  f301 := Try.func46.trans (congrArg some (by kernel_rfl))
  f328 := Try.func49.trans (congrArg some (by kernel_rfl))
  f329 := Try.func50.trans (congrArg some (by kernel_rfl))
  f330 := Try.func51.trans (congrArg some (by kernel_rfl))
  f331 := Try.func52.trans (congrArg some (by kernel_rfl))
  f332 := Try.func53.trans (congrArg some (by kernel_rfl))
  f343 := Try.func55.trans (congrArg some (by kernel_rfl))
  t0 := Try.underlying0
  a0 := Try.isAgg0
  z0 := Try.sizeOf0
  v0 := Try.zeroValue0
  t3 := Try.underlying3
  a3 := Try.isAgg3
  z3 := Try.sizeOf3
  v3 := Try.zeroValue3
  t4 := Try.underlying4
  a4 := Try.isAgg4
  z4 := Try.sizeOf4
  v4 := Try.zeroValue4
  t5 := Try.underlying5
  a5 := Try.isAgg5
  z5 := Try.sizeOf5
  v5 := Try.zeroValue5
  t9 := Try.underlying9
  a9 := Try.isAgg9
  z9 := Try.sizeOf9
  v9 := Try.zeroValue9
  t28 := Try.underlying24
  a28 := Try.isAgg24
  z28 := Try.sizeOf24
  v28 := Try.zeroValue24
  t46 := Try.underlying59
  a46 := Try.isAgg59
  z46 := Try.sizeOf59
  v46 := Try.zeroValue59
  t51 := Try.underlying73
  a51 := Try.isAgg73
  z51 := Try.sizeOf73
  v51 := Try.zeroValue73
  t53 := Try.underlying75
  a53 := Try.isAgg75
  z53 := Try.sizeOf75
  v53 := Try.zeroValue75
  t131 := Try.underlying70
  a131 := Try.isAgg70
  z131 := Try.sizeOf70
  v131 := Try.zeroValue70
  t182 := Try.underlying64
  a182 := Try.isAgg64
  z182 := Try.sizeOf64
  v182 := Try.zeroValue64
  t183 := Try.underlying65
  a183 := Try.isAgg65
  z183 := Try.sizeOf65
  v183 := Try.zeroValue65
  t218 := Try.underlying77
  a218 := Try.isAgg77
  z218 := Try.sizeOf77
  v218 := Try.zeroValue77
  t222 := Try.underlying81
  a222 := Try.isAgg81
  z222 := Try.sizeOf81
  v222 := Try.zeroValue81
  t228 := Try.underlying84
  a228 := Try.isAgg84
  z228 := Try.sizeOf84
  v228 := Try.zeroValue84
  t229 := Try.underlying85
  a229 := Try.isAgg85
  z229 := Try.sizeOf85
  v229 := Try.zeroValue85 }
theorem Tryslices_Sort_int (blk off cap : Nat) (zs : List Int) (w : World) (hH : Holds (Value.int .i64) w blk off zs.toArray) (hblk : blk < w.heap.size) (hsz : zs.length < 4611686018427387904) :
    Calls Try.prog 21 #[.slice (some ⟨blk, off, none⟩) zs.length cap] w fun e w' =>
      e = .returned (.tuple #[]) ∧ ∃ n os, w' = grow (putRow (Value.int .i64) (Sort.ahead w n) blk off (zs.mergeSort fun x y => decide (x ≤ y)).toArray) os := Any.slices_Sort_int Trysrt189 blk off cap zs w hH hblk hsz
theorem sort_own (w0 w : World) (ok : Nat → Prop) (g n cap : Nat) (zs : List Int) (hB : Below w0.heap.size w0 w) (hR : Kd.R (Kd.int .i64) 3 w w0.heap.size ok (.slice (some ⟨g, 0, none⟩) n cap) zs) (hsz : zs.length < 4611686018427387904) :
    Calls Try.prog 21 #[.slice (some ⟨g, 0, none⟩) n cap] w fun e w' => e = .returned (.tuple #[]) ∧ Kd.R (Kd.int .i64) 3 w' w0.heap.size ok (.slice (some ⟨g, 0, none⟩) n cap) (zs.mergeSort fun x y => decide (x ≤ y)) ∧ Below w0.heap.size w0 w' ∧ w.grownBy w' (some g) := by
  obtain ⟨cur, inner, hn, hbg, hh, hnc, hcm, hcs, ht, hr, hok⟩ := R_blk hR
  rw [show (Kd.int .i64).sz = 1 from rfl] at hcs ht hr
  have hin : inner = zs.map (Value.int .i64) := by
    refine List.ext_getElem? fun j => ?_
    by_cases hj : j < zs.length
    · have h1 := hr.2 j _ (List.getElem?_eq_getElem hj)
      have h2 : (inner.drop (j * 1)).take 1 = [Value.int .i64 zs[j]] := (show Kd.K (Kd.int .i64) w zs[j] _ from Kd.K_of_M _ h1)
      rw [Nat.mul_one] at h2
      have h3 : inner[j]? = some (Value.int .i64 zs[j]) := by
        have := congrArg (fun l => l[0]?) h2
        simpa [List.getElem?_take, List.getElem?_drop] using this
      rw [h3]
      simp [hj]
    · rw [List.getElem?_eq_none (by rw [hr.1]; omega), List.getElem?_eq_none (by simp; omega)]
  have hl2 : (zs.mergeSort fun x y => decide (x ≤ y)).length = zs.length := List.length_mergeSort _
  subst hn
  refine (Tryslices_Sort_int g 0 cap zs w (holds_of_blockI hh (by rw [Nat.mul_one] at ht; rw [ht, hin])) (blk_lt hh) hsz).mono ?_
  rintro e w' ⟨rfl, k, os, rfl⟩
  have hg : w.grownBy (grow (putRow (Value.int .i64) (Sort.ahead w k) g 0 (zs.mergeSort fun x y => decide (x ≤ y)).toArray) os) (some g) := grownBy_sortedI _
  refine ⟨rfl, ?_, hB.grown hg hB.size (fun q hq => by injection hq with hq; subst hq; exact hbg), hg⟩
  refine R_of_blk hl2.symm hbg (heap_sortedI _ hh) hnc hcm (by rw [show (Kd.int .i64).sz = 1 from rfl]; simp [putCells]; simpa using hcs) (inner := (zs.mergeSort fun x y => decide (x ≤ y)).map (Value.int .i64)) ?_ ?_ hok
  · rw [show (Kd.int .i64).sz = 1 from rfl, Nat.mul_one, ← hl2]
    exact take_putCellsI cur _ (by rw [hl2]; omega)
  · refine ⟨by rw [List.length_map]; exact (Nat.mul_one _).symm, fun j p hj => ?_⟩
    have hjl : j < (zs.mergeSort fun x y => decide (x ≤ y)).length := (List.getElem?_eq_some_iff.1 hj).1
    rw [show (Kd.int .i64).sz = 1 from rfl, Nat.mul_one]
    show ((_ : List Value).drop j).take 1 = [Value.int .i64 p]
    rw [List.getElem?_eq_getElem hjl] at hj
    rw [← Option.some.inj hj, List.drop_eq_getElem_cons (by rw [List.length_map]; exact hjl)]
    simp
end Go.Proofs.Ytdcfmhhfbnffgaa.X
