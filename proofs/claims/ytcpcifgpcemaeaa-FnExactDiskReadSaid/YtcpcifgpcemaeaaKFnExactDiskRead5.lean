import Derived.Test.YtcpcifgpcemaeaaKFnExactDiskRead4
import Derived.LoopTactic
import Derived.WalkSpells
import Derived.Outline
namespace Go.Proofs.Ytcpcifgpcemaeaa.X
open Go.RowKit Go.Proofs.YtcpcifgpcemaeaaW.PrintWords Go.Proofs.YtcpcifgpcemaeaaW.PrintLast Go.Proofs.YtcpcifgpcemaeaaW.PrintMore
attribute [local go_sem] xbin_geq xbin_leq xbin_gtr max2_int min2_int max_two min_two max_three min_three max_four min_four
set_option linter.unusedVariables false
set_option linter.unusedSimpArgs false
def pendB (n : Nat) (p : S95) : Bool := decide (0 ≤ p.f0 ∧ p.f0 ≤ (n : Int) - 1) && decide (p.f1.size ≤ 420)
def diskB (s : List ByteArray) (c : List S95) (a : Bool) (k : List Int) : Bool := decide (1 ≤ s.length ∧ s.length ≤ 80) && (decide (c.length ≤ 500) && (decide (k.length ≤ 500) && ((a || decide (k.length = 0)) && ((s.all fun t => decide (t.size ≤ 420)) && c.all (pendB s.length)))))
theorem within_is (a b c : Int) : impl_within.f a b c = some (decide (b ≤ a ∧ a ≤ c)) := by
  unfold impl_within.f
  by_cases h : a ≥ b
  · rw [if_pos h]; simp [h]
  · rw [if_neg h]; simp; omega
set_option maxRecDepth 100000 in
set_option maxHeartbeats 2000000 in
theorem diskOK_closure (x : S95) (A0 : Option Addr) (n c0 gb : Nat) (w : World) (hn : n ≤ 1000) (hc : w.cell? ⟨gb, 0, none⟩ = some (.slice A0 n c0)) : Calls Try.prog 74 #[.agg #[.int .i64 x.f0, .string x.f1], .pointer (some ⟨gb, 0, none⟩)] w fun e w' => e = .returned (.bool (!pendB n x)) ∧ Below w.heap.size w w' := by
  have hu := Try.underlying95
  have hu2 := Try.underlying26
  have HB0 := Aside0.mk ((Below.refl w.heap.size w).alloc (Nat.le_refl _) (.cells #[.int .i64 x.f0, .string x.f1] 95 (0, 0)))
  have hc2 := pw_cell_below HB0.out hc
  have hw := Aside0.mk (within_is x.f0 0 ((n : Int) - 1))
  have hwr : IntKind.i64.wrap ((n : Int) - 1) = (n : Int) - 1 := by rw [IntKind.wrap_i64]; omega
  by_cases h1 : 0 ≤ x.f0 ∧ x.f0 ≤ (n : Int) - 1
  · have h1b : decide (0 ≤ x.f0 ∧ x.f0 ≤ (n : Int) - 1) = true := decide_eq_true h1
    rw [h1b] at hw
    have hp : pendB n x = decide (x.f1.size ≤ 420) := by unfold pendB; rw [h1b]; rfl
    rw [hp]
    clear hp h1b h1
    by_cases h2 : x.f1.size ≤ 420
    · have h2b : decide (420 < (x.f1.size : Int)) = false := decide_eq_false (by omega)
      rw [decide_eq_true h2]
      go_enter Try.func74, Try.ntmps74
      go_wp2_with fail
      refine (impl_within.calls _ _ _ _ _ hw.out).mono ?_
      rintro e w' ⟨rfl, hb⟩
      have HB := Aside0.mk (show Below w.heap.size w w' from by first | exact below_step HB0.out hb | exact below_step HB0.out hb.below)
      have hl0 := by first | exact blk_below (blk_new w (.cells #[.int .i64 x.f0, .string x.f1] 95 (0, 0))) hb | exact blk_below (blk_new w (.cells #[.int .i64 x.f0, .string x.f1] 95 (0, 0))) hb.below
      have hl1 : w'.cell? ⟨w.heap.size, 1, none⟩ = some (.string x.f1) := blk_cell hl0 1
      clear hb hl0
      go_wp2_with fail
      go_ret
      exact ⟨rfl, HB.out⟩
    · have h2b : decide (420 < (x.f1.size : Int)) = true := decide_eq_true (by omega)
      rw [decide_eq_false h2]
      go_enter Try.func74, Try.ntmps74
      go_wp2_with fail
      refine (impl_within.calls _ _ _ _ _ hw.out).mono ?_
      rintro e w' ⟨rfl, hb⟩
      have HB := Aside0.mk (show Below w.heap.size w w' from by first | exact below_step HB0.out hb | exact below_step HB0.out hb.below)
      have hl0 := by first | exact blk_below (blk_new w (.cells #[.int .i64 x.f0, .string x.f1] 95 (0, 0))) hb | exact blk_below (blk_new w (.cells #[.int .i64 x.f0, .string x.f1] 95 (0, 0))) hb.below
      have hl1 : w'.cell? ⟨w.heap.size, 1, none⟩ = some (.string x.f1) := blk_cell hl0 1
      clear hb hl0
      go_wp2_with fail
      go_ret
      exact ⟨rfl, HB.out⟩
  · have h1b : decide (0 ≤ x.f0 ∧ x.f0 ≤ (n : Int) - 1) = false := decide_eq_false h1
    rw [h1b] at hw
    have hp : pendB n x = false := by unfold pendB; rw [h1b]; rfl
    rw [hp]
    clear hp h1b h1
    go_enter Try.func74, Try.ntmps74
    go_wp2_with fail
    refine (impl_within.calls _ _ _ _ _ hw.out).mono ?_
    rintro e w' ⟨rfl, hb⟩
    have HB := Aside0.mk (show Below w.heap.size w w' from by first | exact below_step HB0.out hb | exact below_step HB0.out hb.below)
    clear hb
    go_wp2_with fail
    go_ret
    exact ⟨rfl, HB.out⟩
set_option maxRecDepth 100000 in
set_option maxHeartbeats 16000000 in
theorem diskOK_core (n m q : Nat) (A0_0 : Option Addr) (c0_0 : Nat) (l0_0 : List ByteArray) (A0_1 : Option Addr) (c0_1 : Nat) (l0_1 : List (S95)) (a0_2 : Bool) (A0_3 : Option Addr) (c0_3 : Nat) (w : World) (hn : l0_0.length = n) (hm : l0_1.length = m) (hn2 : n ≤ 9223372036854775807) (hm2 : m ≤ 9223372036854775807) (hq2 : q ≤ 9223372036854775807) (hr0_0 : Kd.C Kd.string w A0_0 n l0_0) (hr0_1 : Kd.C k95 w A0_1 m l0_1) :
    Calls Try.prog 23 #[.agg #[.slice A0_0 n c0_0, .slice A0_1 m c0_1, .bool a0_2, .slice A0_3 q c0_3]] w fun e w' => e = .returned (.bool (decide (1 ≤ n ∧ n ≤ 80) && (decide (m ≤ 500) && (decide (q ≤ 500) && ((a0_2 || decide (q = 0)) && ((l0_0.all fun t => decide (t.size ≤ 420)) && l0_1.all (pendB n))))))) ∧ Below w.heap.size w w' := by
  have hu := Try.underlying26
  have HB0 := Aside0.mk ((Below.refl w.heap.size w).alloc (Nat.le_refl _) (.cells #[.slice A0_0 n c0_0, .slice A0_1 m c0_1, .bool a0_2, .slice A0_3 q c0_3] 26 (0, 0)))
  have hbk := blk_new w (.cells #[.slice A0_0 n c0_0, .slice A0_1 m c0_1, .bool a0_2, .slice A0_3 q c0_3] 26 (0, 0))
  have HR0 := Aside0.mk hr0_0
  have HR1 := Aside0.mk hr0_1
  have HN := Aside0.mk hn
  have HM := Aside0.mk hm
  clear hn hm
  have hw := Aside0.mk (within_is (n : Int) 1 80)
  by_cases h1 : 1 ≤ (n : Int) ∧ (n : Int) ≤ 80
  · have h1b : decide (1 ≤ (n : Int) ∧ (n : Int) ≤ 80) = true := decide_eq_true h1
    rw [h1b] at hw
    rw [decide_eq_true (show 1 ≤ n ∧ n ≤ 80 by omega), Bool.true_and]
    clear h1b
    by_cases h2 : m ≤ 500
    · have h2b : decide (500 < (m : Int)) = false := decide_eq_false (by omega)
      rw [decide_eq_true h2, Bool.true_and]
      by_cases h3 : q ≤ 500
      · have h3b : decide (500 < (q : Int)) = false := decide_eq_false (by omega)
        rw [decide_eq_true h3, Bool.true_and]
        by_cases h4 : q = 0
        · have h4b : decide (0 < (q : Int)) = false := decide_eq_false (by omega)
          have h4c : decide (0 < q) = false := decide_eq_false (by omega)
          rw [decide_eq_true h4, Bool.or_true, Bool.true_and]
          have h5 := Aside0.mk h4
          clear h4
          have eg : ∀ args w, (callFunc 74 args).run Try.prog w = .ok (.enter 74 args) w := fun args w => enters_here Try.func74 (by kernel_rfl) rfl args w
          have HEG := Aside0.mk eg
          clear eg hr0_0 hr0_1
          go_enter Try.func23, Try.ntmps23
          go_wp2_with fail
          refine (impl_within.calls _ _ _ _ _ hw.out).mono ?_
          rintro e w1 ⟨rfl, hb⟩
          have HB := Aside0.mk (show Below w.heap.size w w1 from by first | exact below_step HB0.out hb | exact below_step HB0.out hb.below)
          have HK1 := Aside0.mk (by first | exact blk_below hbk hb | exact blk_below hbk hb.below)
          have hk0 := blk_cell HK1.out 0
          have hk1 := blk_cell HK1.out 1
          have hk2 := blk_cell HK1.out 2
          have hk3 := blk_cell HK1.out 3
          replace hk0 : w1.cell? ⟨w.heap.size, 0, none⟩ = some (.slice A0_0 n c0_0) := hk0
          replace hk1 : w1.cell? ⟨w.heap.size, 1, none⟩ = some (.slice A0_1 m c0_1) := hk1
          replace hk2 : w1.cell? ⟨w.heap.size, 2, none⟩ = some (.bool a0_2) := hk2
          replace hk3 : w1.cell? ⟨w.heap.size, 3, none⟩ = some (.slice A0_3 q c0_3) := hk3
          clear hb hbk
          have HRs := Aside0.mk (Kd.C_below HR0.out HB.out)
          have HRc := Aside0.mk (Kd.C_below HR1.out HB.out)
          clear HR0 HR1 HB0
          go_wp2_with fail
          go_loopw [36] (fun v36 wr => ∃ k : Nat, k ≤ n ∧ v36 = .int .i64 k ∧ Aside0 (∀ j (hj : j < l0_0.length), j < k → l0_0[j].size ≤ 420) ∧ wr = w1) (fun v36 _ => n - (intOf v36).toNat)
          case atStart => exact ⟨0, Nat.zero_le _, rfl, ⟨fun j hj h => absurd h (by omega)⟩, rfl⟩
          case round =>
            obtain ⟨k, hk, rfl, HA, rfl⟩ := hrel
            by_cases hlt : k < n
            · have c1 : decide ((k : Int) < (n : Int)) = true := decide_eq_true (by omega)
              obtain ⟨ad, e, hx⟩ := Kd.at_string HRs.out (k : Int) (by omega) (by omega)
              cases e
              have hkl : k < l0_0.length := by rw [HN.out]; exact hlt
              have et : rdOf ByteArray.empty l0_0 (k : Int) = l0_0[k] := by unfold rdOf; rw [Int.toNat_natCast]; simp [List.getD_eq_getElem?_getD, hkl]
              rw [et, Int.toNat_natCast] at hx
              have hmem : l0_0[k] ∈ l0_0 := List.getElem_mem hkl
              obtain ⟨t, ht⟩ : ∃ t, t = l0_0[k] := ⟨_, rfl⟩
              rw [← ht] at hx hmem
              have HT := Aside0.mk ht
              have p1 : 0 ≤ (k : Int) := by omega
              have q1 : (k : Int) < (n : Int) := by omega
              have htz : (t.size : Int) ≤ 9223372036854775807 ∨ 9223372036854775807 < (t.size : Int) := by omega
              clear et ht htz
              by_cases hs : t.size ≤ 420
              · have c2 : decide (420 < (t.size : Int)) = false := decide_eq_false (by omega)
                go_wp2_with fail
                exact ⟨⟨k + 1, by omega, by go_num, ⟨fun j hj h => by
                  by_cases e : j = k
                  · subst e; rw [← HT.out]; exact hs
                  · exact HA.out j hj (by omega)⟩, trivial⟩, by simp [intOf]; omega⟩
              · have c2 : decide (420 < (t.size : Int)) = true := decide_eq_true (by omega)
                have HF := Aside0.mk (show (l0_0.all fun t => decide (t.size ≤ 420)) = false from by
                  rw [List.all_eq_false]
                  exact ⟨t, hmem, by simp; omega⟩)
                clear hmem
                go_wp2_with fail
                go_ret
                exact ⟨by rw [HF.out]; rfl, HB.out⟩
            · have he : k = n := by omega
              have c1 : decide ((k : Int) < (n : Int)) = false := decide_eq_false (by omega)
              have HF := Aside0.mk (show (l0_0.all fun t => decide (t.size ≤ 420)) = true from by
                rw [List.all_eq_true]
                intro x hx
                obtain ⟨j, hj, rfl⟩ := List.getElem_of_mem hx
                simp only [decide_eq_true_eq]
                exact HA.out j hj (by rw [he, ← HN.out]; exact hj))
              have HC := Aside0.mk (containsFunc_Pending (fun x => !pendB n x) 74 #[.pointer (some ⟨w.heap.size, 0, none⟩)] HEG.out A0_1 c0_1 l0_1 wr (by rw [HM.out]; exact HRc.out) (fun x W _ hW => diskOK_closure x A0_0 n c0_0 w.heap.size W (by omega) (pw_cell_below hW hk0)))
              rw [HM.out] at HC
              have HAN := Aside0.mk (any_not l0_1 (pendB n))
              rw [HAN.out] at HC
              obtain ⟨b, hb⟩ : ∃ b, b = l0_1.all (pendB n) := ⟨_, rfl⟩
              rw [← hb] at HC
              have HBb := Aside0.mk hb
              clear hb
              clear he HA HAN
              go_wp2_with fail
              refine HC.out.mono ?_
              rintro e w2 ⟨rfl, hb2⟩
              have HB2 := Aside0.mk (below_step HB.out hb2)
              clear hb2
              go_wp2_with fail
              go_ret
              exact ⟨by rw [HF.out, ← HBb.out]; simp, HB2.out⟩
        · have h4b : decide (0 < (q : Int)) = true := decide_eq_true (by omega)
          have h4c : decide (0 < q) = true := decide_eq_true (by omega)
          rw [decide_eq_false h4, Bool.or_false]
          cases a0_2 with
          | false =>
            rw [Bool.false_and]
            clear HR0 HR1 hr0_0 hr0_1
            go_enter Try.func23, Try.ntmps23
            go_wp2_with fail
            refine (impl_within.calls _ _ _ _ _ hw.out).mono ?_
            rintro e w1 ⟨rfl, hb⟩
            have HB := Aside0.mk (show Below w.heap.size w w1 from by first | exact below_step HB0.out hb | exact below_step HB0.out hb.below)
            have HK1 := Aside0.mk (by first | exact blk_below hbk hb | exact blk_below hbk hb.below)
            have hk0 := blk_cell HK1.out 0
            have hk1 := blk_cell HK1.out 1
            have hk2 := blk_cell HK1.out 2
            have hk3 := blk_cell HK1.out 3
            replace hk0 : w1.cell? ⟨w.heap.size, 0, none⟩ = some (.slice A0_0 n c0_0) := hk0
            replace hk1 : w1.cell? ⟨w.heap.size, 1, none⟩ = some (.slice A0_1 m c0_1) := hk1
            replace hk2 : w1.cell? ⟨w.heap.size, 2, none⟩ = some (.bool false) := hk2
            replace hk3 : w1.cell? ⟨w.heap.size, 3, none⟩ = some (.slice A0_3 q c0_3) := hk3
            clear hb hbk
            go_wp2_with fail
            go_ret
            exact ⟨rfl, HB.out⟩
          | true =>
            rw [Bool.true_and]
            have eg : ∀ args w, (callFunc 74 args).run Try.prog w = .ok (.enter 74 args) w := fun args w => enters_here Try.func74 (by kernel_rfl) rfl args w
            have HEG := Aside0.mk eg
            clear eg hr0_0 hr0_1
            go_enter Try.func23, Try.ntmps23
            go_wp2_with fail
            refine (impl_within.calls _ _ _ _ _ hw.out).mono ?_
            rintro e w1 ⟨rfl, hb⟩
            have HB := Aside0.mk (show Below w.heap.size w w1 from by first | exact below_step HB0.out hb | exact below_step HB0.out hb.below)
            have HK1 := Aside0.mk (by first | exact blk_below hbk hb | exact blk_below hbk hb.below)
            have hk0 := blk_cell HK1.out 0
            have hk1 := blk_cell HK1.out 1
            have hk2 := blk_cell HK1.out 2
            have hk3 := blk_cell HK1.out 3
            replace hk0 : w1.cell? ⟨w.heap.size, 0, none⟩ = some (.slice A0_0 n c0_0) := hk0
            replace hk1 : w1.cell? ⟨w.heap.size, 1, none⟩ = some (.slice A0_1 m c0_1) := hk1
            replace hk2 : w1.cell? ⟨w.heap.size, 2, none⟩ = some (.bool true) := hk2
            replace hk3 : w1.cell? ⟨w.heap.size, 3, none⟩ = some (.slice A0_3 q c0_3) := hk3
            clear hb hbk
            have HRs := Aside0.mk (Kd.C_below HR0.out HB.out)
            have HRc := Aside0.mk (Kd.C_below HR1.out HB.out)
            clear HR0 HR1 HB0
            go_wp2_with fail
            go_loopw [36] (fun v36 wr => ∃ k : Nat, k ≤ n ∧ v36 = .int .i64 k ∧ Aside0 (∀ j (hj : j < l0_0.length), j < k → l0_0[j].size ≤ 420) ∧ wr = w1) (fun v36 _ => n - (intOf v36).toNat)
            case atStart => exact ⟨0, Nat.zero_le _, rfl, ⟨fun j hj h => absurd h (by omega)⟩, rfl⟩
            case round =>
              obtain ⟨k, hk, rfl, HA, rfl⟩ := hrel
              by_cases hlt : k < n
              · have c1 : decide ((k : Int) < (n : Int)) = true := decide_eq_true (by omega)
                obtain ⟨ad, e, hx⟩ := Kd.at_string HRs.out (k : Int) (by omega) (by omega)
                cases e
                have hkl : k < l0_0.length := by rw [HN.out]; exact hlt
                have et : rdOf ByteArray.empty l0_0 (k : Int) = l0_0[k] := by unfold rdOf; rw [Int.toNat_natCast]; simp [List.getD_eq_getElem?_getD, hkl]
                rw [et, Int.toNat_natCast] at hx
                have hmem : l0_0[k] ∈ l0_0 := List.getElem_mem hkl
                obtain ⟨t, ht⟩ : ∃ t, t = l0_0[k] := ⟨_, rfl⟩
                rw [← ht] at hx hmem
                have HT := Aside0.mk ht
                have p1 : 0 ≤ (k : Int) := by omega
                have q1 : (k : Int) < (n : Int) := by omega
                have htz : (t.size : Int) ≤ 9223372036854775807 ∨ 9223372036854775807 < (t.size : Int) := by omega
                clear et ht htz
                by_cases hs : t.size ≤ 420
                · have c2 : decide (420 < (t.size : Int)) = false := decide_eq_false (by omega)
                  go_wp2_with fail
                  exact ⟨⟨k + 1, by omega, by go_num, ⟨fun j hj h => by
                    by_cases e : j = k
                    · subst e; rw [← HT.out]; exact hs
                    · exact HA.out j hj (by omega)⟩, trivial⟩, by simp [intOf]; omega⟩
                · have c2 : decide (420 < (t.size : Int)) = true := decide_eq_true (by omega)
                  have HF := Aside0.mk (show (l0_0.all fun t => decide (t.size ≤ 420)) = false from by
                    rw [List.all_eq_false]
                    exact ⟨t, hmem, by simp; omega⟩)
                  clear hmem
                  go_wp2_with fail
                  go_ret
                  exact ⟨by rw [HF.out]; rfl, HB.out⟩
              · have he : k = n := by omega
                have c1 : decide ((k : Int) < (n : Int)) = false := decide_eq_false (by omega)
                have HF := Aside0.mk (show (l0_0.all fun t => decide (t.size ≤ 420)) = true from by
                  rw [List.all_eq_true]
                  intro x hx
                  obtain ⟨j, hj, rfl⟩ := List.getElem_of_mem hx
                  simp only [decide_eq_true_eq]
                  exact HA.out j hj (by rw [he, ← HN.out]; exact hj))
                have HC := Aside0.mk (containsFunc_Pending (fun x => !pendB n x) 74 #[.pointer (some ⟨w.heap.size, 0, none⟩)] HEG.out A0_1 c0_1 l0_1 wr (by rw [HM.out]; exact HRc.out) (fun x W _ hW => diskOK_closure x A0_0 n c0_0 w.heap.size W (by omega) (pw_cell_below hW hk0)))
                rw [HM.out] at HC
                have HAN := Aside0.mk (any_not l0_1 (pendB n))
                rw [HAN.out] at HC
                obtain ⟨b, hb⟩ : ∃ b, b = l0_1.all (pendB n) := ⟨_, rfl⟩
                rw [← hb] at HC
                have HBb := Aside0.mk hb
                clear hb
                clear he HA HAN
                go_wp2_with fail
                refine HC.out.mono ?_
                rintro e w2 ⟨rfl, hb2⟩
                have HB2 := Aside0.mk (below_step HB.out hb2)
                clear hb2
                go_wp2_with fail
                go_ret
                exact ⟨by rw [HF.out, ← HBb.out]; simp, HB2.out⟩
      · have h3b : decide (500 < (q : Int)) = true := decide_eq_true (by omega)
        rw [decide_eq_false h3, Bool.false_and]
        clear HR0 HR1 hr0_0 hr0_1
        go_enter Try.func23, Try.ntmps23
        go_wp2_with fail
        refine (impl_within.calls _ _ _ _ _ hw.out).mono ?_
        rintro e w1 ⟨rfl, hb⟩
        have HB := Aside0.mk (show Below w.heap.size w w1 from by first | exact below_step HB0.out hb | exact below_step HB0.out hb.below)
        have HK1 := Aside0.mk (by first | exact blk_below hbk hb | exact blk_below hbk hb.below)
        have hk0 := blk_cell HK1.out 0
        have hk1 := blk_cell HK1.out 1
        have hk2 := blk_cell HK1.out 2
        have hk3 := blk_cell HK1.out 3
        replace hk0 : w1.cell? ⟨w.heap.size, 0, none⟩ = some (.slice A0_0 n c0_0) := hk0
        replace hk1 : w1.cell? ⟨w.heap.size, 1, none⟩ = some (.slice A0_1 m c0_1) := hk1
        replace hk2 : w1.cell? ⟨w.heap.size, 2, none⟩ = some (.bool a0_2) := hk2
        replace hk3 : w1.cell? ⟨w.heap.size, 3, none⟩ = some (.slice A0_3 q c0_3) := hk3
        clear hb hbk
        go_wp2_with fail
        go_ret
        exact ⟨rfl, HB.out⟩
    · have h2b : decide (500 < (m : Int)) = true := decide_eq_true (by omega)
      rw [decide_eq_false h2, Bool.false_and]
      clear HR0 HR1 hr0_0 hr0_1
      go_enter Try.func23, Try.ntmps23
      go_wp2_with fail
      refine (impl_within.calls _ _ _ _ _ hw.out).mono ?_
      rintro e w1 ⟨rfl, hb⟩
      have HB := Aside0.mk (show Below w.heap.size w w1 from by first | exact below_step HB0.out hb | exact below_step HB0.out hb.below)
      have HK1 := Aside0.mk (by first | exact blk_below hbk hb | exact blk_below hbk hb.below)
      have hk0 := blk_cell HK1.out 0
      have hk1 := blk_cell HK1.out 1
      have hk2 := blk_cell HK1.out 2
      have hk3 := blk_cell HK1.out 3
      replace hk0 : w1.cell? ⟨w.heap.size, 0, none⟩ = some (.slice A0_0 n c0_0) := hk0
      replace hk1 : w1.cell? ⟨w.heap.size, 1, none⟩ = some (.slice A0_1 m c0_1) := hk1
      replace hk2 : w1.cell? ⟨w.heap.size, 2, none⟩ = some (.bool a0_2) := hk2
      replace hk3 : w1.cell? ⟨w.heap.size, 3, none⟩ = some (.slice A0_3 q c0_3) := hk3
      clear hb hbk
      go_wp2_with fail
      go_ret
      exact ⟨rfl, HB.out⟩
  · have h1b : decide (1 ≤ (n : Int) ∧ (n : Int) ≤ 80) = false := decide_eq_false h1
    rw [h1b] at hw
    rw [decide_eq_false (show ¬ (1 ≤ n ∧ n ≤ 80) by omega), Bool.false_and]
    clear h1b
    clear HR0 HR1 hr0_0 hr0_1
    go_enter Try.func23, Try.ntmps23
    go_wp2_with fail
    refine (impl_within.calls _ _ _ _ _ hw.out).mono ?_
    rintro e w1 ⟨rfl, hb⟩
    have HB := Aside0.mk (show Below w.heap.size w w1 from by first | exact below_step HB0.out hb | exact below_step HB0.out hb.below)
    have HK1 := Aside0.mk (by first | exact blk_below hbk hb | exact blk_below hbk hb.below)
    have hk0 := blk_cell HK1.out 0
    have hk1 := blk_cell HK1.out 1
    have hk2 := blk_cell HK1.out 2
    have hk3 := blk_cell HK1.out 3
    replace hk0 : w1.cell? ⟨w.heap.size, 0, none⟩ = some (.slice A0_0 n c0_0) := hk0
    replace hk1 : w1.cell? ⟨w.heap.size, 1, none⟩ = some (.slice A0_1 m c0_1) := hk1
    replace hk2 : w1.cell? ⟨w.heap.size, 2, none⟩ = some (.bool a0_2) := hk2
    replace hk3 : w1.cell? ⟨w.heap.size, 3, none⟩ = some (.slice A0_3 q c0_3) := hk3
    clear hb hbk
    go_wp2_with fail
    go_ret
    exact ⟨rfl, HB.out⟩
def impl_DiskOK.f (l0_0 : List ByteArray) (l0_1 : List S95) (a0_2 : Bool) (l0_3 : List Int) : Option Bool := some (diskB l0_0 l0_1 a0_2 l0_3)
theorem impl_DiskOK.calls (A0_0 : Option Addr) (c0_0 : Nat) (l0_0 : List ByteArray) (A0_1 : Option Addr) (c0_1 : Nat) (l0_1 : List (S95)) (a0_2 : Bool) (A0_3 : Option Addr) (c0_3 : Nat) (l0_3 : List Int) (r : Bool) (w : World) (hr0_0 : Kd.C Kd.string w A0_0 l0_0.length l0_0) (hc0_0 : l0_0.length ≤ c0_0) (hr0_1 : Kd.C k95 w A0_1 l0_1.length l0_1) (hc0_1 : l0_1.length ≤ c0_1) (hr0_3 : Kd.C (Kd.int .i64) w A0_3 l0_3.length l0_3) (hc0_3 : l0_3.length ≤ c0_3) (h : impl_DiskOK.f l0_0 l0_1 a0_2 l0_3 = some r) :
    Calls Try.prog 23 #[.agg #[.slice A0_0 l0_0.length c0_0, .slice A0_1 l0_1.length c0_1, .bool a0_2, .slice A0_3 l0_3.length c0_3]] w fun e w' => e = .returned (.bool r) ∧ Below w.heap.size w w' := by
  unfold impl_DiskOK.f at h
  obtain rfl := Option.some.inj h
  exact diskOK_core l0_0.length l0_1.length l0_3.length A0_0 c0_0 l0_0 A0_1 c0_1 l0_1 a0_2 A0_3 c0_3 w rfl rfl hr0_0.2.1 hr0_1.2.1 hr0_3.2.1 hr0_0 hr0_1
end Go.Proofs.Ytcpcifgpcemaeaa.X
namespace Go.Proofs.Ytcpcifgpcemaeaa.X
open Go.RowKit Go.Proofs.YtcpcifgpcemaeaaW.PrintWords Go.Proofs.YtcpcifgpcemaeaaW.PrintLast Go.Proofs.YtcpcifgpcemaeaaW.PrintMore
attribute [local go_sem] xbin_geq xbin_leq xbin_gtr max2_int min2_int max_two min_two max_three min_three max_four min_four
set_option linter.unusedVariables false
set_option linter.unusedSimpArgs false
def slices_Clone_int_int.f (l0 : List Int) : Option (List Int) := if l0.length * 8 ≤ 140737488355328 then some l0 else none
set_option maxHeartbeats 1000000 in
set_option maxRecDepth 100000 in
theorem slices_Clone_int_int.calls (A0 : Option Addr) (c0 : Nat) (l0 : List Int) (r : List Int) (w : World) (hr0 : Kd.C (Kd.int .i64) w A0 l0.length l0) (hc0 : l0.length ≤ c0) (h : slices_Clone_int_int.f l0 = some r) :
    Calls Try.prog 82 #[.slice A0 l0.length c0] w fun e w' => ∃ v0_ : Value, e = .returned (v0_) ∧ Kd.R (Kd.int .i64) 3 w' w.heap.size (fun _ => True) v0_ r ∧ Below w.heap.size w w' := by
  unfold slices_Clone_int_int.f at h
  by_cases hl : l0.length * 8 ≤ 140737488355328
  · rw [if_pos hl] at h
    obtain rfl := Option.some.inj h
    clear h
    have HL := Aside0.mk hl
    clear hl
    cases A0 with
    | none =>
      have h0 : l0.length = 0 := by
        rcases Nat.eq_zero_or_pos l0.length with h | h
        · exact h
        · obtain ⟨ad, he, _⟩ := hr0.2.2 h
          cases he
      obtain rfl := List.eq_nil_of_length_eq_zero h0
      clear h0 hr0
      have hq : ∀ w_, (binOp .eql 24 (.slice none 0 c0) (.slice none 0 0)).run Try.prog w_ = .ok (.bool true) w_ := fun w_ => by
        have := Lib.run_eql_slice_nil (P := Try.prog) w_ 24 3 none 0 c0 0 0 Try.underlying24
        simpa using this
      go_enter Try.func82, Try.ntmps82
      go_wp2_with fail
      go_ret
      exact ⟨_, rfl, Kd.R_nil _ _ _ _ _, Below.refl _ _⟩
    | some ad0 =>
      have HR0 := Aside0.mk hr0
      clear hr0
      have hq : ∀ w_, (binOp .eql 24 (.slice (some ad0) l0.length c0) (.slice none 0 0)).run Try.prog w_ = .ok (.bool false) w_ := fun w_ => by
        have := Lib.run_eql_slice_nil (P := Try.prog) w_ 24 3 (some ad0) l0.length c0 0 0 Try.underlying24
        simpa using this
      have HB := Aside0.mk (Below.refl w.heap.size w)
      go_enter Try.func82, Try.ntmps82
      go_wp2_with (first | ((with_reducible refine gate_dst (N := 5) rfl ?_); refine Kd.R_lit (Kd.int .i64) _ 3 ?hg (N := 5) ?hd (xs := ([] : List Int)) (inner := []) (ok := fun _ => True) (okp := fun _ => True) ?hr ?hp (fun _ hk => hk) trivial (Below.refl _ _) (Nat.le_refl _) (by simp) ?_; (case hd => rfl); (case hg => rfl); (case hr => first | (go_simp; done) | (go_simp; rfl)); (case hp => exact (Reps.none _ _)); intro v1 w1 ho1 hb hg_ hnew_; clear hg_ hnew_; have n0_ := Aside0.mk (Kd.R_lower ho1 (below_size HB.out)); have n1_ := Aside0.mk (below_step HB.out hb); clear HB; have HO1 := n0_; have HB := n1_; clear n0_ n1_; clear hb ho1) | ((with_reducible refine gate_builtin (b := .append) (xs := #[.tmp 5, .tmp 6]) rfl ?_); at_builtin; refine Kd.R_append_rows (Kd.int .i64) (w0 := w) w.heap.size rfl (.tmp 5) (.tmp 6) 24 3 (.int .i64 0) 8 rfl Try.underlying24 info3 rfl (by decide) (by omega) v1 [] l0 _ _ _ (fun _ => True) (fun _ => False) rfl rfl ?aO ?aR (fun _ _ h => h) (fun _ h => h.elim) ?aF ?aB ?aS ?aL ?_; (case aR => exact (Kd.C_below HR0.out HB.out)); (case aB => exact HB.out); (case aF => exact (fun _ _ => trivial)); (case aO => exact HO1.out); (case aS => exact (below_size HB.out)); (case aL => have := HL.out; simpa using this); intro v2 w2 ho hb hg hat; have n0_ := Aside0.mk hb; have n1_ := Aside0.mk ho; clear HB HO1; have HB := n0_; have HO2 := n1_; clear n0_ n1_; clear ho hb hg hat))
      go_ret
      exact ⟨_, rfl, by simpa using HO2.out, HB.out⟩
  · rw [if_neg hl] at h
    cases h
end Go.Proofs.Ytcpcifgpcemaeaa.X
