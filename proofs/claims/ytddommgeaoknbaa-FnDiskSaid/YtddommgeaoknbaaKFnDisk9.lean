import Derived.Test.YtddommgeaoknbaaKFnDisk3
import Derived.Test.YtddommgeaoknbaaKFnDisk7
import Derived.LoopTactic
import Derived.WalkSpells
import Derived.Deep.RegionLaw
namespace Go.Proofs.Ytddommgeaoknbaa.X
open Go.RowKit Go.Proofs.YtddommgeaoknbaaW.PrintWords Go.Proofs.YtddommgeaoknbaaW.PrintLast Go.Proofs.YtddommgeaoknbaaW.PrintMore
attribute [local go_sem] xbin_geq xbin_leq xbin_gtr max2_int min2_int max_two min_two max_three min_three max_four min_four
set_option linter.unusedVariables false
set_option linter.unusedSimpArgs false
def byteF (code : List Int) (n seed : Int) : Int × Int × Int :=
  if n + 1 ≤ (code.length : Int) then (rd code n, n + 1, Int.tmod (seed * 31 + rd code n + 7) 2147483648)
  else if 3000 < n + 1 then (0, n + 1, seed)
  else (Int.tmod (Int.tdiv (Int.tmod (seed * 1103515245 + 12345) 2147483648) 65536) 256, n + 1, Int.tmod (seed * 1103515245 + 12345) 2147483648)
def SrcFits (code : List Int) (n seed : Int) : Prop := (∀ c, c ∈ code → 0 ≤ c ∧ c < 256) ∧ 0 ≤ n ∧ n ≤ 1000000000000 ∧ 0 ≤ seed ∧ seed < 2147483648
instance srcFitsDec (code : List Int) (n seed : Int) : Decidable (SrcFits code n seed) := by unfold SrcFits; infer_instance
def spec_l00Src_byte.f (s0_0 : List Int) (s0_1 s0_2 : Int) : Option (Int × Int × Int) := if SrcFits s0_0 s0_1 s0_2 then some (byteF s0_0 s0_1 s0_2) else none
def srcByte.T2 : Bool × List (List Nat × List Nat) := (true, [([], []), ([0], [0]), ([1], [1]), ([2], [2]), ([], []), ([4], [4]), ([5], [5]), ([6], [6]), ([7], [7]), ([3, 8], [3, 8])])
def srcByte.B2 : List Nat := [0, 1, 3, 7, 0, 16, 48, 112, 240, 511]
theorem srcByte.tab2 : rtab .any (opsOf Try.f53 2) = srcByte.T2 := by kernel_rfl
theorem srcByte.bits2 : waitsOk srcByte.T2.2 srcByte.B2 = true := by kernel_rfl
def srcByte.T3 : Bool × List (List Nat × List Nat) := (true, [([], []), ([], []), ([1], [1]), ([2], [2]), ([3], [3]), ([4], [4]), ([], []), ([6], [6]), ([7], [7]), ([8], [8]), ([], []), ([10], [10]), ([11], [11]), ([12], [12]), ([13], [13]), ([9, 14], [9, 14]), ([15], [15]), ([16], [16]), ([5, 17], [5, 17]), ([18], [18]), ([19], [19]), ([0, 0, 1, 2, 3, 4, 5, 6, 7, 8, 9, 10, 11, 12, 13, 14, 15, 16, 17, 18, 19, 20], [0]), ([21, 0, 1, 2, 3, 4, 5, 6, 7, 8, 9, 10, 11, 12, 13, 14, 15, 16, 17, 18, 19, 20], [21]), ([22, 20, 0, 1, 2, 3, 4, 5, 6, 7, 8, 9, 10, 11, 12, 13, 14, 15, 16, 17, 18, 19, 20], [20, 22])])
def srcByte.B3 : List Nat := [0, 0, 2, 6, 14, 30, 0, 64, 192, 448, 0, 1024, 3072, 7168, 15360, 32704, 65472, 131008, 262142, 524286, 1048574, 2097151, 4194303, 8388607]
theorem srcByte.tab3 : rtab .any (opsOf Try.f53 3) = srcByte.T3 := by kernel_rfl
theorem srcByte.bits3 : waitsOk srcByte.T3.2 srcByte.B3 = true := by kernel_rfl
def srcByte.T4 : Bool × List (List Nat × List Nat) := (true, [([], []), ([0], [0]), ([1], [1]), ([2], [2]), ([], []), ([4], [4]), ([5], [5]), ([6], [6]), ([7], [7]), ([3, 8], [3, 8]), ([9], [9]), ([10], [10]), ([11, 0, 1, 2, 3, 4, 5, 6, 7, 8, 9, 10, 11], [11])])
def srcByte.B4 : List Nat := [0, 1, 3, 7, 0, 16, 48, 112, 240, 511, 1023, 2047, 4095]
theorem srcByte.tab4 : rtab .any (opsOf Try.f53 4) = srcByte.T4 := by kernel_rfl
theorem srcByte.bits4 : waitsOk srcByte.T4.2 srcByte.B4 = true := by kernel_rfl
set_option maxHeartbeats 16000000 in
set_option maxRecDepth 100000 in
theorem spec_l00Src_byte.calls (g : Nat) (s0_0 : List Int) (s0_1 : Int) (s0_2 : Int) (r1 : Int) (r2 : Int) (r3 : Int) (w0 w : World) (hI : IsS65 w0 w g s0_0 s0_1 s0_2) (hB : Below w0.heap.size w0 w) (h : spec_l00Src_byte.f s0_0 s0_1 s0_2 = some (r1, r2, r3)) :
    Calls Try.prog 53 #[.pointer (some ⟨g, 0, none⟩)] w fun e w' => e = .returned (.int .i64 r1) ∧ IsS65 w0 w' g s0_0 r2 r3 ∧ Below w0.heap.size w0 w' ∧ KeepBut w w' g none := by
  unfold spec_l00Src_byte.f at h
  by_cases hs : SrcFits s0_0 s0_1 s0_2
  case neg => rw [if_neg hs] at h; cases h
  rw [if_pos hs] at h
  have h := Option.some.inj h
  obtain ⟨hc, hn0, hn1, hs0, hs1⟩ := hs
  obtain ⟨n, rfl⟩ : ∃ n : Nat, s0_1 = (n : Int) := ⟨s0_1.toNat, by omega⟩
  obtain ⟨A, c, hb, hg, hr⟩ := hI
  have hu := Try.underlying65
  have w1 : IntKind.i64.wrap ((n : Int) + 1) = (n : Int) + 1 := by rw [IntKind.wrap_i64]; omega
  have HG := Aside0.mk hg
  have HR := Aside0.mk hr
  obtain ⟨d0, d1, d2, f1, f2⟩ : w.cell? ⟨g, 0, none⟩ = some (.slice A s0_0.length c) ∧ w.cell? ⟨g, 1, none⟩ = some (.int .i64 (n : Int)) ∧ w.cell? ⟨g, 2, none⟩ = some (.int .i64 s0_2) ∧ w.frozen? ⟨g, 1, none⟩ = false ∧ w.frozen? ⟨g, 2, none⟩ = false := ⟨blk_cell hb 0, blk_cell hb 1, blk_cell hb 2, blk_frozen hb 1, blk_frozen hb 2⟩
  obtain ⟨W1, hW1⟩ : ∃ W1, W1 = w.setCell ⟨g, 1, none⟩ (.int .i64 ((n : Int) + 1)) := ⟨_, rfl⟩
  have HB1 := Aside0.mk (show Below w0.heap.size w0 W1 from hW1 ▸ hB.setCell (p := ⟨g, 1, none⟩) hg _)
  have KB1 := Aside0.mk (show W1.heap[g]? = some (.cells #[.slice A s0_0.length c, .int .i64 ((n : Int) + 1), .int .i64 s0_2] 65 (0, 0)) from hW1 ▸ blk_set hb 1 _)
  have HK1 := Aside0.mk (show KeepBut w W1 g none from hW1 ▸ (KeepBut.refl w g none).set_ 1 _)
  have hm : s0_0.length ≤ 9223372036854775807 := hr.2.1
  have HC := Aside0.mk hc
  have HS := Aside0.mk (And.intro hs0 hs1)
  have HN := Aside0.mk (And.intro hn0 hn1)
  clear hb hg hr hB hc hs0 hs1 hn0 hn1 d0 d2 f2
  go_enter Try.func53, Try.ntmps53
  go_upto_region 2 with fail
  rw [← hW1]
  clear hW1 d1 f1
  have KB2 := Aside0.mk (blk_drew KB1.out)
  have HB2 := Aside0.mk (below_drew HB1.out)
  have HK2 := Aside0.mk (HK1.out.trans (KeepBut.of_below (below_drew (Below.refl _ _)) g none) (.inl rfl))
  clear KB1 HB1 HK1
  by_cases hle : (n : Int) + 1 ≤ (s0_0.length : Int)
  · have hE : (rd s0_0 (n : Int), (n : Int) + 1, Int.tmod (s0_2 * 31 + rd s0_0 (n : Int) + 7) 2147483648) = (r1, r2, r3) := by rw [← h]; unfold byteF; rw [if_pos hle]
    have c1 : decide ((n : Int) + 1 ≤ (s0_0.length : Int)) = true := decide_eq_true hle
    have CL := Aside0.mk c1
    obtain ⟨ad, eA, hx⟩ := Kd.at_int HR.out (n : Int) (by omega) (by omega)
    subst eA
    rw [Int.toNat_natCast] at hx
    have hbt : 0 ≤ rd s0_0 (n : Int) ∧ rd s0_0 (n : Int) < 256 := by
      have : rd s0_0 (n : Int) = s0_0[n]'(by omega) := by unfold rd; rw [Int.toNat_natCast]; simp [List.getD_eq_getElem?_getD, show n < s0_0.length by omega]
      rw [this]
      exact HC.out _ (List.getElem_mem _)
    obtain ⟨bt, hbv⟩ : ∃ bt, bt = rd s0_0 (n : Int) := ⟨_, rfl⟩
    rw [← hbv] at hE hx hbt
    have HX := Aside0.mk hx
    have HI1 := Aside0.mk (show (0 : Int) ≤ (n : Int) ∧ (n : Int) < (s0_0.length : Int) from ⟨by omega, by omega⟩)
    have HE := Aside0.mk hE
    have HW := Aside0.mk (show IntKind.i64.wrap (s0_2 * 31) = s0_2 * 31 ∧ IntKind.i64.wrap (n : Int) = (n : Int) ∧ IntKind.i64.wrap bt = bt ∧ IntKind.i64.wrap (s0_2 * 31 + bt) = s0_2 * 31 + bt ∧ IntKind.i64.wrap (s0_2 * 31 + bt + 7) = s0_2 * 31 + bt + 7 ∧ IntKind.i64.wrap (Int.tmod (s0_2 * 31 + bt + 7) 2147483648) = Int.tmod (s0_2 * 31 + bt + 7) 2147483648 from by
      have h0 := HS.out.1
      have h1 := HS.out.2
      have h2 : Int.tmod (s0_2 * 31 + bt + 7) 2147483648 = (s0_2 * 31 + bt + 7) % 2147483648 := Int.tmod_eq_emod_of_nonneg (by omega)
      have h3 := HN.out.2
      simp only [IntKind.wrap_i64, h2]
      omega)
    clear hE hx hbt hbv h hle c1
    refine start_ (n := 10) (S := fun w' => True) (ds := []) #[false, false, false, false, false, false, false, false, false, false] (by kernel_rfl) rfl rfl trivial (fun hHeld => ?_)
    refine with_tabW srcByte.tab2 srcByte.bits2 (fun HT_ HW_ => ?_)
    generalize W1.drew = wd at KB2 HB2 HK2 ⊢
    refine inv_at [0, 1, 2, 3, 4, 5, 6, 7, 8, 9] (fun a0_ b a w' => a = putSel a0_ b [(0, 10, .pointer (some ⟨g, 0, none⟩)), (1, 11, .pointer (some ⟨g, 0, none⟩)), (2, 12, .pointer (some ⟨g, 1, none⟩)), (3, 13, .int .i64 ((n : Int) + 1)), (4, 14, .pointer (some ⟨g, 0, none⟩)), (5, 15, .pointer (some ⟨g, 0, none⟩)), (6, 16, .pointer (some ⟨g, 0, none⟩)), (7, 17, .slice (some ad) s0_0.length c), (8, 18, .int .i64 (s0_0.length : Int)), (9, 19, .bool true)] ∧ (w'.heap[g]? = some (.cells #[.slice (some ad) s0_0.length c, .int .i64 ((n : Int) + 1), .int .i64 s0_2] 65 (0, 0))) ∧ (Below w0.heap.size w0 w') ∧ (KeepBut w w' g none)) HT_.out HW_.out (by kernel_rfl) (by kernel_rfl) ?_ ?_ ?_
    · exact ⟨by simp only [putSel, Bool.false_eq_true, if_false], KB2.out, HB2.out, HK2.out⟩
    · skip
      clear HB2 HK2 KB2
      refine steps_cons ?_ ?_
      · rintro b a w' ⟨ha, Q_KB2, Q_HB2, Q_HK2⟩ hb_ hon hoff
        refine ⟨_, rfl, fun K hK => ?_⟩
        have e0 : a.tmps[0]? = some (.pointer (some ⟨g, 0, none⟩)) := by rw [ha]; exact (putSel_off rfl).trans rfl
        replace ha := Aside0.mk ha
        refine value_ (w1 := w') (v := .pointer (some ⟨g, 0, none⟩)) (by rfl) rfl ?_ ?_
        · go_simp
          (try simp only [i64_w])
          try rfl
        refine hK.out _ _ ⟨(by rw [ha.out]; exact putSel_upk 0 hb_ rfl rfl rfl), Q_KB2, Q_HB2, Q_HK2⟩
      refine steps_cons ?_ ?_
      · rintro b a w' ⟨ha, Q_KB2, Q_HB2, Q_HK2⟩ hb_ hon hoff
        refine ⟨_, rfl, fun K hK => ?_⟩
        have e10 : a.tmps[10]? = some (.pointer (some ⟨g, 0, none⟩)) := on_ ha 0 rfl rfl (hon 0 (by kernel_rfl)) rfl
        replace ha := Aside0.mk ha
        refine value_ (w1 := w') (v := .pointer (some ⟨g, 0, none⟩)) (by rfl) rfl ?_ ?_
        · go_simp
          (try simp only [i64_w])
          try rfl
        refine hK.out _ _ ⟨(by rw [ha.out]; exact putSel_upk 1 hb_ rfl rfl rfl), Q_KB2, Q_HB2, Q_HK2⟩
      refine steps_cons ?_ ?_
      · rintro b a w' ⟨ha, Q_KB2, Q_HB2, Q_HK2⟩ hb_ hon hoff
        refine ⟨_, rfl, fun K hK => ?_⟩
        have e11 : a.tmps[11]? = some (.pointer (some ⟨g, 0, none⟩)) := on_ ha 1 rfl rfl (hon 1 (by kernel_rfl)) rfl
        replace ha := Aside0.mk ha
        refine value_ (w1 := w') (v := .pointer (some ⟨g, 1, none⟩)) (by rfl) rfl ?_ ?_
        · go_simp
          (try simp only [i64_w])
          try rfl
        refine hK.out _ _ ⟨(by rw [ha.out]; exact putSel_upk 2 hb_ rfl rfl rfl), Q_KB2, Q_HB2, Q_HK2⟩
      refine steps_cons ?_ ?_
      · rintro b a w' ⟨ha, Q_KB2, Q_HB2, Q_HK2⟩ hb_ hon hoff
        refine ⟨_, rfl, fun K hK => ?_⟩
        have e12 : a.tmps[12]? = some (.pointer (some ⟨g, 1, none⟩)) := on_ ha 2 rfl rfl (hon 2 (by kernel_rfl)) rfl
        replace ha := Aside0.mk ha
        have KB2 := Aside0.mk Q_KB2
        have hc_ := blk_cell KB2.out 1
        simp only [List.getElem?_toArray, List.getElem?_cons_zero, List.getElem?_cons_succ] at hc_
        refine value_ (w1 := w') (v := .int .i64 ((n : Int) + 1)) (by rfl) rfl ?_ ?_
        · go_simp
          (try simp only [i64_w])
          try rfl
        refine hK.out _ _ ⟨(by rw [ha.out]; exact putSel_upk 3 hb_ rfl rfl rfl), Q_KB2, Q_HB2, Q_HK2⟩
      refine steps_cons ?_ ?_
      · rintro b a w' ⟨ha, Q_KB2, Q_HB2, Q_HK2⟩ hb_ hon hoff
        refine ⟨_, rfl, fun K hK => ?_⟩
        have e0 : a.tmps[0]? = some (.pointer (some ⟨g, 0, none⟩)) := by rw [ha]; exact (putSel_off rfl).trans rfl
        replace ha := Aside0.mk ha
        refine value_ (w1 := w') (v := .pointer (some ⟨g, 0, none⟩)) (by rfl) rfl ?_ ?_
        · go_simp
          (try simp only [i64_w])
          try rfl
        refine hK.out _ _ ⟨(by rw [ha.out]; exact putSel_upk 4 hb_ rfl rfl rfl), Q_KB2, Q_HB2, Q_HK2⟩
      refine steps_cons ?_ ?_
      · rintro b a w' ⟨ha, Q_KB2, Q_HB2, Q_HK2⟩ hb_ hon hoff
        refine ⟨_, rfl, fun K hK => ?_⟩
        have e14 : a.tmps[14]? = some (.pointer (some ⟨g, 0, none⟩)) := on_ ha 4 rfl rfl (hon 4 (by kernel_rfl)) rfl
        replace ha := Aside0.mk ha
        refine value_ (w1 := w') (v := .pointer (some ⟨g, 0, none⟩)) (by rfl) rfl ?_ ?_
        · go_simp
          (try simp only [i64_w])
          try rfl
        refine hK.out _ _ ⟨(by rw [ha.out]; exact putSel_upk 5 hb_ rfl rfl rfl), Q_KB2, Q_HB2, Q_HK2⟩
      refine steps_cons ?_ ?_
      · rintro b a w' ⟨ha, Q_KB2, Q_HB2, Q_HK2⟩ hb_ hon hoff
        refine ⟨_, rfl, fun K hK => ?_⟩
        have e15 : a.tmps[15]? = some (.pointer (some ⟨g, 0, none⟩)) := on_ ha 5 rfl rfl (hon 5 (by kernel_rfl)) rfl
        replace ha := Aside0.mk ha
        refine value_ (w1 := w') (v := .pointer (some ⟨g, 0, none⟩)) (by rfl) rfl ?_ ?_
        · go_simp
          (try simp only [i64_w])
          try rfl
        refine hK.out _ _ ⟨(by rw [ha.out]; exact putSel_upk 6 hb_ rfl rfl rfl), Q_KB2, Q_HB2, Q_HK2⟩
      refine steps_cons ?_ ?_
      · rintro b a w' ⟨ha, Q_KB2, Q_HB2, Q_HK2⟩ hb_ hon hoff
        refine ⟨_, rfl, fun K hK => ?_⟩
        have e16 : a.tmps[16]? = some (.pointer (some ⟨g, 0, none⟩)) := on_ ha 6 rfl rfl (hon 6 (by kernel_rfl)) rfl
        replace ha := Aside0.mk ha
        have KB2 := Aside0.mk Q_KB2
        have hc_ := blk_cell KB2.out 0
        simp only [List.getElem?_toArray, List.getElem?_cons_zero, List.getElem?_cons_succ] at hc_
        refine value_ (w1 := w') (v := .slice (some ad) s0_0.length c) (by rfl) rfl ?_ ?_
        · go_simp
          (try simp only [i64_w])
          try rfl
        refine hK.out _ _ ⟨(by rw [ha.out]; exact putSel_upk 7 hb_ rfl rfl rfl), Q_KB2, Q_HB2, Q_HK2⟩
      refine steps_cons ?_ ?_
      · rintro b a w' ⟨ha, Q_KB2, Q_HB2, Q_HK2⟩ hb_ hon hoff
        refine ⟨_, rfl, fun K hK => ?_⟩
        have e17 : a.tmps[17]? = some (.slice (some ad) s0_0.length c) := on_ ha 7 rfl rfl (hon 7 (by kernel_rfl)) rfl
        replace ha := Aside0.mk ha
        refine value_ (w1 := w') (v := .int .i64 (s0_0.length : Int)) (by rfl) rfl ?_ ?_
        · go_simp
          (try simp only [i64_w])
          try rfl
        refine hK.out _ _ ⟨(by rw [ha.out]; exact putSel_upk 8 hb_ rfl rfl rfl), Q_KB2, Q_HB2, Q_HK2⟩
      refine steps_cons ?_ ?_
      · rintro b a w' ⟨ha, Q_KB2, Q_HB2, Q_HK2⟩ hb_ hon hoff
        refine ⟨_, rfl, fun K hK => ?_⟩
        have e13 : a.tmps[13]? = some (.int .i64 ((n : Int) + 1)) := on_ ha 3 rfl rfl (hon 3 (by kernel_rfl)) rfl
        have e18 : a.tmps[18]? = some (.int .i64 (s0_0.length : Int)) := on_ ha 8 rfl rfl (hon 8 (by kernel_rfl)) rfl
        replace ha := Aside0.mk ha
        have hl_ := CL.out
        refine value_ (w1 := w') (v := .bool true) (by rfl) rfl ?_ ?_
        · go_simp
          (try simp only [i64_w])
          try rfl
        refine hK.out _ _ ⟨(by rw [ha.out]; exact putSel_upk 9 hb_ rfl rfl rfl), Q_KB2, Q_HB2, Q_HK2⟩
      exact steps_nil
    rintro b a wB hall ⟨ha, Q_KB2, Q_HB2, Q_HK2⟩
    clear HB2 HK2 KB2
    have hb0_ := hall 0 (by kernel_rfl)
    have hb1_ := hall 1 (by kernel_rfl)
    have hb2_ := hall 2 (by kernel_rfl)
    have hb3_ := hall 3 (by kernel_rfl)
    have hb4_ := hall 4 (by kernel_rfl)
    have hb5_ := hall 5 (by kernel_rfl)
    have hb6_ := hall 6 (by kernel_rfl)
    have hb7_ := hall 7 (by kernel_rfl)
    have hb8_ := hall 8 (by kernel_rfl)
    have hb9_ := hall 9 (by kernel_rfl)
    subst ha
    simp only [putSel, hb0_, hb1_, hb2_, hb3_, hb4_, hb5_, hb6_, hb7_, hb8_, hb9_, if_true, Act.put, List.setIfInBounds_toArray, List.set_cons_zero, List.set_cons_succ]
    have KB2 := Aside0.mk Q_KB2
    clear Q_KB2
    have HB2 := Aside0.mk Q_HB2
    clear Q_HB2
    have HK2 := Aside0.mk Q_HK2
    clear Q_HK2
    clear hall hb0_ hb1_ hb2_ hb3_ hb4_ hb5_ hb6_ hb7_ hb8_ hb9_
    go_upto_region 3 with fail
    have KB3 := Aside0.mk (blk_drew KB2.out)
    have HB3 := Aside0.mk (below_drew HB2.out)
    have HK3 := Aside0.mk (HK2.out.trans (KeepBut.of_below (below_drew (Below.refl _ _)) g none) (.inl rfl))
    clear KB2 HB2 HK2
    refine start_ (n := 24) (S := fun w' => True) (ds := []) #[false, false, false, false, false, false, false, false, false, false, false, false, false, false, false, false, false, false, false, false, false, false, false, false] (by kernel_rfl) rfl rfl trivial (fun hHeld => ?_)
    refine with_tabW srcByte.tab3 srcByte.bits3 (fun HT_ HW_ => ?_)
    generalize wB.drew = wd at KB3 HB3 HK3 ⊢
    refine inv_at [0, 1, 2, 3, 4, 5, 6, 7, 8, 9, 10, 11, 12, 13, 14, 15, 16, 17, 18, 19, 20, 21, 22, 23] (fun a0_ b a w' => a = putSel a0_ b [(0, 20, .pointer (some ⟨g, 0, none⟩)), (1, 21, .pointer (some ⟨g, 0, none⟩)), (2, 22, .pointer (some ⟨g, 0, none⟩)), (3, 23, .pointer (some ⟨g, 2, none⟩)), (4, 24, .int .i64 s0_2), (5, 25, .int .i64 (s0_2 * 31)), (6, 26, .pointer (some ⟨g, 0, none⟩)), (7, 27, .pointer (some ⟨g, 0, none⟩)), (8, 28, .pointer (some ⟨g, 0, none⟩)), (9, 29, .slice (some ad) s0_0.length c), (10, 30, .pointer (some ⟨g, 0, none⟩)), (11, 31, .pointer (some ⟨g, 0, none⟩)), (12, 32, .pointer (some ⟨g, 1, none⟩)), (13, 33, .int .i64 ((n : Int) + 1)), (14, 34, .int .i64 (n : Int)), (15, 35, .pointer (some (ad.add n))), (16, 36, .int .u8 bt), (17, 37, .int .i64 bt), (18, 38, .int .i64 (s0_2 * 31 + bt)), (19, 39, .int .i64 (s0_2 * 31 + bt + 7)), (20, 40, .int .i64 (Int.tmod (s0_2 * 31 + bt + 7) 2147483648)), (21, 41, .pointer (some ⟨g, 0, none⟩)), (22, 42, .pointer (some ⟨g, 2, none⟩))] ∧ (b 23 = false → w'.heap[g]? = some (.cells #[.slice (some ad) s0_0.length c, .int .i64 ((n : Int) + 1), .int .i64 s0_2] 65 (0, 0))) ∧ (Below w0.heap.size w0 w') ∧ (KeepBut w w' g none) ∧ (b 23 = true → w'.heap[g]? = some (.cells #[.slice (some ad) s0_0.length c, .int .i64 ((n : Int) + 1), .int .i64 (Int.tmod (s0_2 * 31 + bt + 7) 2147483648)] 65 (0, 0)))) HT_.out HW_.out (by kernel_rfl) (by kernel_rfl) ?_ ?_ ?_
    · exact ⟨by simp only [putSel, Bool.false_eq_true, if_false], fun _ => KB3.out, HB3.out, HK3.out, fun h_ => absurd h_ (by decide)⟩
    · skip
      clear HB3 HK3 KB3
      refine steps_cons ?_ ?_
      · rintro b a w' ⟨ha, Q_KB3, Q_HB3, Q_HK3, Q_KB3n⟩ hb_ hon hoff
        refine ⟨_, rfl, fun K hK => ?_⟩
        have e0 : a.tmps[0]? = some (.pointer (some ⟨g, 0, none⟩)) := by rw [ha]; exact (putSel_off rfl).trans rfl
        replace ha := Aside0.mk ha
        refine value_ (w1 := w') (v := .pointer (some ⟨g, 0, none⟩)) (by rfl) rfl ?_ ?_
        · go_simp
          (try simp only [i64_w])
          try rfl
        refine hK.out _ _ ⟨(by rw [ha.out]; exact putSel_upk 0 hb_ rfl rfl rfl), Q_KB3, Q_HB3, Q_HK3, fun h0_ => absurd ((hoff 23 (by kernel_rfl)).symm.trans h0_) (by decide)⟩
      refine steps_cons ?_ ?_
      · rintro b a w' ⟨ha, Q_KB3, Q_HB3, Q_HK3, Q_KB3n⟩ hb_ hon hoff
        refine ⟨_, rfl, fun K hK => ?_⟩
        have e0 : a.tmps[0]? = some (.pointer (some ⟨g, 0, none⟩)) := by rw [ha]; exact (putSel_off rfl).trans rfl
        replace ha := Aside0.mk ha
        refine value_ (w1 := w') (v := .pointer (some ⟨g, 0, none⟩)) (by rfl) rfl ?_ ?_
        · go_simp
          (try simp only [i64_w])
          try rfl
        refine hK.out _ _ ⟨(by rw [ha.out]; exact putSel_upk 1 hb_ rfl rfl rfl), Q_KB3, Q_HB3, Q_HK3, fun h0_ => absurd ((hoff 23 (by kernel_rfl)).symm.trans h0_) (by decide)⟩
      refine steps_cons ?_ ?_
      · rintro b a w' ⟨ha, Q_KB3, Q_HB3, Q_HK3, Q_KB3n⟩ hb_ hon hoff
        refine ⟨_, rfl, fun K hK => ?_⟩
        have e21 : a.tmps[21]? = some (.pointer (some ⟨g, 0, none⟩)) := on_ ha 1 rfl rfl (hon 1 (by kernel_rfl)) rfl
        replace ha := Aside0.mk ha
        refine value_ (w1 := w') (v := .pointer (some ⟨g, 0, none⟩)) (by rfl) rfl ?_ ?_
        · go_simp
          (try simp only [i64_w])
          try rfl
        refine hK.out _ _ ⟨(by rw [ha.out]; exact putSel_upk 2 hb_ rfl rfl rfl), Q_KB3, Q_HB3, Q_HK3, fun h0_ => absurd ((hoff 23 (by kernel_rfl)).symm.trans h0_) (by decide)⟩
      refine steps_cons ?_ ?_
      · rintro b a w' ⟨ha, Q_KB3, Q_HB3, Q_HK3, Q_KB3n⟩ hb_ hon hoff
        refine ⟨_, rfl, fun K hK => ?_⟩
        have e22 : a.tmps[22]? = some (.pointer (some ⟨g, 0, none⟩)) := on_ ha 2 rfl rfl (hon 2 (by kernel_rfl)) rfl
        replace ha := Aside0.mk ha
        refine value_ (w1 := w') (v := .pointer (some ⟨g, 2, none⟩)) (by rfl) rfl ?_ ?_
        · go_simp
          (try simp only [i64_w])
          try rfl
        refine hK.out _ _ ⟨(by rw [ha.out]; exact putSel_upk 3 hb_ rfl rfl rfl), Q_KB3, Q_HB3, Q_HK3, fun h0_ => absurd ((hoff 23 (by kernel_rfl)).symm.trans h0_) (by decide)⟩
      refine steps_cons ?_ ?_
      · rintro b a w' ⟨ha, Q_KB3, Q_HB3, Q_HK3, Q_KB3n⟩ hb_ hon hoff
        refine ⟨_, rfl, fun K hK => ?_⟩
        have e23 : a.tmps[23]? = some (.pointer (some ⟨g, 2, none⟩)) := on_ ha 3 rfl rfl (hon 3 (by kernel_rfl)) rfl
        replace ha := Aside0.mk ha
        have KB3 := Aside0.mk (Q_KB3 (hoff 23 (by kernel_rfl)))
        have hc_ := blk_cell KB3.out 2
        simp only [List.getElem?_toArray, List.getElem?_cons_zero, List.getElem?_cons_succ] at hc_
        refine value_ (w1 := w') (v := .int .i64 s0_2) (by rfl) rfl ?_ ?_
        · go_simp
          (try simp only [i64_w])
          try rfl
        refine hK.out _ _ ⟨(by rw [ha.out]; exact putSel_upk 4 hb_ rfl rfl rfl), Q_KB3, Q_HB3, Q_HK3, fun h0_ => absurd ((hoff 23 (by kernel_rfl)).symm.trans h0_) (by decide)⟩
      refine steps_cons ?_ ?_
      · rintro b a w' ⟨ha, Q_KB3, Q_HB3, Q_HK3, Q_KB3n⟩ hb_ hon hoff
        refine ⟨_, rfl, fun K hK => ?_⟩
        have e24 : a.tmps[24]? = some (.int .i64 s0_2) := on_ ha 4 rfl rfl (hon 4 (by kernel_rfl)) rfl
        replace ha := Aside0.mk ha
        obtain ⟨q1_, q2_, q3_, q4_, q5_, q6_⟩ := HW.out
        refine value_ (w1 := w') (v := .int .i64 (s0_2 * 31)) (by rfl) rfl ?_ ?_
        · go_simp
          (try simp only [i64_w])
          try rfl
        refine hK.out _ _ ⟨(by rw [ha.out]; exact putSel_upk 5 hb_ rfl rfl rfl), Q_KB3, Q_HB3, Q_HK3, fun h0_ => absurd ((hoff 23 (by kernel_rfl)).symm.trans h0_) (by decide)⟩
      refine steps_cons ?_ ?_
      · rintro b a w' ⟨ha, Q_KB3, Q_HB3, Q_HK3, Q_KB3n⟩ hb_ hon hoff
        refine ⟨_, rfl, fun K hK => ?_⟩
        have e0 : a.tmps[0]? = some (.pointer (some ⟨g, 0, none⟩)) := by rw [ha]; exact (putSel_off rfl).trans rfl
        replace ha := Aside0.mk ha
        refine value_ (w1 := w') (v := .pointer (some ⟨g, 0, none⟩)) (by rfl) rfl ?_ ?_
        · go_simp
          (try simp only [i64_w])
          try rfl
        refine hK.out _ _ ⟨(by rw [ha.out]; exact putSel_upk 6 hb_ rfl rfl rfl), Q_KB3, Q_HB3, Q_HK3, fun h0_ => absurd ((hoff 23 (by kernel_rfl)).symm.trans h0_) (by decide)⟩
      refine steps_cons ?_ ?_
      · rintro b a w' ⟨ha, Q_KB3, Q_HB3, Q_HK3, Q_KB3n⟩ hb_ hon hoff
        refine ⟨_, rfl, fun K hK => ?_⟩
        have e26 : a.tmps[26]? = some (.pointer (some ⟨g, 0, none⟩)) := on_ ha 6 rfl rfl (hon 6 (by kernel_rfl)) rfl
        replace ha := Aside0.mk ha
        refine value_ (w1 := w') (v := .pointer (some ⟨g, 0, none⟩)) (by rfl) rfl ?_ ?_
        · go_simp
          (try simp only [i64_w])
          try rfl
        refine hK.out _ _ ⟨(by rw [ha.out]; exact putSel_upk 7 hb_ rfl rfl rfl), Q_KB3, Q_HB3, Q_HK3, fun h0_ => absurd ((hoff 23 (by kernel_rfl)).symm.trans h0_) (by decide)⟩
      refine steps_cons ?_ ?_
      · rintro b a w' ⟨ha, Q_KB3, Q_HB3, Q_HK3, Q_KB3n⟩ hb_ hon hoff
        refine ⟨_, rfl, fun K hK => ?_⟩
        have e27 : a.tmps[27]? = some (.pointer (some ⟨g, 0, none⟩)) := on_ ha 7 rfl rfl (hon 7 (by kernel_rfl)) rfl
        replace ha := Aside0.mk ha
        refine value_ (w1 := w') (v := .pointer (some ⟨g, 0, none⟩)) (by rfl) rfl ?_ ?_
        · go_simp
          (try simp only [i64_w])
          try rfl
        refine hK.out _ _ ⟨(by rw [ha.out]; exact putSel_upk 8 hb_ rfl rfl rfl), Q_KB3, Q_HB3, Q_HK3, fun h0_ => absurd ((hoff 23 (by kernel_rfl)).symm.trans h0_) (by decide)⟩
      refine steps_cons ?_ ?_
      · rintro b a w' ⟨ha, Q_KB3, Q_HB3, Q_HK3, Q_KB3n⟩ hb_ hon hoff
        refine ⟨_, rfl, fun K hK => ?_⟩
        have e28 : a.tmps[28]? = some (.pointer (some ⟨g, 0, none⟩)) := on_ ha 8 rfl rfl (hon 8 (by kernel_rfl)) rfl
        replace ha := Aside0.mk ha
        have KB3 := Aside0.mk (Q_KB3 (hoff 23 (by kernel_rfl)))
        have hc_ := blk_cell KB3.out 0
        simp only [List.getElem?_toArray, List.getElem?_cons_zero, List.getElem?_cons_succ] at hc_
        refine value_ (w1 := w') (v := .slice (some ad) s0_0.length c) (by rfl) rfl ?_ ?_
        · go_simp
          (try simp only [i64_w])
          try rfl
        refine hK.out _ _ ⟨(by rw [ha.out]; exact putSel_upk 9 hb_ rfl rfl rfl), Q_KB3, Q_HB3, Q_HK3, fun h0_ => absurd ((hoff 23 (by kernel_rfl)).symm.trans h0_) (by decide)⟩
      refine steps_cons ?_ ?_
      · rintro b a w' ⟨ha, Q_KB3, Q_HB3, Q_HK3, Q_KB3n⟩ hb_ hon hoff
        refine ⟨_, rfl, fun K hK => ?_⟩
        have e0 : a.tmps[0]? = some (.pointer (some ⟨g, 0, none⟩)) := by rw [ha]; exact (putSel_off rfl).trans rfl
        replace ha := Aside0.mk ha
        refine value_ (w1 := w') (v := .pointer (some ⟨g, 0, none⟩)) (by rfl) rfl ?_ ?_
        · go_simp
          (try simp only [i64_w])
          try rfl
        refine hK.out _ _ ⟨(by rw [ha.out]; exact putSel_upk 10 hb_ rfl rfl rfl), Q_KB3, Q_HB3, Q_HK3, fun h0_ => absurd ((hoff 23 (by kernel_rfl)).symm.trans h0_) (by decide)⟩
      refine steps_cons ?_ ?_
      · rintro b a w' ⟨ha, Q_KB3, Q_HB3, Q_HK3, Q_KB3n⟩ hb_ hon hoff
        refine ⟨_, rfl, fun K hK => ?_⟩
        have e30 : a.tmps[30]? = some (.pointer (some ⟨g, 0, none⟩)) := on_ ha 10 rfl rfl (hon 10 (by kernel_rfl)) rfl
        replace ha := Aside0.mk ha
        refine value_ (w1 := w') (v := .pointer (some ⟨g, 0, none⟩)) (by rfl) rfl ?_ ?_
        · go_simp
          (try simp only [i64_w])
          try rfl
        refine hK.out _ _ ⟨(by rw [ha.out]; exact putSel_upk 11 hb_ rfl rfl rfl), Q_KB3, Q_HB3, Q_HK3, fun h0_ => absurd ((hoff 23 (by kernel_rfl)).symm.trans h0_) (by decide)⟩
      refine steps_cons ?_ ?_
      · rintro b a w' ⟨ha, Q_KB3, Q_HB3, Q_HK3, Q_KB3n⟩ hb_ hon hoff
        refine ⟨_, rfl, fun K hK => ?_⟩
        have e31 : a.tmps[31]? = some (.pointer (some ⟨g, 0, none⟩)) := on_ ha 11 rfl rfl (hon 11 (by kernel_rfl)) rfl
        replace ha := Aside0.mk ha
        refine value_ (w1 := w') (v := .pointer (some ⟨g, 1, none⟩)) (by rfl) rfl ?_ ?_
        · go_simp
          (try simp only [i64_w])
          try rfl
        refine hK.out _ _ ⟨(by rw [ha.out]; exact putSel_upk 12 hb_ rfl rfl rfl), Q_KB3, Q_HB3, Q_HK3, fun h0_ => absurd ((hoff 23 (by kernel_rfl)).symm.trans h0_) (by decide)⟩
      refine steps_cons ?_ ?_
      · rintro b a w' ⟨ha, Q_KB3, Q_HB3, Q_HK3, Q_KB3n⟩ hb_ hon hoff
        refine ⟨_, rfl, fun K hK => ?_⟩
        have e32 : a.tmps[32]? = some (.pointer (some ⟨g, 1, none⟩)) := on_ ha 12 rfl rfl (hon 12 (by kernel_rfl)) rfl
        replace ha := Aside0.mk ha
        have KB3 := Aside0.mk (Q_KB3 (hoff 23 (by kernel_rfl)))
        have hc_ := blk_cell KB3.out 1
        simp only [List.getElem?_toArray, List.getElem?_cons_zero, List.getElem?_cons_succ] at hc_
        refine value_ (w1 := w') (v := .int .i64 ((n : Int) + 1)) (by rfl) rfl ?_ ?_
        · go_simp
          (try simp only [i64_w])
          try rfl
        refine hK.out _ _ ⟨(by rw [ha.out]; exact putSel_upk 13 hb_ rfl rfl rfl), Q_KB3, Q_HB3, Q_HK3, fun h0_ => absurd ((hoff 23 (by kernel_rfl)).symm.trans h0_) (by decide)⟩
      refine steps_cons ?_ ?_
      · rintro b a w' ⟨ha, Q_KB3, Q_HB3, Q_HK3, Q_KB3n⟩ hb_ hon hoff
        refine ⟨_, rfl, fun K hK => ?_⟩
        have e33 : a.tmps[33]? = some (.int .i64 ((n : Int) + 1)) := on_ ha 13 rfl rfl (hon 13 (by kernel_rfl)) rfl
        replace ha := Aside0.mk ha
        obtain ⟨q1_, q2_, q3_, q4_, q5_, q6_⟩ := HW.out
        refine value_ (w1 := w') (v := .int .i64 (n : Int)) (by rfl) rfl ?_ ?_
        · go_simp
          (try simp only [i64_w])
          try rfl
        refine hK.out _ _ ⟨(by rw [ha.out]; exact putSel_upk 14 hb_ rfl rfl rfl), Q_KB3, Q_HB3, Q_HK3, fun h0_ => absurd ((hoff 23 (by kernel_rfl)).symm.trans h0_) (by decide)⟩
      refine steps_cons ?_ ?_
      · rintro b a w' ⟨ha, Q_KB3, Q_HB3, Q_HK3, Q_KB3n⟩ hb_ hon hoff
        refine ⟨_, rfl, fun K hK => ?_⟩
        have e29 : a.tmps[29]? = some (.slice (some ad) s0_0.length c) := on_ ha 9 rfl rfl (hon 9 (by kernel_rfl)) rfl
        have e34 : a.tmps[34]? = some (.int .i64 (n : Int)) := on_ ha 14 rfl rfl (hon 14 (by kernel_rfl)) rfl
        replace ha := Aside0.mk ha
        obtain ⟨q1_, q2_⟩ := HI1.out
        refine value_ (w1 := w') (v := .pointer (some (ad.add n))) (by rfl) rfl ?_ ?_
        · go_simp
          (try simp only [i64_w])
          try rfl
        refine hK.out _ _ ⟨(by rw [ha.out]; exact putSel_upk 15 hb_ rfl rfl rfl), Q_KB3, Q_HB3, Q_HK3, fun h0_ => absurd ((hoff 23 (by kernel_rfl)).symm.trans h0_) (by decide)⟩
      refine steps_cons ?_ ?_
      · rintro b a w' ⟨ha, Q_KB3, Q_HB3, Q_HK3, Q_KB3n⟩ hb_ hon hoff
        refine ⟨_, rfl, fun K hK => ?_⟩
        have e35 : a.tmps[35]? = some (.pointer (some (ad.add n))) := on_ ha 15 rfl rfl (hon 15 (by kernel_rfl)) rfl
        replace ha := Aside0.mk ha
        have HB3 := Aside0.mk Q_HB3
        have hc_ := (HB3.out.cell (World.block_lt_of_cell? w0 _ HX.out)).trans HX.out
        refine value_ (w1 := w') (v := .int .u8 bt) (by rfl) rfl ?_ ?_
        · go_simp
          (try simp only [i64_w])
          try rfl
        refine hK.out _ _ ⟨(by rw [ha.out]; exact putSel_upk 16 hb_ rfl rfl rfl), Q_KB3, Q_HB3, Q_HK3, fun h0_ => absurd ((hoff 23 (by kernel_rfl)).symm.trans h0_) (by decide)⟩
      refine steps_cons ?_ ?_
      · rintro b a w' ⟨ha, Q_KB3, Q_HB3, Q_HK3, Q_KB3n⟩ hb_ hon hoff
        refine ⟨_, rfl, fun K hK => ?_⟩
        have e36 : a.tmps[36]? = some (.int .u8 bt) := on_ ha 16 rfl rfl (hon 16 (by kernel_rfl)) rfl
        replace ha := Aside0.mk ha
        obtain ⟨q1_, q2_, q3_, q4_, q5_, q6_⟩ := HW.out
        refine value_ (w1 := w') (v := .int .i64 bt) (by rfl) rfl ?_ ?_
        · go_simp
          (try simp only [i64_w])
          try rfl
        refine hK.out _ _ ⟨(by rw [ha.out]; exact putSel_upk 17 hb_ rfl rfl rfl), Q_KB3, Q_HB3, Q_HK3, fun h0_ => absurd ((hoff 23 (by kernel_rfl)).symm.trans h0_) (by decide)⟩
      refine steps_cons ?_ ?_
      · rintro b a w' ⟨ha, Q_KB3, Q_HB3, Q_HK3, Q_KB3n⟩ hb_ hon hoff
        refine ⟨_, rfl, fun K hK => ?_⟩
        have e25 : a.tmps[25]? = some (.int .i64 (s0_2 * 31)) := on_ ha 5 rfl rfl (hon 5 (by kernel_rfl)) rfl
        have e37 : a.tmps[37]? = some (.int .i64 bt) := on_ ha 17 rfl rfl (hon 17 (by kernel_rfl)) rfl
        replace ha := Aside0.mk ha
        obtain ⟨q1_, q2_, q3_, q4_, q5_, q6_⟩ := HW.out
        refine value_ (w1 := w') (v := .int .i64 (s0_2 * 31 + bt)) (by rfl) rfl ?_ ?_
        · go_simp
          (try simp only [i64_w])
          try rfl
        refine hK.out _ _ ⟨(by rw [ha.out]; exact putSel_upk 18 hb_ rfl rfl rfl), Q_KB3, Q_HB3, Q_HK3, fun h0_ => absurd ((hoff 23 (by kernel_rfl)).symm.trans h0_) (by decide)⟩
      refine steps_cons ?_ ?_
      · rintro b a w' ⟨ha, Q_KB3, Q_HB3, Q_HK3, Q_KB3n⟩ hb_ hon hoff
        refine ⟨_, rfl, fun K hK => ?_⟩
        have e38 : a.tmps[38]? = some (.int .i64 (s0_2 * 31 + bt)) := on_ ha 18 rfl rfl (hon 18 (by kernel_rfl)) rfl
        replace ha := Aside0.mk ha
        obtain ⟨q1_, q2_, q3_, q4_, q5_, q6_⟩ := HW.out
        refine value_ (w1 := w') (v := .int .i64 (s0_2 * 31 + bt + 7)) (by rfl) rfl ?_ ?_
        · go_simp
          (try simp only [i64_w])
          try rfl
        refine hK.out _ _ ⟨(by rw [ha.out]; exact putSel_upk 19 hb_ rfl rfl rfl), Q_KB3, Q_HB3, Q_HK3, fun h0_ => absurd ((hoff 23 (by kernel_rfl)).symm.trans h0_) (by decide)⟩
      refine steps_cons ?_ ?_
      · rintro b a w' ⟨ha, Q_KB3, Q_HB3, Q_HK3, Q_KB3n⟩ hb_ hon hoff
        refine ⟨_, rfl, fun K hK => ?_⟩
        have e39 : a.tmps[39]? = some (.int .i64 (s0_2 * 31 + bt + 7)) := on_ ha 19 rfl rfl (hon 19 (by kernel_rfl)) rfl
        replace ha := Aside0.mk ha
        obtain ⟨q1_, q2_, q3_, q4_, q5_, q6_⟩ := HW.out
        refine value_ (w1 := w') (v := .int .i64 (Int.tmod (s0_2 * 31 + bt + 7) 2147483648)) (by rfl) rfl ?_ ?_
        · go_simp
          (try simp only [i64_w])
          try rfl
        refine hK.out _ _ ⟨(by rw [ha.out]; exact putSel_upk 20 hb_ rfl rfl rfl), Q_KB3, Q_HB3, Q_HK3, fun h0_ => absurd ((hoff 23 (by kernel_rfl)).symm.trans h0_) (by decide)⟩
      refine steps_cons ?_ ?_
      · rintro b a w' ⟨ha, Q_KB3, Q_HB3, Q_HK3, Q_KB3n⟩ hb_ hon hoff
        refine ⟨_, rfl, fun K hK => ?_⟩
        have e20 : a.tmps[20]? = some (.pointer (some ⟨g, 0, none⟩)) := on_ ha 0 rfl rfl (hon 0 (by kernel_rfl)) rfl
        replace ha := Aside0.mk ha
        refine value_ (w1 := w') (v := .pointer (some ⟨g, 0, none⟩)) (by rfl) rfl ?_ ?_
        · go_simp
          (try simp only [i64_w])
          try rfl
        refine hK.out _ _ ⟨(by rw [ha.out]; exact putSel_upk 21 hb_ rfl rfl rfl), Q_KB3, Q_HB3, Q_HK3, fun h0_ => absurd ((hoff 23 (by kernel_rfl)).symm.trans h0_) (by decide)⟩
      refine steps_cons ?_ ?_
      · rintro b a w' ⟨ha, Q_KB3, Q_HB3, Q_HK3, Q_KB3n⟩ hb_ hon hoff
        refine ⟨_, rfl, fun K hK => ?_⟩
        have e41 : a.tmps[41]? = some (.pointer (some ⟨g, 0, none⟩)) := on_ ha 21 rfl rfl (hon 21 (by kernel_rfl)) rfl
        replace ha := Aside0.mk ha
        refine value_ (w1 := w') (v := .pointer (some ⟨g, 2, none⟩)) (by rfl) rfl ?_ ?_
        · go_simp
          (try simp only [i64_w])
          try rfl
        refine hK.out _ _ ⟨(by rw [ha.out]; exact putSel_upk 22 hb_ rfl rfl rfl), Q_KB3, Q_HB3, Q_HK3, fun h0_ => absurd ((hoff 23 (by kernel_rfl)).symm.trans h0_) (by decide)⟩
      refine steps_cons ?_ ?_
      · rintro b a w' ⟨ha, Q_KB3, Q_HB3, Q_HK3, Q_KB3n⟩ hb_ hon hoff
        refine ⟨_, rfl, fun K hK => ?_⟩
        have e42 : a.tmps[42]? = some (.pointer (some ⟨g, 2, none⟩)) := on_ ha 22 rfl rfl (hon 22 (by kernel_rfl)) rfl
        have e40 : a.tmps[40]? = some (.int .i64 (Int.tmod (s0_2 * 31 + bt + 7) 2147483648)) := on_ ha 20 rfl rfl (hon 20 (by kernel_rfl)) rfl
        replace ha := Aside0.mk ha
        have KB3 := Aside0.mk (Q_KB3 hb_)
        have HB3 := Aside0.mk Q_HB3
        have HK3 := Aside0.mk Q_HK3
        have hc_ := blk_cell KB3.out 2
        have hf_ := blk_frozen KB3.out 2
        simp only [List.getElem?_toArray, List.getElem?_cons_zero, List.getElem?_cons_succ] at hc_
        refine skip_ (w1 := w'.setCell ⟨g, 2, none⟩ (.int .i64 (Int.tmod (s0_2 * 31 + bt + 7) 2147483648))) (by rfl) rfl ?_ ?_
        · go_simp
        refine hK.out _ _ ⟨(by rw [ha.out]; exact putSel_none (v := undef) rfl), fun h0_ => absurd ((up_self b 23).symm.trans h0_) (by decide), HB3.out.setCell (p := ⟨g, 2, none⟩) HG.out _, HK3.out.set_ 2 _, fun _ => blk_set KB3.out 2 _⟩
      exact steps_nil
    rintro b a wC hall ⟨ha, Q_KB3, Q_HB3, Q_HK3, Q_KB3n⟩
    clear HB3 HK3 KB3
    have hb0_ := hall 0 (by kernel_rfl)
    have hb1_ := hall 1 (by kernel_rfl)
    have hb2_ := hall 2 (by kernel_rfl)
    have hb3_ := hall 3 (by kernel_rfl)
    have hb4_ := hall 4 (by kernel_rfl)
    have hb5_ := hall 5 (by kernel_rfl)
    have hb6_ := hall 6 (by kernel_rfl)
    have hb7_ := hall 7 (by kernel_rfl)
    have hb8_ := hall 8 (by kernel_rfl)
    have hb9_ := hall 9 (by kernel_rfl)
    have hb10_ := hall 10 (by kernel_rfl)
    have hb11_ := hall 11 (by kernel_rfl)
    have hb12_ := hall 12 (by kernel_rfl)
    have hb13_ := hall 13 (by kernel_rfl)
    have hb14_ := hall 14 (by kernel_rfl)
    have hb15_ := hall 15 (by kernel_rfl)
    have hb16_ := hall 16 (by kernel_rfl)
    have hb17_ := hall 17 (by kernel_rfl)
    have hb18_ := hall 18 (by kernel_rfl)
    have hb19_ := hall 19 (by kernel_rfl)
    have hb20_ := hall 20 (by kernel_rfl)
    have hb21_ := hall 21 (by kernel_rfl)
    have hb22_ := hall 22 (by kernel_rfl)
    have hb23_ := hall 23 (by kernel_rfl)
    subst ha
    simp only [putSel, hb0_, hb1_, hb2_, hb3_, hb4_, hb5_, hb6_, hb7_, hb8_, hb9_, hb10_, hb11_, hb12_, hb13_, hb14_, hb15_, hb16_, hb17_, hb18_, hb19_, hb20_, hb21_, hb22_, hb23_, if_true, Act.put, List.setIfInBounds_toArray, List.set_cons_zero, List.set_cons_succ]
    clear Q_KB3
    have HB3 := Aside0.mk Q_HB3
    clear Q_HB3
    have HK3 := Aside0.mk Q_HK3
    clear Q_HK3
    have KB3n := Aside0.mk (Q_KB3n hb23_)
    clear Q_KB3n
    clear hall hb0_ hb1_ hb2_ hb3_ hb4_ hb5_ hb6_ hb7_ hb8_ hb9_ hb10_ hb11_ hb12_ hb13_ hb14_ hb15_ hb16_ hb17_ hb18_ hb19_ hb20_ hb21_ hb22_ hb23_
    go_upto_region 4 with fail
    have KB4 := Aside0.mk (blk_drew KB3n.out)
    have HB4 := Aside0.mk (below_drew HB3.out)
    have HK4 := Aside0.mk (HK3.out.trans (KeepBut.of_below (below_drew (Below.refl _ _)) g none) (.inl rfl))
    clear KB3n HB3 HK3
    refine start_ (n := 13) (S := fun w' => True) (ds := []) #[false, false, false, false, false, false, false, false, false, false, false, false, false] (by kernel_rfl) rfl rfl trivial (fun hHeld => ?_)
    refine with_tabW srcByte.tab4 srcByte.bits4 (fun HT_ HW_ => ?_)
    generalize wC.drew = wd at KB4 HB4 HK4 ⊢
    refine inv_at [0, 1, 2, 3, 4, 5, 6, 7, 8, 9, 10, 11, 12] (fun a0_ b a w' => a = putSel a0_ b [(0, 43, .pointer (some ⟨g, 0, none⟩)), (1, 44, .pointer (some ⟨g, 0, none⟩)), (2, 45, .pointer (some ⟨g, 0, none⟩)), (3, 46, .slice (some ad) s0_0.length c), (4, 47, .pointer (some ⟨g, 0, none⟩)), (5, 48, .pointer (some ⟨g, 0, none⟩)), (6, 49, .pointer (some ⟨g, 1, none⟩)), (7, 50, .int .i64 ((n : Int) + 1)), (8, 51, .int .i64 (n : Int)), (9, 52, .pointer (some (ad.add n))), (10, 53, .int .u8 bt), (11, 54, .int .i64 bt), (12, 2, .int .i64 bt)] ∧ (w'.heap[g]? = some (.cells #[.slice (some ad) s0_0.length c, .int .i64 ((n : Int) + 1), .int .i64 (Int.tmod (s0_2 * 31 + bt + 7) 2147483648)] 65 (0, 0))) ∧ (Below w0.heap.size w0 w') ∧ (KeepBut w w' g none)) HT_.out HW_.out (by kernel_rfl) (by kernel_rfl) ?_ ?_ ?_
    · exact ⟨by simp only [putSel, Bool.false_eq_true, if_false], KB4.out, HB4.out, HK4.out⟩
    · skip
      clear HB4 HK4 KB4
      refine steps_cons ?_ ?_
      · rintro b a w' ⟨ha, Q_KB4, Q_HB4, Q_HK4⟩ hb_ hon hoff
        refine ⟨_, rfl, fun K hK => ?_⟩
        have e0 : a.tmps[0]? = some (.pointer (some ⟨g, 0, none⟩)) := by rw [ha]; exact (putSel_off rfl).trans rfl
        replace ha := Aside0.mk ha
        refine value_ (w1 := w') (v := .pointer (some ⟨g, 0, none⟩)) (by rfl) rfl ?_ ?_
        · go_simp
          (try simp only [i64_w])
          try rfl
        refine hK.out _ _ ⟨(by rw [ha.out]; exact putSel_upk 0 hb_ rfl rfl rfl), Q_KB4, Q_HB4, Q_HK4⟩
      refine steps_cons ?_ ?_
      · rintro b a w' ⟨ha, Q_KB4, Q_HB4, Q_HK4⟩ hb_ hon hoff
        refine ⟨_, rfl, fun K hK => ?_⟩
        have e43 : a.tmps[43]? = some (.pointer (some ⟨g, 0, none⟩)) := on_ ha 0 rfl rfl (hon 0 (by kernel_rfl)) rfl
        replace ha := Aside0.mk ha
        refine value_ (w1 := w') (v := .pointer (some ⟨g, 0, none⟩)) (by rfl) rfl ?_ ?_
        · go_simp
          (try simp only [i64_w])
          try rfl
        refine hK.out _ _ ⟨(by rw [ha.out]; exact putSel_upk 1 hb_ rfl rfl rfl), Q_KB4, Q_HB4, Q_HK4⟩
      refine steps_cons ?_ ?_
      · rintro b a w' ⟨ha, Q_KB4, Q_HB4, Q_HK4⟩ hb_ hon hoff
        refine ⟨_, rfl, fun K hK => ?_⟩
        have e44 : a.tmps[44]? = some (.pointer (some ⟨g, 0, none⟩)) := on_ ha 1 rfl rfl (hon 1 (by kernel_rfl)) rfl
        replace ha := Aside0.mk ha
        refine value_ (w1 := w') (v := .pointer (some ⟨g, 0, none⟩)) (by rfl) rfl ?_ ?_
        · go_simp
          (try simp only [i64_w])
          try rfl
        refine hK.out _ _ ⟨(by rw [ha.out]; exact putSel_upk 2 hb_ rfl rfl rfl), Q_KB4, Q_HB4, Q_HK4⟩
      refine steps_cons ?_ ?_
      · rintro b a w' ⟨ha, Q_KB4, Q_HB4, Q_HK4⟩ hb_ hon hoff
        refine ⟨_, rfl, fun K hK => ?_⟩
        have e45 : a.tmps[45]? = some (.pointer (some ⟨g, 0, none⟩)) := on_ ha 2 rfl rfl (hon 2 (by kernel_rfl)) rfl
        replace ha := Aside0.mk ha
        have KB4 := Aside0.mk Q_KB4
        have hc_ := blk_cell KB4.out 0
        simp only [List.getElem?_toArray, List.getElem?_cons_zero, List.getElem?_cons_succ] at hc_
        refine value_ (w1 := w') (v := .slice (some ad) s0_0.length c) (by rfl) rfl ?_ ?_
        · go_simp
          (try simp only [i64_w])
          try rfl
        refine hK.out _ _ ⟨(by rw [ha.out]; exact putSel_upk 3 hb_ rfl rfl rfl), Q_KB4, Q_HB4, Q_HK4⟩
      refine steps_cons ?_ ?_
      · rintro b a w' ⟨ha, Q_KB4, Q_HB4, Q_HK4⟩ hb_ hon hoff
        refine ⟨_, rfl, fun K hK => ?_⟩
        have e0 : a.tmps[0]? = some (.pointer (some ⟨g, 0, none⟩)) := by rw [ha]; exact (putSel_off rfl).trans rfl
        replace ha := Aside0.mk ha
        refine value_ (w1 := w') (v := .pointer (some ⟨g, 0, none⟩)) (by rfl) rfl ?_ ?_
        · go_simp
          (try simp only [i64_w])
          try rfl
        refine hK.out _ _ ⟨(by rw [ha.out]; exact putSel_upk 4 hb_ rfl rfl rfl), Q_KB4, Q_HB4, Q_HK4⟩
      refine steps_cons ?_ ?_
      · rintro b a w' ⟨ha, Q_KB4, Q_HB4, Q_HK4⟩ hb_ hon hoff
        refine ⟨_, rfl, fun K hK => ?_⟩
        have e47 : a.tmps[47]? = some (.pointer (some ⟨g, 0, none⟩)) := on_ ha 4 rfl rfl (hon 4 (by kernel_rfl)) rfl
        replace ha := Aside0.mk ha
        refine value_ (w1 := w') (v := .pointer (some ⟨g, 0, none⟩)) (by rfl) rfl ?_ ?_
        · go_simp
          (try simp only [i64_w])
          try rfl
        refine hK.out _ _ ⟨(by rw [ha.out]; exact putSel_upk 5 hb_ rfl rfl rfl), Q_KB4, Q_HB4, Q_HK4⟩
      refine steps_cons ?_ ?_
      · rintro b a w' ⟨ha, Q_KB4, Q_HB4, Q_HK4⟩ hb_ hon hoff
        refine ⟨_, rfl, fun K hK => ?_⟩
        have e48 : a.tmps[48]? = some (.pointer (some ⟨g, 0, none⟩)) := on_ ha 5 rfl rfl (hon 5 (by kernel_rfl)) rfl
        replace ha := Aside0.mk ha
        refine value_ (w1 := w') (v := .pointer (some ⟨g, 1, none⟩)) (by rfl) rfl ?_ ?_
        · go_simp
          (try simp only [i64_w])
          try rfl
        refine hK.out _ _ ⟨(by rw [ha.out]; exact putSel_upk 6 hb_ rfl rfl rfl), Q_KB4, Q_HB4, Q_HK4⟩
      refine steps_cons ?_ ?_
      · rintro b a w' ⟨ha, Q_KB4, Q_HB4, Q_HK4⟩ hb_ hon hoff
        refine ⟨_, rfl, fun K hK => ?_⟩
        have e49 : a.tmps[49]? = some (.pointer (some ⟨g, 1, none⟩)) := on_ ha 6 rfl rfl (hon 6 (by kernel_rfl)) rfl
        replace ha := Aside0.mk ha
        have KB4 := Aside0.mk Q_KB4
        have hc_ := blk_cell KB4.out 1
        simp only [List.getElem?_toArray, List.getElem?_cons_zero, List.getElem?_cons_succ] at hc_
        refine value_ (w1 := w') (v := .int .i64 ((n : Int) + 1)) (by rfl) rfl ?_ ?_
        · go_simp
          (try simp only [i64_w])
          try rfl
        refine hK.out _ _ ⟨(by rw [ha.out]; exact putSel_upk 7 hb_ rfl rfl rfl), Q_KB4, Q_HB4, Q_HK4⟩
      refine steps_cons ?_ ?_
      · rintro b a w' ⟨ha, Q_KB4, Q_HB4, Q_HK4⟩ hb_ hon hoff
        refine ⟨_, rfl, fun K hK => ?_⟩
        have e50 : a.tmps[50]? = some (.int .i64 ((n : Int) + 1)) := on_ ha 7 rfl rfl (hon 7 (by kernel_rfl)) rfl
        replace ha := Aside0.mk ha
        obtain ⟨q1_, q2_, q3_, q4_, q5_, q6_⟩ := HW.out
        refine value_ (w1 := w') (v := .int .i64 (n : Int)) (by rfl) rfl ?_ ?_
        · go_simp
          (try simp only [i64_w])
          try rfl
        refine hK.out _ _ ⟨(by rw [ha.out]; exact putSel_upk 8 hb_ rfl rfl rfl), Q_KB4, Q_HB4, Q_HK4⟩
      refine steps_cons ?_ ?_
      · rintro b a w' ⟨ha, Q_KB4, Q_HB4, Q_HK4⟩ hb_ hon hoff
        refine ⟨_, rfl, fun K hK => ?_⟩
        have e46 : a.tmps[46]? = some (.slice (some ad) s0_0.length c) := on_ ha 3 rfl rfl (hon 3 (by kernel_rfl)) rfl
        have e51 : a.tmps[51]? = some (.int .i64 (n : Int)) := on_ ha 8 rfl rfl (hon 8 (by kernel_rfl)) rfl
        replace ha := Aside0.mk ha
        obtain ⟨q1_, q2_⟩ := HI1.out
        refine value_ (w1 := w') (v := .pointer (some (ad.add n))) (by rfl) rfl ?_ ?_
        · go_simp
          (try simp only [i64_w])
          try rfl
        refine hK.out _ _ ⟨(by rw [ha.out]; exact putSel_upk 9 hb_ rfl rfl rfl), Q_KB4, Q_HB4, Q_HK4⟩
      refine steps_cons ?_ ?_
      · rintro b a w' ⟨ha, Q_KB4, Q_HB4, Q_HK4⟩ hb_ hon hoff
        refine ⟨_, rfl, fun K hK => ?_⟩
        have e52 : a.tmps[52]? = some (.pointer (some (ad.add n))) := on_ ha 9 rfl rfl (hon 9 (by kernel_rfl)) rfl
        replace ha := Aside0.mk ha
        have HB4 := Aside0.mk Q_HB4
        have hc_ := (HB4.out.cell (World.block_lt_of_cell? w0 _ HX.out)).trans HX.out
        refine value_ (w1 := w') (v := .int .u8 bt) (by rfl) rfl ?_ ?_
        · go_simp
          (try simp only [i64_w])
          try rfl
        refine hK.out _ _ ⟨(by rw [ha.out]; exact putSel_upk 10 hb_ rfl rfl rfl), Q_KB4, Q_HB4, Q_HK4⟩
      refine steps_cons ?_ ?_
      · rintro b a w' ⟨ha, Q_KB4, Q_HB4, Q_HK4⟩ hb_ hon hoff
        refine ⟨_, rfl, fun K hK => ?_⟩
        have e53 : a.tmps[53]? = some (.int .u8 bt) := on_ ha 10 rfl rfl (hon 10 (by kernel_rfl)) rfl
        replace ha := Aside0.mk ha
        obtain ⟨q1_, q2_, q3_, q4_, q5_, q6_⟩ := HW.out
        refine value_ (w1 := w') (v := .int .i64 bt) (by rfl) rfl ?_ ?_
        · go_simp
          (try simp only [i64_w])
          try rfl
        refine hK.out _ _ ⟨(by rw [ha.out]; exact putSel_upk 11 hb_ rfl rfl rfl), Q_KB4, Q_HB4, Q_HK4⟩
      refine steps_cons ?_ ?_
      · rintro b a w' ⟨ha, Q_KB4, Q_HB4, Q_HK4⟩ hb_ hon hoff
        refine ⟨_, rfl, fun K hK => ?_⟩
        have e54 : a.tmps[54]? = some (.int .i64 bt) := on_ ha 11 rfl rfl (hon 11 (by kernel_rfl)) rfl
        replace ha := Aside0.mk ha
        refine value_ (w1 := w') (v := .int .i64 bt) (by rfl) rfl ?_ ?_
        · go_simp
          (try simp only [i64_w])
          try rfl
        refine hK.out _ _ ⟨(by rw [ha.out]; exact putSel_upk 12 hb_ rfl rfl rfl), Q_KB4, Q_HB4, Q_HK4⟩
      exact steps_nil
    rintro b a wD hall ⟨ha, Q_KB4, Q_HB4, Q_HK4⟩
    clear HB4 HK4 KB4
    have hb0_ := hall 0 (by kernel_rfl)
    have hb1_ := hall 1 (by kernel_rfl)
    have hb2_ := hall 2 (by kernel_rfl)
    have hb3_ := hall 3 (by kernel_rfl)
    have hb4_ := hall 4 (by kernel_rfl)
    have hb5_ := hall 5 (by kernel_rfl)
    have hb6_ := hall 6 (by kernel_rfl)
    have hb7_ := hall 7 (by kernel_rfl)
    have hb8_ := hall 8 (by kernel_rfl)
    have hb9_ := hall 9 (by kernel_rfl)
    have hb10_ := hall 10 (by kernel_rfl)
    have hb11_ := hall 11 (by kernel_rfl)
    have hb12_ := hall 12 (by kernel_rfl)
    subst ha
    simp only [putSel, hb0_, hb1_, hb2_, hb3_, hb4_, hb5_, hb6_, hb7_, hb8_, hb9_, hb10_, hb11_, hb12_, if_true, Act.put, List.setIfInBounds_toArray, List.set_cons_zero, List.set_cons_succ]
    have KB4 := Aside0.mk Q_KB4
    clear Q_KB4
    have HB4 := Aside0.mk Q_HB4
    clear Q_HB4
    have HK4 := Aside0.mk Q_HK4
    clear Q_HK4
    clear hall hb0_ hb1_ hb2_ hb3_ hb4_ hb5_ hb6_ hb7_ hb8_ hb9_ hb10_ hb11_ hb12_
    go_wp2_with fail
    go_ret
    have hE := HE.out
    injection hE with e1 hE
    injection hE with e2 e3
    exact ⟨congrArg (fun z => Ending.returned (Value.int .i64 z)) e1, ⟨_, _, by rw [← e2, ← e3]; exact KB4.out, HG.out, HR.out⟩, HB4.out, HK4.out⟩
  · have c1 : decide ((n : Int) + 1 ≤ (s0_0.length : Int)) = false := decide_eq_false hle
    have CL := Aside0.mk c1
    by_cases hgt : 3000 < (n : Int) + 1
    · have HE := Aside0.mk (show ((0 : Int), (n : Int) + 1, s0_2) = (r1, r2, r3) from by rw [← h]; unfold byteF; rw [if_neg hle, if_pos hgt])
      have c2 : decide (3000 < (n : Int) + 1) = true := decide_eq_true hgt
      clear h hle hgt c1
      refine start_ (n := 10) (S := fun w' => True) (ds := []) #[false, false, false, false, false, false, false, false, false, false] (by kernel_rfl) rfl rfl trivial (fun hHeld => ?_)
      refine with_tabW srcByte.tab2 srcByte.bits2 (fun HT_ HW_ => ?_)
      generalize W1.drew = wd at KB2 HB2 HK2 ⊢
      refine inv_at [0, 1, 2, 3, 4, 5, 6, 7, 8, 9] (fun a0_ b a w' => a = putSel a0_ b [(0, 10, .pointer (some ⟨g, 0, none⟩)), (1, 11, .pointer (some ⟨g, 0, none⟩)), (2, 12, .pointer (some ⟨g, 1, none⟩)), (3, 13, .int .i64 ((n : Int) + 1)), (4, 14, .pointer (some ⟨g, 0, none⟩)), (5, 15, .pointer (some ⟨g, 0, none⟩)), (6, 16, .pointer (some ⟨g, 0, none⟩)), (7, 17, .slice A s0_0.length c), (8, 18, .int .i64 (s0_0.length : Int)), (9, 19, .bool false)] ∧ (w'.heap[g]? = some (.cells #[.slice A s0_0.length c, .int .i64 ((n : Int) + 1), .int .i64 s0_2] 65 (0, 0))) ∧ (Below w0.heap.size w0 w') ∧ (KeepBut w w' g none)) HT_.out HW_.out (by kernel_rfl) (by kernel_rfl) ?_ ?_ ?_
      · exact ⟨by simp only [putSel, Bool.false_eq_true, if_false], KB2.out, HB2.out, HK2.out⟩
      · skip
        clear HB2 HK2 KB2
        refine steps_cons ?_ ?_
        · rintro b a w' ⟨ha, Q_KB2, Q_HB2, Q_HK2⟩ hb_ hon hoff
          refine ⟨_, rfl, fun K hK => ?_⟩
          have e0 : a.tmps[0]? = some (.pointer (some ⟨g, 0, none⟩)) := by rw [ha]; exact (putSel_off rfl).trans rfl
          replace ha := Aside0.mk ha
          refine value_ (w1 := w') (v := .pointer (some ⟨g, 0, none⟩)) (by rfl) rfl ?_ ?_
          · go_simp
            (try simp only [i64_w])
            try rfl
          refine hK.out _ _ ⟨(by rw [ha.out]; exact putSel_upk 0 hb_ rfl rfl rfl), Q_KB2, Q_HB2, Q_HK2⟩
        refine steps_cons ?_ ?_
        · rintro b a w' ⟨ha, Q_KB2, Q_HB2, Q_HK2⟩ hb_ hon hoff
          refine ⟨_, rfl, fun K hK => ?_⟩
          have e10 : a.tmps[10]? = some (.pointer (some ⟨g, 0, none⟩)) := on_ ha 0 rfl rfl (hon 0 (by kernel_rfl)) rfl
          replace ha := Aside0.mk ha
          refine value_ (w1 := w') (v := .pointer (some ⟨g, 0, none⟩)) (by rfl) rfl ?_ ?_
          · go_simp
            (try simp only [i64_w])
            try rfl
          refine hK.out _ _ ⟨(by rw [ha.out]; exact putSel_upk 1 hb_ rfl rfl rfl), Q_KB2, Q_HB2, Q_HK2⟩
        refine steps_cons ?_ ?_
        · rintro b a w' ⟨ha, Q_KB2, Q_HB2, Q_HK2⟩ hb_ hon hoff
          refine ⟨_, rfl, fun K hK => ?_⟩
          have e11 : a.tmps[11]? = some (.pointer (some ⟨g, 0, none⟩)) := on_ ha 1 rfl rfl (hon 1 (by kernel_rfl)) rfl
          replace ha := Aside0.mk ha
          refine value_ (w1 := w') (v := .pointer (some ⟨g, 1, none⟩)) (by rfl) rfl ?_ ?_
          · go_simp
            (try simp only [i64_w])
            try rfl
          refine hK.out _ _ ⟨(by rw [ha.out]; exact putSel_upk 2 hb_ rfl rfl rfl), Q_KB2, Q_HB2, Q_HK2⟩
        refine steps_cons ?_ ?_
        · rintro b a w' ⟨ha, Q_KB2, Q_HB2, Q_HK2⟩ hb_ hon hoff
          refine ⟨_, rfl, fun K hK => ?_⟩
          have e12 : a.tmps[12]? = some (.pointer (some ⟨g, 1, none⟩)) := on_ ha 2 rfl rfl (hon 2 (by kernel_rfl)) rfl
          replace ha := Aside0.mk ha
          have KB2 := Aside0.mk Q_KB2
          have hc_ := blk_cell KB2.out 1
          simp only [List.getElem?_toArray, List.getElem?_cons_zero, List.getElem?_cons_succ] at hc_
          refine value_ (w1 := w') (v := .int .i64 ((n : Int) + 1)) (by rfl) rfl ?_ ?_
          · go_simp
            (try simp only [i64_w])
            try rfl
          refine hK.out _ _ ⟨(by rw [ha.out]; exact putSel_upk 3 hb_ rfl rfl rfl), Q_KB2, Q_HB2, Q_HK2⟩
        refine steps_cons ?_ ?_
        · rintro b a w' ⟨ha, Q_KB2, Q_HB2, Q_HK2⟩ hb_ hon hoff
          refine ⟨_, rfl, fun K hK => ?_⟩
          have e0 : a.tmps[0]? = some (.pointer (some ⟨g, 0, none⟩)) := by rw [ha]; exact (putSel_off rfl).trans rfl
          replace ha := Aside0.mk ha
          refine value_ (w1 := w') (v := .pointer (some ⟨g, 0, none⟩)) (by rfl) rfl ?_ ?_
          · go_simp
            (try simp only [i64_w])
            try rfl
          refine hK.out _ _ ⟨(by rw [ha.out]; exact putSel_upk 4 hb_ rfl rfl rfl), Q_KB2, Q_HB2, Q_HK2⟩
        refine steps_cons ?_ ?_
        · rintro b a w' ⟨ha, Q_KB2, Q_HB2, Q_HK2⟩ hb_ hon hoff
          refine ⟨_, rfl, fun K hK => ?_⟩
          have e14 : a.tmps[14]? = some (.pointer (some ⟨g, 0, none⟩)) := on_ ha 4 rfl rfl (hon 4 (by kernel_rfl)) rfl
          replace ha := Aside0.mk ha
          refine value_ (w1 := w') (v := .pointer (some ⟨g, 0, none⟩)) (by rfl) rfl ?_ ?_
          · go_simp
            (try simp only [i64_w])
            try rfl
          refine hK.out _ _ ⟨(by rw [ha.out]; exact putSel_upk 5 hb_ rfl rfl rfl), Q_KB2, Q_HB2, Q_HK2⟩
        refine steps_cons ?_ ?_
        · rintro b a w' ⟨ha, Q_KB2, Q_HB2, Q_HK2⟩ hb_ hon hoff
          refine ⟨_, rfl, fun K hK => ?_⟩
          have e15 : a.tmps[15]? = some (.pointer (some ⟨g, 0, none⟩)) := on_ ha 5 rfl rfl (hon 5 (by kernel_rfl)) rfl
          replace ha := Aside0.mk ha
          refine value_ (w1 := w') (v := .pointer (some ⟨g, 0, none⟩)) (by rfl) rfl ?_ ?_
          · go_simp
            (try simp only [i64_w])
            try rfl
          refine hK.out _ _ ⟨(by rw [ha.out]; exact putSel_upk 6 hb_ rfl rfl rfl), Q_KB2, Q_HB2, Q_HK2⟩
        refine steps_cons ?_ ?_
        · rintro b a w' ⟨ha, Q_KB2, Q_HB2, Q_HK2⟩ hb_ hon hoff
          refine ⟨_, rfl, fun K hK => ?_⟩
          have e16 : a.tmps[16]? = some (.pointer (some ⟨g, 0, none⟩)) := on_ ha 6 rfl rfl (hon 6 (by kernel_rfl)) rfl
          replace ha := Aside0.mk ha
          have KB2 := Aside0.mk Q_KB2
          have hc_ := blk_cell KB2.out 0
          simp only [List.getElem?_toArray, List.getElem?_cons_zero, List.getElem?_cons_succ] at hc_
          refine value_ (w1 := w') (v := .slice A s0_0.length c) (by rfl) rfl ?_ ?_
          · go_simp
            (try simp only [i64_w])
            try rfl
          refine hK.out _ _ ⟨(by rw [ha.out]; exact putSel_upk 7 hb_ rfl rfl rfl), Q_KB2, Q_HB2, Q_HK2⟩
        refine steps_cons ?_ ?_
        · rintro b a w' ⟨ha, Q_KB2, Q_HB2, Q_HK2⟩ hb_ hon hoff
          refine ⟨_, rfl, fun K hK => ?_⟩
          have e17 : a.tmps[17]? = some (.slice A s0_0.length c) := on_ ha 7 rfl rfl (hon 7 (by kernel_rfl)) rfl
          replace ha := Aside0.mk ha
          refine value_ (w1 := w') (v := .int .i64 (s0_0.length : Int)) (by rfl) rfl ?_ ?_
          · go_simp
            (try simp only [i64_w])
            try rfl
          refine hK.out _ _ ⟨(by rw [ha.out]; exact putSel_upk 8 hb_ rfl rfl rfl), Q_KB2, Q_HB2, Q_HK2⟩
        refine steps_cons ?_ ?_
        · rintro b a w' ⟨ha, Q_KB2, Q_HB2, Q_HK2⟩ hb_ hon hoff
          refine ⟨_, rfl, fun K hK => ?_⟩
          have e13 : a.tmps[13]? = some (.int .i64 ((n : Int) + 1)) := on_ ha 3 rfl rfl (hon 3 (by kernel_rfl)) rfl
          have e18 : a.tmps[18]? = some (.int .i64 (s0_0.length : Int)) := on_ ha 8 rfl rfl (hon 8 (by kernel_rfl)) rfl
          replace ha := Aside0.mk ha
          have hl_ := CL.out
          refine value_ (w1 := w') (v := .bool false) (by rfl) rfl ?_ ?_
          · go_simp
            (try simp only [i64_w])
            try rfl
          refine hK.out _ _ ⟨(by rw [ha.out]; exact putSel_upk 9 hb_ rfl rfl rfl), Q_KB2, Q_HB2, Q_HK2⟩
        exact steps_nil
      rintro b a wB hall ⟨ha, Q_KB2, Q_HB2, Q_HK2⟩
      clear HB2 HK2 KB2
      have hb0_ := hall 0 (by kernel_rfl)
      have hb1_ := hall 1 (by kernel_rfl)
      have hb2_ := hall 2 (by kernel_rfl)
      have hb3_ := hall 3 (by kernel_rfl)
      have hb4_ := hall 4 (by kernel_rfl)
      have hb5_ := hall 5 (by kernel_rfl)
      have hb6_ := hall 6 (by kernel_rfl)
      have hb7_ := hall 7 (by kernel_rfl)
      have hb8_ := hall 8 (by kernel_rfl)
      have hb9_ := hall 9 (by kernel_rfl)
      subst ha
      simp only [putSel, hb0_, hb1_, hb2_, hb3_, hb4_, hb5_, hb6_, hb7_, hb8_, hb9_, if_true, Act.put, List.setIfInBounds_toArray, List.set_cons_zero, List.set_cons_succ]
      have KB2 := Aside0.mk Q_KB2
      clear Q_KB2
      have HB2 := Aside0.mk Q_HB2
      clear Q_HB2
      have HK2 := Aside0.mk Q_HK2
      clear Q_HK2
      clear hall hb0_ hb1_ hb2_ hb3_ hb4_ hb5_ hb6_ hb7_ hb8_ hb9_
      have d1 := blk_cell KB2.out 1
      simp only [List.getElem?_toArray, List.getElem?_cons_zero, List.getElem?_cons_succ] at d1
      go_wp2_with fail
      go_ret
      have hE := HE.out
      injection hE with e1 hE
      injection hE with e2 e3
      exact ⟨congrArg (fun z => Ending.returned (Value.int .i64 z)) e1, ⟨_, _, by rw [← e2, ← e3]; exact KB2.out, HG.out, HR.out⟩, HB2.out, HK2.out⟩
    · have HE := Aside0.mk (show (Int.tmod (Int.tdiv (Int.tmod (s0_2 * 1103515245 + 12345) 2147483648) 65536) 256, (n : Int) + 1, Int.tmod (s0_2 * 1103515245 + 12345) 2147483648) = (r1, r2, r3) from by rw [← h]; unfold byteF; rw [if_neg hle, if_neg hgt])
      have c2 : decide (3000 < (n : Int) + 1) = false := decide_eq_false hgt
      have hsd : Int.tmod (s0_2 * 1103515245 + 12345) 2147483648 = (s0_2 * 1103515245 + 12345) % 2147483648 := Int.tmod_eq_emod_of_nonneg (by have := HS.out.1; omega)
      have w2 : IntKind.i64.wrap (s0_2 * 1103515245) = s0_2 * 1103515245 := by have := HS.out.1; have := HS.out.2; rw [IntKind.wrap_i64]; omega
      have w3 : IntKind.i64.wrap (s0_2 * 1103515245 + 12345) = s0_2 * 1103515245 + 12345 := by have := HS.out.1; have := HS.out.2; rw [IntKind.wrap_i64]; omega
      have w4 : IntKind.i64.wrap (Int.tmod (s0_2 * 1103515245 + 12345) 2147483648) = Int.tmod (s0_2 * 1103515245 + 12345) 2147483648 := by rw [hsd, IntKind.wrap_i64]; omega
      have hq : Int.tdiv (Int.tmod (s0_2 * 1103515245 + 12345) 2147483648) 65536 = (Int.tmod (s0_2 * 1103515245 + 12345) 2147483648) / 65536 := Int.tdiv_eq_ediv_of_nonneg (by rw [hsd]; omega)
      have w5 : IntKind.i64.wrap (Int.tdiv (Int.tmod (s0_2 * 1103515245 + 12345) 2147483648) 65536) = Int.tdiv (Int.tmod (s0_2 * 1103515245 + 12345) 2147483648) 65536 := by rw [hq, hsd, IntKind.wrap_i64]; omega
      have w6 : IntKind.i64.wrap (Int.tmod (Int.tdiv (Int.tmod (s0_2 * 1103515245 + 12345) 2147483648) 65536) 256) = Int.tmod (Int.tdiv (Int.tmod (s0_2 * 1103515245 + 12345) 2147483648) 65536) 256 := by rw [Int.tmod_eq_emod_of_nonneg (by rw [hq, hsd]; omega), hq, hsd, IntKind.wrap_i64]; omega
      clear h hle hgt c1 hsd hq
      refine start_ (n := 10) (S := fun w' => True) (ds := []) #[false, false, false, false, false, false, false, false, false, false] (by kernel_rfl) rfl rfl trivial (fun hHeld => ?_)
      refine with_tabW srcByte.tab2 srcByte.bits2 (fun HT_ HW_ => ?_)
      generalize W1.drew = wd at KB2 HB2 HK2 ⊢
      refine inv_at [0, 1, 2, 3, 4, 5, 6, 7, 8, 9] (fun a0_ b a w' => a = putSel a0_ b [(0, 10, .pointer (some ⟨g, 0, none⟩)), (1, 11, .pointer (some ⟨g, 0, none⟩)), (2, 12, .pointer (some ⟨g, 1, none⟩)), (3, 13, .int .i64 ((n : Int) + 1)), (4, 14, .pointer (some ⟨g, 0, none⟩)), (5, 15, .pointer (some ⟨g, 0, none⟩)), (6, 16, .pointer (some ⟨g, 0, none⟩)), (7, 17, .slice A s0_0.length c), (8, 18, .int .i64 (s0_0.length : Int)), (9, 19, .bool false)] ∧ (w'.heap[g]? = some (.cells #[.slice A s0_0.length c, .int .i64 ((n : Int) + 1), .int .i64 s0_2] 65 (0, 0))) ∧ (Below w0.heap.size w0 w') ∧ (KeepBut w w' g none)) HT_.out HW_.out (by kernel_rfl) (by kernel_rfl) ?_ ?_ ?_
      · exact ⟨by simp only [putSel, Bool.false_eq_true, if_false], KB2.out, HB2.out, HK2.out⟩
      · skip
        clear HB2 HK2 KB2
        refine steps_cons ?_ ?_
        · rintro b a w' ⟨ha, Q_KB2, Q_HB2, Q_HK2⟩ hb_ hon hoff
          refine ⟨_, rfl, fun K hK => ?_⟩
          have e0 : a.tmps[0]? = some (.pointer (some ⟨g, 0, none⟩)) := by rw [ha]; exact (putSel_off rfl).trans rfl
          replace ha := Aside0.mk ha
          refine value_ (w1 := w') (v := .pointer (some ⟨g, 0, none⟩)) (by rfl) rfl ?_ ?_
          · go_simp
            (try simp only [i64_w])
            try rfl
          refine hK.out _ _ ⟨(by rw [ha.out]; exact putSel_upk 0 hb_ rfl rfl rfl), Q_KB2, Q_HB2, Q_HK2⟩
        refine steps_cons ?_ ?_
        · rintro b a w' ⟨ha, Q_KB2, Q_HB2, Q_HK2⟩ hb_ hon hoff
          refine ⟨_, rfl, fun K hK => ?_⟩
          have e10 : a.tmps[10]? = some (.pointer (some ⟨g, 0, none⟩)) := on_ ha 0 rfl rfl (hon 0 (by kernel_rfl)) rfl
          replace ha := Aside0.mk ha
          refine value_ (w1 := w') (v := .pointer (some ⟨g, 0, none⟩)) (by rfl) rfl ?_ ?_
          · go_simp
            (try simp only [i64_w])
            try rfl
          refine hK.out _ _ ⟨(by rw [ha.out]; exact putSel_upk 1 hb_ rfl rfl rfl), Q_KB2, Q_HB2, Q_HK2⟩
        refine steps_cons ?_ ?_
        · rintro b a w' ⟨ha, Q_KB2, Q_HB2, Q_HK2⟩ hb_ hon hoff
          refine ⟨_, rfl, fun K hK => ?_⟩
          have e11 : a.tmps[11]? = some (.pointer (some ⟨g, 0, none⟩)) := on_ ha 1 rfl rfl (hon 1 (by kernel_rfl)) rfl
          replace ha := Aside0.mk ha
          refine value_ (w1 := w') (v := .pointer (some ⟨g, 1, none⟩)) (by rfl) rfl ?_ ?_
          · go_simp
            (try simp only [i64_w])
            try rfl
          refine hK.out _ _ ⟨(by rw [ha.out]; exact putSel_upk 2 hb_ rfl rfl rfl), Q_KB2, Q_HB2, Q_HK2⟩
        refine steps_cons ?_ ?_
        · rintro b a w' ⟨ha, Q_KB2, Q_HB2, Q_HK2⟩ hb_ hon hoff
          refine ⟨_, rfl, fun K hK => ?_⟩
          have e12 : a.tmps[12]? = some (.pointer (some ⟨g, 1, none⟩)) := on_ ha 2 rfl rfl (hon 2 (by kernel_rfl)) rfl
          replace ha := Aside0.mk ha
          have KB2 := Aside0.mk Q_KB2
          have hc_ := blk_cell KB2.out 1
          simp only [List.getElem?_toArray, List.getElem?_cons_zero, List.getElem?_cons_succ] at hc_
          refine value_ (w1 := w') (v := .int .i64 ((n : Int) + 1)) (by rfl) rfl ?_ ?_
          · go_simp
            (try simp only [i64_w])
            try rfl
          refine hK.out _ _ ⟨(by rw [ha.out]; exact putSel_upk 3 hb_ rfl rfl rfl), Q_KB2, Q_HB2, Q_HK2⟩
        refine steps_cons ?_ ?_
        · rintro b a w' ⟨ha, Q_KB2, Q_HB2, Q_HK2⟩ hb_ hon hoff
          refine ⟨_, rfl, fun K hK => ?_⟩
          have e0 : a.tmps[0]? = some (.pointer (some ⟨g, 0, none⟩)) := by rw [ha]; exact (putSel_off rfl).trans rfl
          replace ha := Aside0.mk ha
          refine value_ (w1 := w') (v := .pointer (some ⟨g, 0, none⟩)) (by rfl) rfl ?_ ?_
          · go_simp
            (try simp only [i64_w])
            try rfl
          refine hK.out _ _ ⟨(by rw [ha.out]; exact putSel_upk 4 hb_ rfl rfl rfl), Q_KB2, Q_HB2, Q_HK2⟩
        refine steps_cons ?_ ?_
        · rintro b a w' ⟨ha, Q_KB2, Q_HB2, Q_HK2⟩ hb_ hon hoff
          refine ⟨_, rfl, fun K hK => ?_⟩
          have e14 : a.tmps[14]? = some (.pointer (some ⟨g, 0, none⟩)) := on_ ha 4 rfl rfl (hon 4 (by kernel_rfl)) rfl
          replace ha := Aside0.mk ha
          refine value_ (w1 := w') (v := .pointer (some ⟨g, 0, none⟩)) (by rfl) rfl ?_ ?_
          · go_simp
            (try simp only [i64_w])
            try rfl
          refine hK.out _ _ ⟨(by rw [ha.out]; exact putSel_upk 5 hb_ rfl rfl rfl), Q_KB2, Q_HB2, Q_HK2⟩
        refine steps_cons ?_ ?_
        · rintro b a w' ⟨ha, Q_KB2, Q_HB2, Q_HK2⟩ hb_ hon hoff
          refine ⟨_, rfl, fun K hK => ?_⟩
          have e15 : a.tmps[15]? = some (.pointer (some ⟨g, 0, none⟩)) := on_ ha 5 rfl rfl (hon 5 (by kernel_rfl)) rfl
          replace ha := Aside0.mk ha
          refine value_ (w1 := w') (v := .pointer (some ⟨g, 0, none⟩)) (by rfl) rfl ?_ ?_
          · go_simp
            (try simp only [i64_w])
            try rfl
          refine hK.out _ _ ⟨(by rw [ha.out]; exact putSel_upk 6 hb_ rfl rfl rfl), Q_KB2, Q_HB2, Q_HK2⟩
        refine steps_cons ?_ ?_
        · rintro b a w' ⟨ha, Q_KB2, Q_HB2, Q_HK2⟩ hb_ hon hoff
          refine ⟨_, rfl, fun K hK => ?_⟩
          have e16 : a.tmps[16]? = some (.pointer (some ⟨g, 0, none⟩)) := on_ ha 6 rfl rfl (hon 6 (by kernel_rfl)) rfl
          replace ha := Aside0.mk ha
          have KB2 := Aside0.mk Q_KB2
          have hc_ := blk_cell KB2.out 0
          simp only [List.getElem?_toArray, List.getElem?_cons_zero, List.getElem?_cons_succ] at hc_
          refine value_ (w1 := w') (v := .slice A s0_0.length c) (by rfl) rfl ?_ ?_
          · go_simp
            (try simp only [i64_w])
            try rfl
          refine hK.out _ _ ⟨(by rw [ha.out]; exact putSel_upk 7 hb_ rfl rfl rfl), Q_KB2, Q_HB2, Q_HK2⟩
        refine steps_cons ?_ ?_
        · rintro b a w' ⟨ha, Q_KB2, Q_HB2, Q_HK2⟩ hb_ hon hoff
          refine ⟨_, rfl, fun K hK => ?_⟩
          have e17 : a.tmps[17]? = some (.slice A s0_0.length c) := on_ ha 7 rfl rfl (hon 7 (by kernel_rfl)) rfl
          replace ha := Aside0.mk ha
          refine value_ (w1 := w') (v := .int .i64 (s0_0.length : Int)) (by rfl) rfl ?_ ?_
          · go_simp
            (try simp only [i64_w])
            try rfl
          refine hK.out _ _ ⟨(by rw [ha.out]; exact putSel_upk 8 hb_ rfl rfl rfl), Q_KB2, Q_HB2, Q_HK2⟩
        refine steps_cons ?_ ?_
        · rintro b a w' ⟨ha, Q_KB2, Q_HB2, Q_HK2⟩ hb_ hon hoff
          refine ⟨_, rfl, fun K hK => ?_⟩
          have e13 : a.tmps[13]? = some (.int .i64 ((n : Int) + 1)) := on_ ha 3 rfl rfl (hon 3 (by kernel_rfl)) rfl
          have e18 : a.tmps[18]? = some (.int .i64 (s0_0.length : Int)) := on_ ha 8 rfl rfl (hon 8 (by kernel_rfl)) rfl
          replace ha := Aside0.mk ha
          have hl_ := CL.out
          refine value_ (w1 := w') (v := .bool false) (by rfl) rfl ?_ ?_
          · go_simp
            (try simp only [i64_w])
            try rfl
          refine hK.out _ _ ⟨(by rw [ha.out]; exact putSel_upk 9 hb_ rfl rfl rfl), Q_KB2, Q_HB2, Q_HK2⟩
        exact steps_nil
      rintro b a wB hall ⟨ha, Q_KB2, Q_HB2, Q_HK2⟩
      clear HB2 HK2 KB2
      have hb0_ := hall 0 (by kernel_rfl)
      have hb1_ := hall 1 (by kernel_rfl)
      have hb2_ := hall 2 (by kernel_rfl)
      have hb3_ := hall 3 (by kernel_rfl)
      have hb4_ := hall 4 (by kernel_rfl)
      have hb5_ := hall 5 (by kernel_rfl)
      have hb6_ := hall 6 (by kernel_rfl)
      have hb7_ := hall 7 (by kernel_rfl)
      have hb8_ := hall 8 (by kernel_rfl)
      have hb9_ := hall 9 (by kernel_rfl)
      subst ha
      simp only [putSel, hb0_, hb1_, hb2_, hb3_, hb4_, hb5_, hb6_, hb7_, hb8_, hb9_, if_true, Act.put, List.setIfInBounds_toArray, List.set_cons_zero, List.set_cons_succ]
      have KB2 := Aside0.mk Q_KB2
      clear Q_KB2
      have HB2 := Aside0.mk Q_HB2
      clear Q_HB2
      have HK2 := Aside0.mk Q_HK2
      clear Q_HK2
      clear hall hb0_ hb1_ hb2_ hb3_ hb4_ hb5_ hb6_ hb7_ hb8_ hb9_
      have d1 := blk_cell KB2.out 1
      have d2 := blk_cell KB2.out 2
      have f2 := blk_frozen KB2.out 2
      simp only [List.getElem?_toArray, List.getElem?_cons_zero, List.getElem?_cons_succ] at d1 d2
      go_wp2_with fail
      go_ret
      have hE := HE.out
      injection hE with e1 hE
      injection hE with e2 e3
      exact ⟨congrArg (fun z => Ending.returned (Value.int .i64 z)) e1, ⟨_, _, by rw [← e2, ← e3]; exact blk_set KB2.out 2 _, HG.out, HR.out⟩, HB2.out.setCell (p := ⟨g, 2, none⟩) HG.out _, HK2.out.set_ 2 _⟩
end Go.Proofs.Ytddommgeaoknbaa.X
