import Derived.Test.YtgcncphdjabjjaaKFnExactBackupBytes4
import Derived.Test.YtgcncphdjabjjaaKFnExactBackupBytes9
import Derived.Test.YtgcncphdjabjjaaKFnExactBackupBytes20
import Derived.Test.YtgcncphdjabjjaaKFnExactBackupBytes23
import Derived.Test.YtgcncphdjabjjaaKFnExactBackupBytes24
import Derived.Test.YtgcncphdjabjjaaKFnExactBackupBytes25
import Derived.Test.YtgcncphdjabjjaaKFnExactBackupBytes26
import Derived.Test.YtgcncphdjabjjaaKFnExactBackupBytes28
import Derived.LoopTactic
import Derived.WalkSpells
import Derived.Deep.RegionHeld3
namespace Go.Proofs.Ytgcncphdjabjjaa.X
open Go.RowKit Go.Proofs.YtgcncphdjabjjaaW.PrintWords Go.Proofs.YtgcncphdjabjjaaW.PrintLast Go.Proofs.YtgcncphdjabjjaaW.PrintMore
attribute [local go_sem] xbin_geq xbin_leq xbin_gtr max2_int min2_int max_two min_two max_three min_three max_four min_four
set_option linter.unusedVariables false
set_option linter.unusedSimpArgs false
def laws_markBackup.f (k : Nat) (a0_0 : ByteArray) (a0_1 : ByteArray) (a0_2 : Int) (l0_3 : List (S82)) (a0_4 : Int) (a1 : Int) : Option (Int × (List (S82))) := (laws_markDiffS.f k l0_3 a1).bind fun bt738 => (some (bt738.1, bt738.2))
theorem laws_markBackup.mono : ∀ a0 a1 a2 a3 a4 a5 k, LeO (laws_markBackup.f k a0 a1 a2 a3 a4 a5) (laws_markBackup.f (k + 1) a0 a1 a2 a3 a4 a5) := by
 intro a0 a1 a2 a3 a4 a5 k
 unfold laws_markBackup.f
 repeat' first
   | (with_reducible exact laws_markDiffS.mono _ _ _)
   | (with_reducible exact LeO.refl _)
   | (with_reducible exact LeO.none _)
   | (with_reducible refine LeO.ite ?_ ?_)
   | (with_reducible refine LeO.bind ?_ (fun _ => ?_))
   | exact laws_markDiffS.mono _ _ _
   | exact LeO.none _
   | refine LeO.ite ?_ ?_
   | refine LeO.bind ?_ (fun _ => ?_)
set_option maxHeartbeats 8000000 in
set_option maxRecDepth 100000 in
theorem laws_markBackup.calls (k : Nat) (a0_0 : ByteArray) (a0_1 : ByteArray) (a0_2 : Int) (P0_3_ : Nat → Prop) (u9000_ : Value) (l0_3 : List (S82)) (a0_4 : Int) (a1 : Int) (r1 : Int) (r2 : List (S82)) (w0 w : World) (hB : Below w0.heap.size w0 w) (ho0_3 : Kd.R k82 82 w w0.heap.size P0_3_ u9000_ l0_3) (h : laws_markBackup.f k a0_0 a0_1 a0_2 l0_3 a0_4 a1 = some (r1, r2)) :
  Calls Try.prog 35 #[.agg #[.string a0_0, .string a0_1, .int .i64 a0_2, u9000_, .int .i64 a0_4], .int .i64 a1] w fun e w' => e = .returned (.int .i64 r1) ∧ Kd.R k82 82 w' w0.heap.size (fun k_ => (P0_3_ k_ ∨ w.heap.size ≤ k_)) u9000_ r2 ∧ Below w0.heap.size w0 w' ∧ Kept w w' (fun k_ => P0_3_ k_) := by
 have hu48 := Try.underlying48
 have HO0_3 := Aside0.mk (show Kd.R k82 82 w w0.heap.size (fun k_ => (P0_3_ k_ ∨ w.heap.size ≤ k_)) u9000_ l0_3 from Kd.R_mono ho0_3 (fun k_ hk => (.inl hk)))
 have HK := Aside0.mk (Kept.refl w (fun k_ => P0_3_ k_))
 have HW0 := Aside0.mk hB.size
 have HB := Aside0.mk hB
 clear hB
 have H : ((laws_markDiffS.f k l0_3 a1).bind fun bt738 => (some (bt738.1, bt738.2))) = some (r1, r2) := h
 clear h
 replace H := Option.bind_eq_some_iff.mp H
 obtain ⟨⟨t738, t739⟩, A30, H⟩ := H
 replace H : (some (t738, t739)) = some (r1, r2) := H
 have A3 := Aside0.mk A30
 clear A30
 simp only [Option.some.injEq, Prod.mk.injEq] at H
 obtain ⟨rfl, rfl⟩ := H
 obtain ⟨Ao4, co4, eo4⟩ := Kd.R_slice HO0_3.out
 subst eo4
 go_enter Try.func35, Try.ntmps35
 go_wp2_with (first | ((with_reducible refine gate_dst (N := 2) rfl ?_); refine box_event ?hg (N := 2) ?hd (cs := #[.string a0_0, .string a0_1, .int .i64 a0_2, .slice Ao4 l0_3.length co4, .int .i64 a0_4]) (t := 48) ?hr ?_; (case hd => rfl); (case hg => rfl); (case hr => first | (go_simp; done) | (go_simp; rfl)); intro gb737 hg w5 hbox hb; have n0_ := Aside0.mk (Kd.R_below (by (with_reducible repeat (first | apply Kd.R_alloc | apply Kd.R_drewN | apply Kd.R_drew)); exact HO0_3.out) hb); have n1_ := Aside0.mk (Kept.below (S := (fun k_ => P0_3_ k_)) (by repeat (first | (with_reducible first | exact HK.out | apply Kept.alloc | apply Kept.drewN | apply Kept.drew) | exact HK.out)) hb); have n2_ := Aside0.mk (below_step (by repeat (first | (with_reducible first | exact HB.out | apply below_alloc | apply pw_below_drewN | apply below_drew1) | exact HB.out)) hb); have n3_ := Aside0.mk (hbox); have n4_ := Aside0.mk ((by rw [hg]; exact (by first | exact HK.out.1 | exact (show Kept w _ (fun k_ => P0_3_ k_) from by repeat (first | (with_reducible first | exact HK.out | apply Kept.alloc | apply Kept.drewN | apply Kept.drew) | exact HK.out)).1) : w.heap.size ≤ gb737)); have n5_ := Aside0.mk ((by rw [hg]; exact (below_size (by repeat (first | (with_reducible first | exact HB.out | apply below_alloc | apply pw_below_drewN | apply below_drew1) | exact HB.out))) : w0.heap.size ≤ gb737)); clear HO0_3; clear HK; clear HB; have HO0_3 := n0_; have HK := n1_; have HB := n2_; have BK737 := n3_; have GW737 := n4_; have GE737 := n5_; clear n0_ n1_ n2_ n3_ n4_ n5_; clear hb hbox hg; have hcz6_0 : w5.cell? ⟨gb737, 0, none⟩ = some (.string a0_0) := (blk_cell BK737.out 0).trans rfl; have hcz6_1 : w5.cell? ⟨gb737, 1, none⟩ = some (.string a0_1) := (blk_cell BK737.out 1).trans rfl; have hcz6_2 : w5.cell? ⟨gb737, 2, none⟩ = some (.int .i64 a0_2) := (blk_cell BK737.out 2).trans rfl; have hcz6_3 : w5.cell? ⟨gb737, 3, none⟩ = some (.slice Ao4 l0_3.length co4) := (blk_cell BK737.out 3).trans rfl; have hcz6_4 : w5.cell? ⟨gb737, 4, none⟩ = some (.int .i64 a0_4) := (blk_cell BK737.out 4).trans rfl; have hfz6_0 := blk_frozen BK737.out 0; have hfz6_1 := blk_frozen BK737.out 1; have hfz6_2 := blk_frozen BK737.out 2; have hfz6_3 := blk_frozen BK737.out 3; have hfz6_4 := blk_frozen BK737.out 4) | ((with_reducible refine gate_callee (f := 20) rfl ?_); refine goesL_ (some 8) rfl rfl Try.func20 (by kernel_rfl) rfl #[.slice Ao4 l0_3.length co4, .int .i64 a1] rfl (by (try simp only [List.map_toArray, List.map_cons, List.map_nil]); first | done | rfl | (simp only [List.length_drop, List.length_take]; rfl)) ?_; (with_reducible refine (laws_markDiffS.calls k (fun k_ => some k_ = (.slice Ao4 l0_3.length co4 : Value).ownBlock) (.slice Ao4 l0_3.length co4) l0_3 a1 t738 t739 w0 _ ?side1 ?side2 A3.out).mono ?_); (case side1 => repeat (first | (with_reducible first | exact HB.out | apply below_alloc | apply pw_below_drewN | apply below_drew1 | refine below_set ?_ GE737.out) | exact HB.out)); (case side2 => exact Kd.R_tight rfl HO0_3.out); rintro e w7 ⟨rfl, hy0, hb, hkp⟩; refine ⟨_, rfl, ?_⟩; have n0_ := Aside0.mk (Kd.R_reok rfl hy0 (fun k_ e_ => HO0_3.out.1 k_ e_)); have n1_ := Aside0.mk (blk_kept (by (with_reducible repeat (first | refine blk_drewN ?_ _ | refine blk_drew ?_ | refine blk_alloc ?_ _)); exact BK737.out) hkp (fun hs_ => (fun e_ => (Kd.R_ne HO0_3.out BK737.out (by decide)) e_) hs_)); have n2_ := Aside0.mk (Kept.then_ (S := (fun k_ => P0_3_ k_)) (by repeat (first | (with_reducible first | exact HK.out | apply Kept.alloc | apply Kept.drewN | apply Kept.drew | refine Kept.setCell ?_ (.inr GW737.out) _) | exact HK.out)) hkp (fun k_ hs_ => (fun e_ => (HO0_3.out.1 k_ e_.symm)) hs_)); have n3_ := Aside0.mk (hb); clear HO0_3; clear BK737; clear HK; clear HB; have HO0_3 := n0_; have BK737 := n1_; have HK := n2_; have HB := n3_; clear n0_ n1_ n2_ n3_; (try clear hb); (try clear hkp); (try clear hy0)))
 go_ret
 exact ⟨by first | rfl | (simp [errW_none, errW_some] <;> rfl) | (simp [*, errW_none, errW_some] <;> rfl), by (with_reducible repeat (first | apply Kd.R_alloc | apply Kd.R_drewN | apply Kd.R_drew)); exact HO0_3.out, by repeat (first | (with_reducible first | exact HB.out | apply below_alloc | apply pw_below_drewN | apply below_drew1 | refine below_set ?_ GE737.out) | exact HB.out), by repeat (first | (with_reducible first | exact HK.out | apply Kept.alloc | apply Kept.drewN | apply Kept.drew | refine Kept.setCell ?_ (.inr GW737.out) _) | exact HK.out)⟩
end Go.Proofs.Ytgcncphdjabjjaa.X
namespace Go.Proofs.Ytgcncphdjabjjaa.X
open Go.RowKit Go.Proofs.YtgcncphdjabjjaaW.PrintWords Go.Proofs.YtgcncphdjabjjaaW.PrintLast Go.Proofs.YtgcncphdjabjjaaW.PrintMore
attribute [local go_sem] xbin_geq xbin_leq xbin_gtr max2_int min2_int max_two min_two max_three min_three max_four min_four
set_option linter.unusedVariables false
set_option linter.unusedSimpArgs false
set_option maxHeartbeats 8000000 in
set_option maxRecDepth 100000 in
theorem small_BackupBytes (kz : Nat) (z : Int) (a b : ByteArray) (n : Int) (A3 : Option Addr) (c3 : Nat) (l : List S85) (s : Int) (w : World) (hr3 : Kd.C k85 w A3 l.length l) (hc3 : l.length ≤ c3) (hz : laws_szBackup.f kz a b n l s 1048576 = some z) (hzn : z < 0) :
    Calls Try.prog 7 #[.agg #[.string a, .string b, .int .i64 n, .slice A3 l.length c3, .int .i64 s]] w fun e w' => e = .returned (.bool true) ∧ Below w.heap.size w w' := by
  have t1 : decide (z < 0) = true := decide_eq_true hzn
  have hu := Try.underlying48
  have hu2 := Try.underlying44
  have HR3 := Aside0.mk hr3
  have Ahz := Aside0.mk hz
  have HBi := Aside0.mk (Below.refl w.heap.size w)
  clear hr3 hz
  have HB1 := Aside0.mk (below_alloc HBi.out (.cells #[.string a, .string b, .int .i64 n, .slice A3 l.length c3, .int .i64 s] 44 (0, 0)))
  have KA1 := Aside0.mk (blk_new w (.cells #[.string a, .string b, .int .i64 n, .slice A3 l.length c3, .int .i64 s] 44 (0, 0)))
  have Z1_0 := Aside0.mk (show (w.alloc (.cells #[.string a, .string b, .int .i64 n, .slice A3 l.length c3, .int .i64 s] 44 (0, 0))).heap.size = (w).heap.size + 1 from by show ((w).heap.push _).size = _; rw [Array.size_push])
  clear HBi
  go_enter Try.func7, Try.ntmps7
  go_wp2_with fail
  refine (laws_szBackup.calls (hr0_3 := Kd.C_below HR3.out HB1.out) (hc0_3 := hc3) (h := Ahz.out)).mono ?_
  rintro e w2 ⟨rfl, hb2⟩
  have hb2 := (show Below ((w.alloc (.cells #[.string a, .string b, .int .i64 n, .slice A3 l.length c3, .int .i64 s] 44 (0, 0)))).heap.size ((w.alloc (.cells #[.string a, .string b, .int .i64 n, .slice A3 l.length c3, .int .i64 s] 44 (0, 0)))) w2 from by first | exact hb2 | exact hb2.below)
  have HB2 := Aside0.mk (below_step HB1.out hb2)
  have KA2 := Aside0.mk (blk_below KA1.out hb2)
  have Z2_1 := Aside0.mk (show ((w.alloc (.cells #[.string a, .string b, .int .i64 n, .slice A3 l.length c3, .int .i64 s] 44 (0, 0)))).heap.size ≤ w2.heap.size from hb2.size)
  clear hb2 HB1 KA1
  have bA_0_2 := blk_cell KA2.out 0
  have bA_1_2 := blk_cell KA2.out 1
  have bA_2_2 := blk_cell KA2.out 2
  have bA_3_2 := blk_cell KA2.out 3
  have bA_4_2 := blk_cell KA2.out 4
  simp only [List.getElem?_toArray, List.getElem?_cons_zero, List.getElem?_cons_succ] at bA_0_2 bA_1_2 bA_2_2 bA_3_2 bA_4_2
  go_wp2_with fail
  clear bA_0_2 bA_1_2 bA_2_2 bA_3_2 bA_4_2
  go_ret
  exact ⟨rfl, HB2.out⟩
set_option maxHeartbeats 8000000 in
set_option maxRecDepth 100000 in
theorem walk_BackupBytes (kz kt ks keR keX kmX kh : Nat) (z : Int) (a b : ByteArray) (n : Int) (A3 : Option Addr) (c3 : Nat) (l : List S85) (s : Int) (x : List S82) (R : List Int) (code : Int) (mX : Int) (lX : List S82) (w : World) (hr3 : Kd.C k85 w A3 l.length l) (hc3 : l.length ≤ c3) (hz : laws_szBackup.f kz a b n l s 1048576 = some z) (hzn : ¬ z < 0)
    (ht : laws_toBackup.f kt a b n l s = some (a, b, n, x, s)) (hsp : spec_BackupBytes.f ks a b n x s = some (R, code)) (him : bakR a b n x s = (R, code)) (heR : laws_eqByteS.f keR R R = some true) (heX : laws_eqBackup.f keX a b n x s a b n x s = some true) (hmX : laws_markBackup.f kmX a b n x s 1 = some (mX, lX)) (hh : laws_heldByteS.f kh (mk_ByteS R 1) 1 = some (1 + (R.length : Int))) (hmXn : ¬ mX < 0) (hxl : x.length ≤ 1000000000) (hRl : (R.length : Int) ≤ 4611686018427387000) :
    Calls Try.prog 7 #[.agg #[.string a, .string b, .int .i64 n, .slice A3 l.length c3, .int .i64 s]] w fun e w' => e = .returned (.bool true) ∧ Below w.heap.size w w' := by
  have t1 : decide (z < 0) = false := decide_eq_false hzn
  have t2 : decide (mX < 0) = false := decide_eq_false hmXn
  have t5 : (code != code) = false := bne_self_eq_false _
  obtain ⟨m, hm⟩ : ∃ m : Int, m = 1 + (R.length : Int) := ⟨_, rfl⟩
  rw [← hm] at hh
  have HM := Aside0.mk hm
  have t4 : decide (m < 0) = false := decide_eq_false (by omega)
  have t6 : (m != m) = false := bne_self_eq_false _
  have HRL := Aside0.mk hRl
  have HXL := Aside0.mk hxl
  clear hm hRl hxl
  have hu := Try.underlying48
  have hu2 := Try.underlying44
  have HR3 := Aside0.mk hr3
  have Ahz := Aside0.mk hz
  have Aht := Aside0.mk ht
  have Ahsp := Aside0.mk hsp
  have Ahim := Aside0.mk him
  have AheR := Aside0.mk heR
  have AheX := Aside0.mk heX
  have AhmX := Aside0.mk hmX
  have Ahh := Aside0.mk hh
  have HBi := Aside0.mk (Below.refl w.heap.size w)
  clear hr3 hz ht hsp him heR heX hmX hh
  have HB1 := Aside0.mk (below_alloc HBi.out (.cells #[.string a, .string b, .int .i64 n, .slice A3 l.length c3, .int .i64 s] 44 (0, 0)))
  have KA1 := Aside0.mk (blk_new w (.cells #[.string a, .string b, .int .i64 n, .slice A3 l.length c3, .int .i64 s] 44 (0, 0)))
  have Z1_0 := Aside0.mk (show (w.alloc (.cells #[.string a, .string b, .int .i64 n, .slice A3 l.length c3, .int .i64 s] 44 (0, 0))).heap.size = (w).heap.size + 1 from by show ((w).heap.push _).size = _; rw [Array.size_push])
  clear HBi
  go_enter Try.func7, Try.ntmps7
  go_wp2_with fail
  refine (laws_szBackup.calls (hr0_3 := Kd.C_below HR3.out HB1.out) (hc0_3 := hc3) (h := Ahz.out)).mono ?_
  rintro e w2 ⟨rfl, hb2⟩
  have hb2 := (show Below ((w.alloc (.cells #[.string a, .string b, .int .i64 n, .slice A3 l.length c3, .int .i64 s] 44 (0, 0)))).heap.size ((w.alloc (.cells #[.string a, .string b, .int .i64 n, .slice A3 l.length c3, .int .i64 s] 44 (0, 0)))) w2 from by first | exact hb2 | exact hb2.below)
  have HB2 := Aside0.mk (below_step HB1.out hb2)
  have KA2 := Aside0.mk (blk_below KA1.out hb2)
  have Z2_1 := Aside0.mk (show ((w.alloc (.cells #[.string a, .string b, .int .i64 n, .slice A3 l.length c3, .int .i64 s] 44 (0, 0)))).heap.size ≤ w2.heap.size from hb2.size)
  clear hb2 HB1 KA1
  have bA_0_2 := blk_cell KA2.out 0
  have bA_1_2 := blk_cell KA2.out 1
  have bA_2_2 := blk_cell KA2.out 2
  have bA_3_2 := blk_cell KA2.out 3
  have bA_4_2 := blk_cell KA2.out 4
  simp only [List.getElem?_toArray, List.getElem?_cons_zero, List.getElem?_cons_succ] at bA_0_2 bA_1_2 bA_2_2 bA_3_2 bA_4_2
  go_wp2_with fail
  clear bA_0_2 bA_1_2 bA_2_2 bA_3_2 bA_4_2
  refine (laws_toBackup.calls (hr0_3 := Kd.C_below HR3.out HB2.out) (hc0_3 := hc3) (h := Aht.out)).mono ?_
  rintro e w3 ⟨v3_0, rfl, ho3_0, hb3⟩
  have hb3 := (show Below (w2).heap.size (w2) w3 from by first | exact hb3 | exact hb3.below)
  obtain ⟨A3X0, c3X0, rfl, _, _⟩ := Kd.R_reads ho3_0
  have nho3_0 := Aside0.mk (Kd.R_lower (Kd.R_mono (Kd.R_bound ho3_0) (fun k hk => (show (w2).heap.size ≤ k ∧ k < w3.heap.size from ⟨hk.2.1, hk.2.2.1⟩))) HB2.out.size)
  have HB3 := Aside0.mk (below_step HB2.out hb3)
  have KA3 := Aside0.mk (blk_below KA2.out hb3)
  have Z3_2 := Aside0.mk (show (w2).heap.size ≤ w3.heap.size from hb3.size)
  clear hb3 ho3_0 HB2 KA2
  have bA_0_3 := blk_cell KA3.out 0
  have bA_1_3 := blk_cell KA3.out 1
  have bA_2_3 := blk_cell KA3.out 2
  have bA_3_3 := blk_cell KA3.out 3
  have bA_4_3 := blk_cell KA3.out 4
  simp only [List.getElem?_toArray, List.getElem?_cons_zero, List.getElem?_cons_succ] at bA_0_3 bA_1_3 bA_2_3 bA_3_3 bA_4_3
  go_wp2_with fail
  clear bA_0_3 bA_1_3 bA_2_3 bA_3_3 bA_4_3
  refine (spec_BackupBytes.calls (hr0_3 := (Kd.R_reads' nho3_0.out).2.2) (hc0_3 := (Kd.R_reads' nho3_0.out).2.1) (h := Ahsp.out)).mono ?_
  rintro e w4 ⟨v4_0, rfl, ho4_0, hb4⟩
  have hb4 := (show Below (w3).heap.size (w3) w4 from by first | exact hb4 | exact hb4.below)
  obtain ⟨A4W, c4W, rfl, _, _⟩ := Kd.R_reads ho4_0
  have nho4_0 := Aside0.mk (Kd.R_lower (Kd.R_mono (Kd.R_bound ho4_0) (fun k hk => (show (w3).heap.size ≤ k ∧ k < w4.heap.size from ⟨hk.2.1, hk.2.2.1⟩))) HB3.out.size)
  have HB4 := Aside0.mk (below_step HB3.out hb4)
  have HX04 := Aside0.mk (Kd.R_below nho3_0.out hb4)
  have KA4 := Aside0.mk (blk_below KA3.out hb4)
  have Z4_3 := Aside0.mk (show (w3).heap.size ≤ w4.heap.size from hb4.size)
  clear hb4 ho4_0 HB3 nho3_0 KA3
  have bA_0_4 := blk_cell KA4.out 0
  have bA_1_4 := blk_cell KA4.out 1
  have bA_2_4 := blk_cell KA4.out 2
  have bA_3_4 := blk_cell KA4.out 3
  have bA_4_4 := blk_cell KA4.out 4
  simp only [List.getElem?_toArray, List.getElem?_cons_zero, List.getElem?_cons_succ] at bA_0_4 bA_1_4 bA_2_4 bA_3_4 bA_4_4
  go_wp2_with fail
  clear bA_0_4 bA_1_4 bA_2_4 bA_3_4 bA_4_4
  refine (laws_toBackup.calls (hr0_3 := Kd.C_below HR3.out HB4.out) (hc0_3 := hc3) (h := Aht.out)).mono ?_
  rintro e w5 ⟨v5_0, rfl, ho5_0, hb5⟩
  have hb5 := (show Below (w4).heap.size (w4) w5 from by first | exact hb5 | exact hb5.below)
  obtain ⟨A5X, c5X, rfl, _, _⟩ := Kd.R_reads ho5_0
  have nho5_0 := Aside0.mk (Kd.R_lower (Kd.R_mono (Kd.R_bound ho5_0) (fun k hk => (show (w4).heap.size ≤ k ∧ k < w5.heap.size from ⟨hk.2.1, hk.2.2.1⟩))) HB4.out.size)
  have HB5 := Aside0.mk (below_step HB4.out hb5)
  have HW5 := Aside0.mk (Kd.R_below nho4_0.out hb5)
  have KA5 := Aside0.mk (blk_below KA4.out hb5)
  have Z5_4 := Aside0.mk (show (w4).heap.size ≤ w5.heap.size from hb5.size)
  clear hb5 ho5_0 HB4 nho4_0 KA4
  have HB6 := Aside0.mk (below_alloc HB5.out (.cells #[.string a, .string b, .int .i64 n, .slice A5X x.length c5X, .int .i64 s] 48 (0, 0)))
  have HW6 := Aside0.mk (Kd.R_alloc HW5.out (.cells #[.string a, .string b, .int .i64 n, .slice A5X x.length c5X, .int .i64 s] 48 (0, 0)))
  have HX6 := Aside0.mk (Kd.R_alloc nho5_0.out (.cells #[.string a, .string b, .int .i64 n, .slice A5X x.length c5X, .int .i64 s] 48 (0, 0)))
  have KA6 := Aside0.mk (blk_alloc KA5.out (.cells #[.string a, .string b, .int .i64 n, .slice A5X x.length c5X, .int .i64 s] 48 (0, 0)))
  have KB6 := Aside0.mk (blk_new w5 (.cells #[.string a, .string b, .int .i64 n, .slice A5X x.length c5X, .int .i64 s] 48 (0, 0)))
  have Z6_5 := Aside0.mk (show (w5.alloc (.cells #[.string a, .string b, .int .i64 n, .slice A5X x.length c5X, .int .i64 s] 48 (0, 0))).heap.size = (w5).heap.size + 1 from by show ((w5).heap.push _).size = _; rw [Array.size_push])
  clear HB5 HW5 nho5_0 KA5
  have bA_0_6 := blk_cell KA6.out 0
  have bA_1_6 := blk_cell KA6.out 1
  have bA_2_6 := blk_cell KA6.out 2
  have bA_3_6 := blk_cell KA6.out 3
  have bA_4_6 := blk_cell KA6.out 4
  have bB_0_6 := blk_cell KB6.out 0
  have bB_1_6 := blk_cell KB6.out 1
  have bB_2_6 := blk_cell KB6.out 2
  have bB_3_6 := blk_cell KB6.out 3
  have bB_4_6 := blk_cell KB6.out 4
  simp only [List.getElem?_toArray, List.getElem?_cons_zero, List.getElem?_cons_succ] at bA_0_6 bA_1_6 bA_2_6 bA_3_6 bA_4_6 bB_0_6 bB_1_6 bB_2_6 bB_3_6 bB_4_6
  go_wp2_with fail
  clear bA_0_6 bA_1_6 bA_2_6 bA_3_6 bA_4_6 bB_0_6 bB_1_6 bB_2_6 bB_3_6 bB_4_6
  refine (implBackupBytes_at a b n A5X c5X x s R code _ (Kd.R_reads' HX6.out).2.2 (Kd.R_reads' HX6.out).2.1 HXL.out Ahim.out).mono ?_
  rintro e w7 ⟨v7_0, rfl, ho7_0, hb7⟩
  have hb7 := (show Below ((w5.alloc (.cells #[.string a, .string b, .int .i64 n, .slice A5X x.length c5X, .int .i64 s] 48 (0, 0)))).heap.size ((w5.alloc (.cells #[.string a, .string b, .int .i64 n, .slice A5X x.length c5X, .int .i64 s] 48 (0, 0)))) w7 from by first | exact hb7 | exact hb7.below)
  obtain ⟨A7G, c7G, rfl, _, _⟩ := BR.reads ho7_0
  have nho7_0 := Aside0.mk (BR.lower (BR.mono ho7_0 (fun k _ h1 h2 => (show ((w5.alloc (.cells #[.string a, .string b, .int .i64 n, .slice A5X x.length c5X, .int .i64 s] 48 (0, 0)))).heap.size ≤ k ∧ k < w7.heap.size from ⟨h1, h2⟩))) HB6.out.size)
  have HB7 := Aside0.mk (below_step HB6.out hb7)
  have HW7 := Aside0.mk (Kd.R_below HW6.out hb7)
  have HX7 := Aside0.mk (Kd.R_below HX6.out hb7)
  have KA7 := Aside0.mk (blk_below KA6.out hb7)
  have KB7 := Aside0.mk (blk_below KB6.out hb7)
  have Z7_6 := Aside0.mk (show ((w5.alloc (.cells #[.string a, .string b, .int .i64 n, .slice A5X x.length c5X, .int .i64 s] 48 (0, 0)))).heap.size ≤ w7.heap.size from hb7.size)
  clear hb7 ho7_0 HB6 HW6 HX6 KA6 KB6
  have bA_0_7 := blk_cell KA7.out 0
  have bA_1_7 := blk_cell KA7.out 1
  have bA_2_7 := blk_cell KA7.out 2
  have bA_3_7 := blk_cell KA7.out 3
  have bA_4_7 := blk_cell KA7.out 4
  have bB_0_7 := blk_cell KB7.out 0
  have bB_1_7 := blk_cell KB7.out 1
  have bB_2_7 := blk_cell KB7.out 2
  have bB_3_7 := blk_cell KB7.out 3
  have bB_4_7 := blk_cell KB7.out 4
  simp only [List.getElem?_toArray, List.getElem?_cons_zero, List.getElem?_cons_succ] at bA_0_7 bA_1_7 bA_2_7 bA_3_7 bA_4_7 bB_0_7 bB_1_7 bB_2_7 bB_3_7 bB_4_7
  go_wp2_with fail
  clear bA_0_7 bA_1_7 bA_2_7 bA_3_7 bA_4_7 bB_0_7 bB_1_7 bB_2_7 bB_3_7 bB_4_7
  refine (laws_eqByteS.calls (hr0 := (BR.reads2 nho7_0.out).2.2) (hc0 := (BR.reads2 nho7_0.out).2.1) (hr1 := (Kd.R_reads' HW7.out).2.2) (hc1 := (Kd.R_reads' HW7.out).2.1) (h := AheR.out)).mono ?_
  rintro e w8 ⟨rfl, hb8⟩
  have hb8 := (show Below (w7).heap.size (w7) w8 from by first | exact hb8 | exact hb8.below)
  have HB8 := Aside0.mk (below_step HB7.out hb8)
  have HW8 := Aside0.mk (Kd.R_below HW7.out hb8)
  have HX8 := Aside0.mk (Kd.R_below HX7.out hb8)
  have HG8 := Aside0.mk (BR.below nho7_0.out hb8)
  have KA8 := Aside0.mk (blk_below KA7.out hb8)
  have KB8 := Aside0.mk (blk_below KB7.out hb8)
  have Z8_7 := Aside0.mk (show (w7).heap.size ≤ w8.heap.size from hb8.size)
  clear hb8 HB7 HW7 HX7 nho7_0 KA7 KB7
  have bA_0_8 := blk_cell KA8.out 0
  have bA_1_8 := blk_cell KA8.out 1
  have bA_2_8 := blk_cell KA8.out 2
  have bA_3_8 := blk_cell KA8.out 3
  have bA_4_8 := blk_cell KA8.out 4
  have bB_0_8 := blk_cell KB8.out 0
  have bB_1_8 := blk_cell KB8.out 1
  have bB_2_8 := blk_cell KB8.out 2
  have bB_3_8 := blk_cell KB8.out 3
  have bB_4_8 := blk_cell KB8.out 4
  simp only [List.getElem?_toArray, List.getElem?_cons_zero, List.getElem?_cons_succ] at bA_0_8 bA_1_8 bA_2_8 bA_3_8 bA_4_8 bB_0_8 bB_1_8 bB_2_8 bB_3_8 bB_4_8
  go_wp2_with fail
  have HB9 := Aside0.mk (below_drew HB8.out)
  have HW9 := Aside0.mk (Kd.R_drew HW8.out)
  have HX9 := Aside0.mk (Kd.R_drew HX8.out)
  have HG9 := Aside0.mk (BR.drew HG8.out)
  have KA9 := Aside0.mk (blk_drew KA8.out)
  have KB9 := Aside0.mk (blk_drew KB8.out)
  have Z9_8 := Aside0.mk (show (w8).drew.heap.size = (w8).heap.size from rfl)
  go_region_held3 (fun W => W.cell? ⟨(w).heap.size, 0, none⟩ = some (.string a) ∧ W.cell? ⟨(w).heap.size, 1, none⟩ = some (.string b) ∧ W.cell? ⟨(w).heap.size, 2, none⟩ = some (.int .i64 n) ∧ W.cell? ⟨(w).heap.size, 3, none⟩ = some (.slice A3 l.length c3) ∧ W.cell? ⟨(w).heap.size, 4, none⟩ = some (.int .i64 s) ∧ W.cell? ⟨(w5).heap.size, 0, none⟩ = some (.string a) ∧ W.cell? ⟨(w5).heap.size, 1, none⟩ = some (.string b) ∧ W.cell? ⟨(w5).heap.size, 2, none⟩ = some (.int .i64 n) ∧ W.cell? ⟨(w5).heap.size, 3, none⟩ = some (.slice A5X x.length c5X) ∧ W.cell? ⟨(w5).heap.size, 4, none⟩ = some (.int .i64 s))
    (first | exact ⟨bA_0_8, bA_1_8, bA_2_8, bA_3_8, bA_4_8, bB_0_8, bB_1_8, bB_2_8, bB_3_8, bB_4_8⟩ | exact ⟨dA_0_10, dA_1_10, dA_2_10, dA_3_10, dA_4_10, dB_0_10, dB_1_10, dB_2_10, dB_3_10, dB_4_10⟩ | exact ⟨dA_0_11, dA_1_11, dA_2_11, dA_3_11, dA_4_11, dB_0_11, dB_1_11, dB_2_11, dB_3_11, dB_4_11⟩)
    (first
      | (go_at_call 29; refine (laws_toBackup.calls (hr0_3 := Kd.C_below HR3.out HB9.out) (hc0_3 := hc3) (h := Aht.out)).mono ?_; rintro e w10 ⟨v10_0, rfl, ho10_0, hb10⟩; have hb10 := (show Below ((w8).drew).heap.size ((w8).drew) w10 from by first | exact hb10 | exact hb10.below); obtain ⟨A10T1, c10T1, rfl, _, _⟩ := Kd.R_reads ho10_0; have nho10_0 := Aside0.mk (Kd.R_lower (Kd.R_mono (Kd.R_bound ho10_0) (fun k hk => (show ((w8).drew).heap.size ≤ k ∧ k < w10.heap.size from ⟨hk.2.1, hk.2.2.1⟩))) HB9.out.size); have HB10 := Aside0.mk (below_step HB9.out hb10); have HW10 := Aside0.mk (Kd.R_below HW9.out hb10); have HX10 := Aside0.mk (Kd.R_below HX9.out hb10); have HG10 := Aside0.mk (BR.below HG9.out hb10); have KA10 := Aside0.mk (blk_below KA9.out hb10); have KB10 := Aside0.mk (blk_below KB9.out hb10); have Z10_9 := Aside0.mk (show ((w8).drew).heap.size ≤ w10.heap.size from hb10.size); have dA_0_10 := blk_cell KA10.out 0; have dA_1_10 := blk_cell KA10.out 1; have dA_2_10 := blk_cell KA10.out 2; have dA_3_10 := blk_cell KA10.out 3; have dA_4_10 := blk_cell KA10.out 4; have dB_0_10 := blk_cell KB10.out 0; have dB_1_10 := blk_cell KB10.out 1; have dB_2_10 := blk_cell KB10.out 2; have dB_3_10 := blk_cell KB10.out 3; have dB_4_10 := blk_cell KB10.out 4; simp only [List.getElem?_toArray, List.getElem?_cons_zero, List.getElem?_cons_succ] at dA_0_10 dA_1_10 dA_2_10 dA_3_10 dA_4_10 dB_0_10 dB_1_10 dB_2_10 dB_3_10 dB_4_10; dsimp only)
      | (go_at_call 31; refine (laws_eqBackup.calls (hr0_3 := (Kd.R_reads' HX10.out).2.2) (hc0_3 := (Kd.R_reads' HX10.out).2.1) (hr1_3 := (Kd.R_reads' nho10_0.out).2.2) (hc1_3 := (Kd.R_reads' nho10_0.out).2.1) (h := AheX.out)).mono ?_; rintro e w11 ⟨rfl, hb11⟩; have hb11 := (show Below (w10).heap.size (w10) w11 from by first | exact hb11 | exact hb11.below); have HB11 := Aside0.mk (below_step HB10.out hb11); have HW11 := Aside0.mk (Kd.R_below HW10.out hb11); have HX11 := Aside0.mk (Kd.R_below HX10.out hb11); have HG11 := Aside0.mk (BR.below HG10.out hb11); have HT111 := Aside0.mk (Kd.R_below nho10_0.out hb11); have KA11 := Aside0.mk (blk_below KA10.out hb11); have KB11 := Aside0.mk (blk_below KB10.out hb11); have Z11_10 := Aside0.mk (show (w10).heap.size ≤ w11.heap.size from hb11.size); have dA_0_11 := blk_cell KA11.out 0; have dA_1_11 := blk_cell KA11.out 1; have dA_2_11 := blk_cell KA11.out 2; have dA_3_11 := blk_cell KA11.out 3; have dA_4_11 := blk_cell KA11.out 4; have dB_0_11 := blk_cell KB11.out 0; have dB_1_11 := blk_cell KB11.out 1; have dB_2_11 := blk_cell KB11.out 2; have dB_3_11 := blk_cell KB11.out 3; have dB_4_11 := blk_cell KB11.out 4; simp only [List.getElem?_toArray, List.getElem?_cons_zero, List.getElem?_cons_succ] at dA_0_11 dA_1_11 dA_2_11 dA_3_11 dA_4_11 dB_0_11 dB_1_11 dB_2_11 dB_3_11 dB_4_11; dsimp only)
      | fail)
  clear bA_0_8 bA_1_8 bA_2_8 bA_3_8 bA_4_8 bB_0_8 bB_1_8 bB_2_8 bB_3_8 bB_4_8 dA_0_10 dA_1_10 dA_2_10 dA_3_10 dA_4_10 dB_0_10 dB_1_10 dB_2_10 dB_3_10 dB_4_10
  have bA_0_11 := blk_cell KA11.out 0
  have bA_1_11 := blk_cell KA11.out 1
  have bA_2_11 := blk_cell KA11.out 2
  have bA_3_11 := blk_cell KA11.out 3
  have bA_4_11 := blk_cell KA11.out 4
  have bB_0_11 := blk_cell KB11.out 0
  have bB_1_11 := blk_cell KB11.out 1
  have bB_2_11 := blk_cell KB11.out 2
  have bB_3_11 := blk_cell KB11.out 3
  have bB_4_11 := blk_cell KB11.out 4
  simp only [List.getElem?_toArray, List.getElem?_cons_zero, List.getElem?_cons_succ] at bA_0_11 bA_1_11 bA_2_11 bA_3_11 bA_4_11 bB_0_11 bB_1_11 bB_2_11 bB_3_11 bB_4_11
  go_wp2_with fail
  clear bA_0_11 bA_1_11 bA_2_11 bA_3_11 bA_4_11 bB_0_11 bB_1_11 bB_2_11 bB_3_11 bB_4_11
  have ZA12 := Aside0.mk (And.intro Z1_0.out (And.intro Z2_1.out (And.intro Z3_2.out (And.intro Z4_3.out (And.intro Z5_4.out (And.intro Z6_5.out (And.intro Z7_6.out (And.intro Z8_7.out (And.intro Z9_8.out (And.intro Z10_9.out (Z11_10.out)))))))))))
  refine (laws_markBackup.calls (w0 := w) (hB := HB11.out) (ho0_3 := HX11.out) (h := AhmX.out)).mono ?_
  rintro e w12 ⟨rfl, hr12, hb12, hk12⟩
  have hr12 := Aside0.mk (Kd.R_reok (ok := (fun k => (w4).heap.size ≤ k ∧ k < w5.heap.size)) rfl hr12 (fun k hk => HX11.out.1 k hk))
  have HB12 := Aside0.mk (hb12)
  have HW12 := Aside0.mk (Kd.R_kept HW11.out hk12 (fun k hk h => (by have h1 := hk.1; have h2 := hk.2; have h3 := h.1; have h4 := h.2; have z := ZA12.out; omega)))
  have HG12 := Aside0.mk (BR.kept HG11.out hk12 (fun k hk h => (by have h1 := hk.1; have h2 := hk.2; have h3 := h.1; have h4 := h.2; have z := ZA12.out; omega)))
  have KA12 := Aside0.mk (blk_kept KA11.out hk12 (fun h => (by have h3 := h.1; have h4 := h.2; have z := ZA12.out; omega)))
  have KB12 := Aside0.mk (blk_kept KB11.out hk12 (fun h => (by have h3 := h.1; have h4 := h.2; have z := ZA12.out; omega)))
  have Z12_11 := Aside0.mk (show (w11).heap.size ≤ w12.heap.size from hk12.1)
  clear hb12 hk12 HB11 HW11 HG11 KA11 KB11 HX11
  have bA_0_12 := blk_cell KA12.out 0
  have bA_1_12 := blk_cell KA12.out 1
  have bA_2_12 := blk_cell KA12.out 2
  have bA_3_12 := blk_cell KA12.out 3
  have bA_4_12 := blk_cell KA12.out 4
  simp only [List.getElem?_toArray, List.getElem?_cons_zero, List.getElem?_cons_succ] at bA_0_12 bA_1_12 bA_2_12 bA_3_12 bA_4_12
  go_wp2_with fail
  clear bA_0_12 bA_1_12 bA_2_12 bA_3_12 bA_4_12
  refine (laws_eqByteS.calls (hr0 := (BR.reads2 HG12.out).2.2) (hc0 := (BR.reads2 HG12.out).2.1) (hr1 := (Kd.R_reads' HW12.out).2.2) (hc1 := (Kd.R_reads' HW12.out).2.1) (h := AheR.out)).mono ?_
  rintro e w13 ⟨rfl, hb13⟩
  have hb13 := (show Below (w12).heap.size (w12) w13 from by first | exact hb13 | exact hb13.below)
  have HB13 := Aside0.mk (below_step HB12.out hb13)
  have HW13 := Aside0.mk (Kd.R_below HW12.out hb13)
  have HG13 := Aside0.mk (BR.below HG12.out hb13)
  have KA13 := Aside0.mk (blk_below KA12.out hb13)
  have Z13_12 := Aside0.mk (show (w12).heap.size ≤ w13.heap.size from hb13.size)
  clear hb13 HB12 HW12 HG12 KA12
  have bA_0_13 := blk_cell KA13.out 0
  have bA_1_13 := blk_cell KA13.out 1
  have bA_2_13 := blk_cell KA13.out 2
  have bA_3_13 := blk_cell KA13.out 3
  have bA_4_13 := blk_cell KA13.out 4
  simp only [List.getElem?_toArray, List.getElem?_cons_zero, List.getElem?_cons_succ] at bA_0_13 bA_1_13 bA_2_13 bA_3_13 bA_4_13
  go_wp2_with fail
  clear bA_0_13 bA_1_13 bA_2_13 bA_3_13 bA_4_13
  have ZA14 := Aside0.mk (And.intro Z1_0.out (And.intro Z2_1.out (And.intro Z3_2.out (And.intro Z4_3.out (And.intro Z5_4.out (And.intro Z6_5.out (And.intro Z7_6.out (And.intro Z8_7.out (And.intro Z9_8.out (And.intro Z10_9.out (And.intro Z11_10.out (And.intro Z12_11.out (Z13_12.out)))))))))))))
  refine (markByteS_br _ A7G c7G R 1 w w13 HB13.out HG13.out (by omega) (by have := HRL.out; omega)).mono ?_
  rintro e w14 ⟨rfl, hr14, hb14, hk14⟩
  have hr14 := Aside0.mk hr14
  have HB14 := Aside0.mk (hb14)
  have HW14 := Aside0.mk (Kd.R_kept HW13.out hk14 (fun k hk h => (by have h1 := hk.1; have h2 := hk.2; have h3 := h.1; have h4 := h.2; have z := ZA14.out; omega)))
  have KA14 := Aside0.mk (blk_kept KA13.out hk14 (fun h => (by have h3 := h.1; have h4 := h.2; have z := ZA14.out; omega)))
  have Z14_13 := Aside0.mk (show (w13).heap.size ≤ w14.heap.size from hk14.1)
  clear hb14 hk14 HB13 HW13 KA13 HG13
  rw [← HM.out]
  have bA_0_14 := blk_cell KA14.out 0
  have bA_1_14 := blk_cell KA14.out 1
  have bA_2_14 := blk_cell KA14.out 2
  have bA_3_14 := blk_cell KA14.out 3
  have bA_4_14 := blk_cell KA14.out 4
  simp only [List.getElem?_toArray, List.getElem?_cons_zero, List.getElem?_cons_succ] at bA_0_14 bA_1_14 bA_2_14 bA_3_14 bA_4_14
  go_wp2_with fail
  clear bA_0_14 bA_1_14 bA_2_14 bA_3_14 bA_4_14
  have hl14 := (BR.reads2 hr14.out).1
  have hh14 := laws_heldByteS.calls (A0 := A7G) (c0 := c7G) (hr0 := by exact (BR.reads2 hr14.out).2.2) (hc0 := by rw [← hl14]; exact (BR.reads2 hr14.out).2.1) (h := Ahh.out)
  rw [← hl14] at hh14
  clear hl14
  refine (hh14).mono ?_
  rintro e w15 ⟨rfl, hb15⟩
  have hb15 := (show Below (w14).heap.size (w14) w15 from by first | exact hb15 | exact hb15.below)
  have HB15 := Aside0.mk (below_step HB14.out hb15)
  have HW15 := Aside0.mk (Kd.R_below HW14.out hb15)
  have HG15 := Aside0.mk (BR.below hr14.out hb15)
  have KA15 := Aside0.mk (blk_below KA14.out hb15)
  have Z15_14 := Aside0.mk (show (w14).heap.size ≤ w15.heap.size from hb15.size)
  clear hb15 HB14 HW14 hr14 KA14
  clear hh14
  have bA_0_15 := blk_cell KA15.out 0
  have bA_1_15 := blk_cell KA15.out 1
  have bA_2_15 := blk_cell KA15.out 2
  have bA_3_15 := blk_cell KA15.out 3
  have bA_4_15 := blk_cell KA15.out 4
  simp only [List.getElem?_toArray, List.getElem?_cons_zero, List.getElem?_cons_succ] at bA_0_15 bA_1_15 bA_2_15 bA_3_15 bA_4_15
  go_wp2_with fail
  clear bA_0_15 bA_1_15 bA_2_15 bA_3_15 bA_4_15
  refine (laws_toBackup.calls (hr0_3 := Kd.C_below HR3.out HB15.out) (hc0_3 := hc3) (h := Aht.out)).mono ?_
  rintro e w16 ⟨v16_0, rfl, ho16_0, hb16⟩
  have hb16 := (show Below (w15).heap.size (w15) w16 from by first | exact hb16 | exact hb16.below)
  obtain ⟨A16T3, c16T3, rfl, _, _⟩ := Kd.R_reads ho16_0
  have nho16_0 := Aside0.mk (Kd.R_lower (Kd.R_mono (Kd.R_bound ho16_0) (fun k hk => (show (w15).heap.size ≤ k ∧ k < w16.heap.size from ⟨hk.2.1, hk.2.2.1⟩))) HB15.out.size)
  have HB16 := Aside0.mk (below_step HB15.out hb16)
  have HW16 := Aside0.mk (Kd.R_below HW15.out hb16)
  have HG16 := Aside0.mk (BR.below HG15.out hb16)
  have KA16 := Aside0.mk (blk_below KA15.out hb16)
  have Z16_15 := Aside0.mk (show (w15).heap.size ≤ w16.heap.size from hb16.size)
  clear hb16 ho16_0 HB15 HW15 HG15 KA15
  have bA_0_16 := blk_cell KA16.out 0
  have bA_1_16 := blk_cell KA16.out 1
  have bA_2_16 := blk_cell KA16.out 2
  have bA_3_16 := blk_cell KA16.out 3
  have bA_4_16 := blk_cell KA16.out 4
  simp only [List.getElem?_toArray, List.getElem?_cons_zero, List.getElem?_cons_succ] at bA_0_16 bA_1_16 bA_2_16 bA_3_16 bA_4_16
  go_wp2_with fail
  clear bA_0_16 bA_1_16 bA_2_16 bA_3_16 bA_4_16
  refine (implBackupBytes_at a b n A16T3 c16T3 x s R code _ (Kd.R_reads' nho16_0.out).2.2 (Kd.R_reads' nho16_0.out).2.1 HXL.out Ahim.out).mono ?_
  rintro e w17 ⟨v17_0, rfl, ho17_0, hb17⟩
  have hb17 := (show Below (w16).heap.size (w16) w17 from by first | exact hb17 | exact hb17.below)
  obtain ⟨A17Q, c17Q, rfl, _, _⟩ := BR.reads ho17_0
  have nho17_0 := Aside0.mk (BR.lower (BR.mono ho17_0 (fun k _ h1 h2 => (show (w16).heap.size ≤ k ∧ k < w17.heap.size from ⟨h1, h2⟩))) HB16.out.size)
  have HB17 := Aside0.mk (below_step HB16.out hb17)
  have HW17 := Aside0.mk (Kd.R_below HW16.out hb17)
  have HG17 := Aside0.mk (BR.below HG16.out hb17)
  have HT317 := Aside0.mk (Kd.R_below nho16_0.out hb17)
  have KA17 := Aside0.mk (blk_below KA16.out hb17)
  have Z17_16 := Aside0.mk (show (w16).heap.size ≤ w17.heap.size from hb17.size)
  clear hb17 ho17_0 HB16 HW16 HG16 nho16_0 KA16
  have bA_0_17 := blk_cell KA17.out 0
  have bA_1_17 := blk_cell KA17.out 1
  have bA_2_17 := blk_cell KA17.out 2
  have bA_3_17 := blk_cell KA17.out 3
  have bA_4_17 := blk_cell KA17.out 4
  simp only [List.getElem?_toArray, List.getElem?_cons_zero, List.getElem?_cons_succ] at bA_0_17 bA_1_17 bA_2_17 bA_3_17 bA_4_17
  go_wp2_with fail
  clear bA_0_17 bA_1_17 bA_2_17 bA_3_17 bA_4_17
  refine (laws_eqByteS.calls (hr0 := (BR.reads2 nho17_0.out).2.2) (hc0 := (BR.reads2 nho17_0.out).2.1) (hr1 := (Kd.R_reads' HW17.out).2.2) (hc1 := (Kd.R_reads' HW17.out).2.1) (h := AheR.out)).mono ?_
  rintro e w18 ⟨rfl, hb18⟩
  have hb18 := (show Below (w17).heap.size (w17) w18 from by first | exact hb18 | exact hb18.below)
  have HB18 := Aside0.mk (below_step HB17.out hb18)
  have HW18 := Aside0.mk (Kd.R_below HW17.out hb18)
  have HG18 := Aside0.mk (BR.below HG17.out hb18)
  have HQ18 := Aside0.mk (BR.below nho17_0.out hb18)
  have KA18 := Aside0.mk (blk_below KA17.out hb18)
  have Z18_17 := Aside0.mk (show (w17).heap.size ≤ w18.heap.size from hb18.size)
  clear hb18 HB17 HW17 HG17 nho17_0 KA17
  have bA_0_18 := blk_cell KA18.out 0
  have bA_1_18 := blk_cell KA18.out 1
  have bA_2_18 := blk_cell KA18.out 2
  have bA_3_18 := blk_cell KA18.out 3
  have bA_4_18 := blk_cell KA18.out 4
  simp only [List.getElem?_toArray, List.getElem?_cons_zero, List.getElem?_cons_succ] at bA_0_18 bA_1_18 bA_2_18 bA_3_18 bA_4_18
  go_wp2_with fail
  clear bA_0_18 bA_1_18 bA_2_18 bA_3_18 bA_4_18
  have hl18 := (BR.reads2 HG18.out).1
  have hh18 := laws_heldByteS.calls (A0 := A7G) (c0 := c7G) (hr0 := by exact (BR.reads2 HG18.out).2.2) (hc0 := by rw [← hl18]; exact (BR.reads2 HG18.out).2.1) (h := Ahh.out)
  rw [← hl18] at hh18
  clear hl18
  refine (hh18).mono ?_
  rintro e w19 ⟨rfl, hb19⟩
  have hb19 := (show Below (w18).heap.size (w18) w19 from by first | exact hb19 | exact hb19.below)
  have HB19 := Aside0.mk (below_step HB18.out hb19)
  have HW19 := Aside0.mk (Kd.R_below HW18.out hb19)
  have HG19 := Aside0.mk (BR.below HG18.out hb19)
  have HQ19 := Aside0.mk (BR.below HQ18.out hb19)
  have KA19 := Aside0.mk (blk_below KA18.out hb19)
  have Z19_18 := Aside0.mk (show (w18).heap.size ≤ w19.heap.size from hb19.size)
  clear hb19 HB18 HW18 HG18 HQ18 KA18
  clear hh18
  have bA_0_19 := blk_cell KA19.out 0
  have bA_1_19 := blk_cell KA19.out 1
  have bA_2_19 := blk_cell KA19.out 2
  have bA_3_19 := blk_cell KA19.out 3
  have bA_4_19 := blk_cell KA19.out 4
  simp only [List.getElem?_toArray, List.getElem?_cons_zero, List.getElem?_cons_succ] at bA_0_19 bA_1_19 bA_2_19 bA_3_19 bA_4_19
  go_wp2_with fail
  clear bA_0_19 bA_1_19 bA_2_19 bA_3_19 bA_4_19
  go_ret
  exact ⟨rfl, HB19.out⟩
open Classical in
noncomputable def laws_FnExactBackupBytes.f (a0_0 : ByteArray) (a0_1 : ByteArray) (a0_2 : Int) (l0_3 : List S85) (a0_4 : Int) : Option Bool := if wl44 ⟨a0_0, a0_1, a0_2, l0_3, a0_4⟩ then some true else none
theorem laws_FnExactBackupBytes.calls (a0_0 : ByteArray) (a0_1 : ByteArray) (a0_2 : Int) (A0_3 : Option Addr) (c0_3 : Nat) (l0_3 : List (S85)) (a0_4 : Int) (r : Bool) (w : World) (hr0_3 : Kd.C k85 w A0_3 l0_3.length l0_3) (hc0_3 : l0_3.length ≤ c0_3) (h : laws_FnExactBackupBytes.f a0_0 a0_1 a0_2 l0_3 a0_4 = some r) :
    Calls Try.prog 7 #[.agg #[.string a0_0, .string a0_1, .int .i64 a0_2, .slice A0_3 l0_3.length c0_3, .int .i64 a0_4]] w fun e w' => e = .returned (.bool r) ∧ Below w.heap.size w w' := by
  unfold laws_FnExactBackupBytes.f at h
  by_cases hw : wl44 ⟨a0_0, a0_1, a0_2, l0_3, a0_4⟩
  · rw [if_pos hw] at h
    obtain rfl := Option.some.inj h
    clear h
    obtain ⟨z, hz, hq⟩ := sz_Backup ⟨a0_0, a0_1, a0_2, l0_3, a0_4⟩ hw 1048576 1048576 (by omega) (by omega) (by omega)
    obtain ⟨kz, hz⟩ := Ev.rounds hz
    by_cases hzn : z < 0
    · exact small_BackupBytes kz z a0_0 a0_1 a0_2 A0_3 c0_3 l0_3 a0_4 w hr0_3 hc0_3 hz hzn
    have hs := (hq (by omega)).2
    obtain ⟨kt, ht⟩ := Ev.rounds (to_Backup ⟨a0_0, a0_1, a0_2, l0_3, a0_4⟩ hs)
    have n0 : (l0_3.map cv85).length ≤ 1048576 := by rw [List.length_map]; have := hs.2.2.2.1.1; simp only at this; omega
    simp only at ht
    generalize l0_3.map cv85 = x at *
    have hn := bakR_length a0_0 a0_1 a0_2 x a0_4
    obtain ⟨ks, hsp⟩ := Ev.rounds (spec_bakR a0_0 a0_1 a0_2 x a0_4 (by omega))
    obtain ⟨RR, him⟩ : ∃ RR, bakR a0_0 a0_1 a0_2 x a0_4 = RR := ⟨_, rfl⟩
    rw [him] at hsp hn
    obtain ⟨R, code⟩ := RR
    simp only at hn
    obtain ⟨keX, heX⟩ := Ev.rounds (eq_Backup ⟨a0_0, a0_1, a0_2, x, a0_4⟩ ⟨trivial, trivial, trivial, ⟨by simp only; omega, fun y _ => ⟨trivial, trivial, trivial, trivial, trivial⟩⟩, trivial⟩)
    obtain ⟨keR, heR⟩ := Ev.rounds (eq_ByteS R (by omega))
    have hmB : Ev (fun k => laws_markBackup.f k a0_0 a0_1 a0_2 x a0_4 1) (1 + 5 * (x.length : Int), mk_DiffS x 1) := by
      unfold laws_markBackup.f
      exact Ev.bind (mark_DiffS x 1 (by omega) (by omega) (by omega)) (Ev.is rfl)
    obtain ⟨kmX, hmX⟩ := Ev.rounds hmB
    obtain ⟨kh, hh⟩ := Ev.rounds (Ev.same (held_ByteS R 1 (by omega) (by omega) (by omega)) (show _ = 1 + (R.length : Int) by omega))
    simp only at heX
    exact walk_BackupBytes kz kt ks keR keX kmX kh z a0_0 a0_1 a0_2 A0_3 c0_3 l0_3 a0_4 x R code _ _ w hr0_3 hc0_3 hz hzn ht hsp him heR heX hmX hh (by omega) (by omega) (by omega)
  · rw [if_neg hw] at h
    cases h
end Go.Proofs.Ytgcncphdjabjjaa.X
