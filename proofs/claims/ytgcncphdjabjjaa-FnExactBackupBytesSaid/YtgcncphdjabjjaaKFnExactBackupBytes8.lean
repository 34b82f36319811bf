import Derived.Test.YtgcncphdjabjjaaKFnExactBackupBytes4
import Derived.Test.YtgcncphdjabjjaaKFnExactBackupBytes5
import Derived.Test.YtgcncphdjabjjaaKFnExactBackupBytes6
import Derived.Test.YtgcncphdjabjjaaKFnExactBackupBytes7
import Derived.LoopTactic
import Derived.BigQuiet
import Derived.Shelf.Strings.Builder1
import Derived.Lib.UnsafeStr
namespace Go.Proofs.Ytgcncphdjabjjaa.X
open Go.RowKit Go.Proofs.YtgcncphdjabjjaaW.PrintWords Go.Proofs.YtgcncphdjabjjaaW.PrintLast Go.Proofs.YtgcncphdjabjjaaW.PrintMore
attribute [local go_sem] xbin_geq xbin_leq xbin_gtr max2_int min2_int max_two min_two max_three min_three max_four min_four
set_option linter.unusedVariables false
set_option linter.unusedSimpArgs false
def bitN (b : Bool) (n : Int) : Int := if b = true then n else 0
def diffT (d : S82) : ByteArray := numO (bitN d.f3 1 + bitN d.f4 2) ++ fieldsT [d.f0, d.f1, d.f2]
def bodyFrom (a : ByteArray) (l : List S82) : ByteArray := l.foldl (fun a d => a ++ diffT d) a
def bodyT (l : List S82) : ByteArray := bodyFrom ByteArray.empty l
def BakFits (fr tx : ByteArray) (l : List S82) : Prop := fr.size ≤ 1000 ∧ tx.size ≤ 1000 ∧ l.length ≤ 1000 ∧ ∀ d, d ∈ l → d.f0.size ≤ 1000 ∧ d.f1.size ≤ 1000 ∧ d.f2.size ≤ 1000
theorem bit_is (b : Bool) (n : Int) : impl_bit.f b n = some (bitN b n) := by
  unfold impl_bit.f bitN
  split <;> rfl
theorem bodyFrom_snoc (a : ByteArray) (l : List S82) (d : S82) : bodyFrom a (l ++ [d]) = bodyFrom a l ++ diffT d := by
  unfold bodyFrom
  rw [List.foldl_append]
  rfl
theorem fieldsT_three (a b c : ByteArray) (ha : a.size ≤ 1000) (hb : b.size ≤ 1000) (hc : c.size ≤ 1000) : (fieldsT [a, b, c]).size ≤ 3007 := by
  show (fieldsFrom (strOfNums [3]) [a, b, c]).size ≤ 3007
  simp only [fieldsFrom, List.foldl_cons, List.foldl_nil, ByteArray.size_append, numT_size]
  have : (strOfNums [3]).size = 1 := rfl
  omega
theorem diffT_size (d : S82) (h : d.f0.size ≤ 1000 ∧ d.f1.size ≤ 1000 ∧ d.f2.size ≤ 1000) : (diffT d).size ≤ 3008 := by
  unfold diffT
  rw [ByteArray.size_append, numO_size]
  have := fieldsT_three d.f0 d.f1 d.f2 h.1 h.2.1 h.2.2
  omega
theorem bodyFrom_size (l : List S82) : ∀ a : ByteArray, (∀ d, d ∈ l → d.f0.size ≤ 1000 ∧ d.f1.size ≤ 1000 ∧ d.f2.size ≤ 1000) → (bodyFrom a l).size ≤ a.size + 3008 * l.length := by
  induction l with
  | nil => intro a _; exact Nat.le_add_right _ _
  | cons d l ih =>
    intro a h
    have h1 := diffT_size d (h d List.mem_cons_self)
    have h2 := ih (a ++ diffT d) fun x hx => h x (List.mem_cons_of_mem _ hx)
    rw [ByteArray.size_append] at h2
    simp only [List.length_cons]
    show (bodyFrom (a ++ diffT d) l).size ≤ _
    omega
theorem fields_two (a b : ByteArray) (ha : a.size ≤ 1000) (hb : b.size ≤ 1000) : impl_fields.f [a, b] = some (fieldsT [a, b]) := by
  unfold impl_fields.f
  rw [if_pos ⟨by show 2 ≤ _; omega, fun x hx => by
    rcases List.mem_cons.1 hx with rfl | hx
    · omega
    · rcases List.mem_cons.1 hx with rfl | hx
      · omega
      · cases hx⟩]
theorem fields_three (a b c : ByteArray) (ha : a.size ≤ 1000) (hb : b.size ≤ 1000) (hc : c.size ≤ 1000) : impl_fields.f [a, b, c] = some (fieldsT [a, b, c]) := by
  unfold impl_fields.f
  rw [if_pos ⟨by show 3 ≤ _; omega, fun x hx => by
    rcases List.mem_cons.1 hx with rfl | hx
    · omega
    · rcases List.mem_cons.1 hx with rfl | hx
      · omega
      · rcases List.mem_cons.1 hx with rfl | hx
        · omega
        · cases hx⟩]
theorem ovS {a b : ByteArray} {n m : Nat} (ha : a.size ≤ n) (hb : b.size ≤ m) (h : n + m ≤ 9000000000000000000) : (9223372036854775807 < a.size + b.size) = False := eq_false (by omega)
def bakBody.T5 : Bool × List (List Nat × List Nat) := (true, [([], []), ([0], [0]), ([1], [1]), ([], []), ([3], [3]), ([4, 2], [4]), ([2, 5], [2, 5]), ([6, 5], [6]), ([], []), ([8], [8]), ([], []), ([10], [10]), ([], []), ([12], [12]), ([9, 11, 13], [9, 11, 13]), ([14, 7], [14]), ([7, 15], [7, 15]), ([16, 15], [16])])
def bakBody.B5 : List Nat := [0, 1, 3, 0, 8, 31, 63, 127, 0, 256, 0, 1024, 0, 4096, 16128, 32767, 65535, 131071]
theorem bakBody.tab5 : rtab .any (opsOf Try.f100 5) = bakBody.T5 := by kernel_rfl
theorem bakBody.bits5 : waitsOk bakBody.T5.2 bakBody.B5 = true := by kernel_rfl
set_option maxRecDepth 100000 in
set_option maxHeartbeats 8000000 in
theorem bak_body (g : Nat) (fr tx : ByteArray) (chain : Int) (A : Option Addr) (c : Nat) (l : List S82) (sum : Int) (w : World) (hb : w.heap[g]? = some (.cells #[.string fr, .string tx, .int .i64 chain, .slice A l.length c, .int .i64 sum] 48 (0, 0))) (hr : Kd.C k82 w A l.length l) (hc : l.length ≤ c) (hf : BakFits fr tx l) :
    Calls Try.prog 100 #[.pointer (some ⟨g, 0, none⟩)] w fun e w' => e = .returned (.string (bodyT l)) ∧ Below w.heap.size w w' := by
  have hu := Try.underlying48
  have hu2 := Try.underlying82
  obtain ⟨_, _, hs1, hs2⟩ := hf
  have HS := Aside0.mk hs2
  have HR := Aside0.mk hr
  have b0 := blk_cell hb 0
  have b3 := blk_cell hb 3
  simp only [List.getElem?_toArray, List.getElem?_cons_zero, List.getElem?_cons_succ] at b0 b3
  have hg := blk_lt hb
  replace b3 := (below_alloc (Below.refl _ w) (.cells #[.pointer none, .slice none 0 0] 102 (0, 0))).cell (p := ⟨g, 3, none⟩) hg |>.trans b3
  clear hr hs2 b0
  go_enter Try.func100, Try.ntmps100
  go_wp2_with fail
  have HB1 := Aside0.mk (Lib.fresh_isBuilder 102 5 w)
  have HB := Aside0.mk (show Below w.heap.size w (w.alloc (.cells #[.pointer none, .slice none 0 0] 102 (0, 0))) from (Below.refl _ w).alloc (Nat.le_refl _) _)
  go_loopw [12] (fun v12 wr => ∃ k : Nat, k ≤ l.length ∧ v12 = .int .i64 k ∧ Aside0 (Lib.IsBuilder 102 5 w.heap.size w.heap.size (Lib.byteCells (bodyFrom ByteArray.empty (l.take k)).data.toList) wr) ∧ Aside0 (Below w.heap.size w wr)) (fun v12 _ => l.length - (intOf v12).toNat)
  case atStart => exact ⟨0, Nat.zero_le _, rfl, ⟨by rw [List.take_zero]; exact HB1.out⟩, HB⟩
  case round =>
    clear HB HB1
    obtain ⟨k, hk, rfl, HI, HBw⟩ := hrel
    have hfs := bodyFrom_size (l.take k) ByteArray.empty fun t ht => HS.out t (List.mem_of_mem_take ht)
    rw [List.length_take] at hfs
    have ha1 : ByteArray.empty.size = 0 := rfl
    rw [ha1] at hfs
    by_cases hlt : k < l.length
    · have c1 : decide ((k : Int) < (l.length : Int)) = true := decide_eq_true (by omega)
      have p1 : 0 ≤ (k : Int) := by omega
      have q1 : (k : Int) < (l.length : Int) := by omega
      obtain ⟨ad, e, hx0, hx1, hx2, hx3, hx4⟩ := at_T82 HR.out (k : Int) p1 q1
      cases e
      have et : rd_T82 l (k : Int) = l[k] := by unfold rd_T82; rw [Int.toNat_natCast]; simp [List.getD_eq_getElem?_getD, hlt]
      rw [et, Int.toNat_natCast] at hx0 hx1 hx2 hx3 hx4
      have htk : l.take (k + 1) = l.take k ++ [l[k]] := List.take_succ_eq_append_getElem hlt
      have hts := HS.out l[k] (List.getElem_mem hlt)
      replace hx0 := (HBw.out.cell (World.block_lt_of_cell? w _ hx0)).trans hx0
      replace hx1 := (HBw.out.cell (World.block_lt_of_cell? w _ hx1)).trans hx1
      replace hx2 := (HBw.out.cell (World.block_lt_of_cell? w _ hx2)).trans hx2
      replace hx3 := (HBw.out.cell (World.block_lt_of_cell? w _ hx3)).trans hx3
      replace hx4 := (HBw.out.cell (World.block_lt_of_cell? w _ hx4)).trans hx4
      clear et
      generalize l[k] = t at hx0 hx1 hx2 hx3 hx4 htk hts
      obtain ⟨d0, d1, d2, b3, b4⟩ := t
      dsimp only at hx0 hx1 hx2 hx3 hx4 hts
      replace p1 := eq_true p1
      replace q1 := eq_true q1
      have F1 := Aside0.mk (fields_three d0 d1 d2 hts.1 hts.2.1 hts.2.2)
      have hz1 := fieldsT_three d0 d1 d2 hts.1 hts.2.1 hts.2.2
      obtain ⟨K1, hK1⟩ := inBytes_one (bitN b3 1 + bitN b4 2)
      have N1 := Aside0.mk (hK1 K1 (Nat.le_refl _))
      have hz2 : (numO (bitN b3 1 + bitN b4 2)).size ≤ 1 := Nat.le_of_eq (numO_size _)
      obtain ⟨s1, e1⟩ : ∃ s1, s1 = numO (bitN b3 1 + bitN b4 2) ++ fieldsT [d0, d1, d2] := ⟨_, rfl⟩
      have hz3 : s1.size ≤ 3008 := by rw [e1, ByteArray.size_append]; omega
      have O1 := Aside0.mk (ovS hz2 hz1 (by omega))
      have HL := Aside0.mk (show (Lib.byteCells (bodyFrom ByteArray.empty (l.take k)).data.toList).length + s1.size ≤ 140737488355328 from by
        rw [Lib.byteCells_length, Array.length_toList]
        have : (bodyFrom ByteArray.empty (l.take k)).data.size = (bodyFrom ByteArray.empty (l.take k)).size := rfl
        omega)
      have eb : Lib.byteCells (bodyFrom ByteArray.empty (l.take (k + 1))).data.toList = Lib.byteCells (bodyFrom ByteArray.empty (l.take k)).data.toList ++ Lib.strCells s1 := by
        rw [Lib.strCells_eq, ← Lib.byteCells_append, htk, bodyFrom_snoc]
        show Lib.byteCells (bodyFrom ByteArray.empty (l.take k) ++ (numO (bitN b3 1 + bitN b4 2) ++ fieldsT [d0, d1, d2])).data.toList = _
        rw [← e1, ByteArray.data_append, Array.toList_append]
      have hB4 : ∀ {p : Value} {W : World}, Lib.BuilderAt 102 5 w.heap.size w.heap.size p (Lib.byteCells (bodyFrom ByteArray.empty (l.take k)).data.toList ++ Lib.strCells s1) W → p = .pointer (some ⟨w.heap.size, 0, none⟩) → Lib.IsBuilder 102 5 w.heap.size w.heap.size (Lib.byteCells (bodyFrom ByteArray.empty (l.take (k + 1))).data.toList) W := by
        rintro p W h rfl
        rw [eb]
        exact .inr h
      clear hK1 hz1 hz2 hz3 htk eb hfs ha1
      have HB4 := Aside0.mk @hB4
      clear hB4
      generalize hn1 : numO (bitN b3 1 + bitN b4 2) = n1 at N1 e1 O1
      generalize hff : fieldsT [d0, d1, d2] = ff at F1 e1 O1
      have E1 := Aside0.mk e1
      clear e1 hn1 hff
      go_wp2_with fail
      obtain ⟨W5, hW5⟩ : ∃ W5, W5 = wr.alloc (.cells #[.string d0, .string d1, .string d2, .bool b3, .bool b4] 82 (0, 0)) := ⟨_, rfl⟩
      have BK0 : W5.heap[wr.heap.size]? = some (.cells #[.string d0, .string d1, .string d2, .bool b3, .bool b4] 82 (0, 0)) := by rw [hW5]; exact blk_new _ _
      have HW0 : Below wr.heap.size wr W5 := by rw [hW5]; exact below_alloc (Below.refl _ _) _
      rw [← hW5]
      clear hW5
      have BK := Aside0.mk (blk_drew BK0)
      have HW := Aside0.mk (below_drew HW0)
      clear BK0 HW0
      obtain ⟨gd, hgd⟩ : ∃ gd, gd = wr.heap.size := ⟨_, rfl⟩
      have HGD := Aside0.mk hgd
      rw [← hgd] at BK ⊢
      clear hgd
      refine start_ (n := 18) (S := fun w' => True) (ds := []) #[false, false, false, false, false, false, false, false, false, false, false, false, false, false, false, false, false, false] (by kernel_rfl) rfl rfl trivial (fun hHeld => ?_)
      refine with_tabW bakBody.tab5 bakBody.bits5 (fun HT_ HW_ => ?_)
      generalize W5.drew = wd at BK HW ⊢
      refine inv_at [0, 1, 2, 3, 4, 5, 6, 7, 8, 9, 10, 11, 12, 13, 14, 15, 16, 17] (fun a0_ b a w' => ∃ (z : Value), a = putSel a0_ b [(0, 16, .pointer (some ⟨gd, 3, none⟩)), (1, 17, .bool b3), (2, 18, .int .i64 (bitN b3 1)), (3, 19, .pointer (some ⟨gd, 4, none⟩)), (4, 20, .bool b4), (5, 21, .int .i64 (bitN b4 2)), (6, 22, .int .i64 (bitN b3 1 + bitN b4 2)), (7, 23, .string n1), (8, 24, .pointer (some ⟨gd, 0, none⟩)), (9, 25, .string d0), (10, 26, .pointer (some ⟨gd, 1, none⟩)), (11, 27, .string d1), (12, 28, .pointer (some ⟨gd, 2, none⟩)), (13, 29, .string d2), (14, 30, z), (15, 31, .string ff), (16, 32, .string s1), (17, 33, .tuple #[.int .i64 (s1.size : Int), .nilIface])] ∧ (b 17 = false → w'.heap[gd]? = some (.cells #[.string d0, .string d1, .string d2, .bool b3, .bool b4] 82 (0, 0))) ∧ (b 17 = false → Below wr.heap.size wr w') ∧ (b 14 = true → b 17 = false → Kd.R Kd.string 9 w' wr.heap.size (fun _ => True) z [d0, d1, d2]) ∧ (b 17 = true → Lib.IsBuilder 102 5 w.heap.size w.heap.size (Lib.byteCells (bodyFrom ByteArray.empty (l.take (k + 1))).data.toList) w' ∧ Below w.heap.size wr w')) HT_.out HW_.out (by kernel_rfl) (by kernel_rfl) ?_ ?_ ?_
      · exact ⟨.bool false, by simp only [putSel, Bool.false_eq_true, if_false], fun _ => BK.out, fun _ => HW.out, fun h_ => absurd h_ (by decide), fun h_ => absurd h_ (by decide)⟩
      · skip
        clear BK HW
        refine steps_cons ?_ ?_
        · rintro b a w' ⟨z, ha, Q_BK, Q_HW, Q_FZ, Q_HX⟩ hb_ hon hoff
          refine ⟨_, rfl, fun K hK => ?_⟩
          have e5 : a.tmps[5]? = some (.pointer (some ⟨gd, 0, none⟩)) := by rw [ha]; exact (putSel_off rfl).trans rfl
          replace ha := Aside0.mk ha
          have BK := Aside0.mk (Q_BK (hoff 17 (by kernel_rfl)))
          have HW := Aside0.mk (Q_HW (hoff 17 (by kernel_rfl)))
          refine value_ (w1 := w') (v := .pointer (some ⟨gd, 3, none⟩)) (by rfl) rfl ?_ ?_
          · go_simp
            (try simp only [i64_w])
            try rfl
          refine hK.out _ _ ⟨z, (by rw [ha.out]; exact putSel_upk 0 hb_ rfl rfl rfl), Q_BK, Q_HW, Q_FZ, fun h0_ => absurd ((hoff 17 (by kernel_rfl)).symm.trans h0_) (by decide)⟩
        refine steps_cons ?_ ?_
        · rintro b a w' ⟨z, ha, Q_BK, Q_HW, Q_FZ, Q_HX⟩ hb_ hon hoff
          refine ⟨_, rfl, fun K hK => ?_⟩
          have e16 : a.tmps[16]? = some (.pointer (some ⟨gd, 3, none⟩)) := by rw [ha]; exact putSel_on (e := (0, 16, .pointer (some ⟨gd, 3, none⟩))) 0 rfl rfl (hon 0 (by kernel_rfl)) rfl
          replace ha := Aside0.mk ha
          have BK := Aside0.mk (Q_BK (hoff 17 (by kernel_rfl)))
          have HW := Aside0.mk (Q_HW (hoff 17 (by kernel_rfl)))
          have hc0_ : w'.cell? ⟨gd, 0, none⟩ = some (.string d0) := (blk_cell BK.out 0).trans rfl
          have hc1_ : w'.cell? ⟨gd, 1, none⟩ = some (.string d1) := (blk_cell BK.out 1).trans rfl
          have hc2_ : w'.cell? ⟨gd, 2, none⟩ = some (.string d2) := (blk_cell BK.out 2).trans rfl
          have hc3_ : w'.cell? ⟨gd, 3, none⟩ = some (.bool b3) := (blk_cell BK.out 3).trans rfl
          have hc4_ : w'.cell? ⟨gd, 4, none⟩ = some (.bool b4) := (blk_cell BK.out 4).trans rfl
          refine value_ (w1 := w') (v := .bool b3) (by rfl) rfl ?_ ?_
          · go_simp
            (try simp only [i64_w])
            try rfl
          refine hK.out _ _ ⟨z, (by rw [ha.out]; exact putSel_upk 1 hb_ rfl rfl rfl), Q_BK, Q_HW, Q_FZ, fun h0_ => absurd ((hoff 17 (by kernel_rfl)).symm.trans h0_) (by decide)⟩
        refine steps_cons ?_ ?_
        · rintro b a w' ⟨z, ha, Q_BK, Q_HW, Q_FZ, Q_HX⟩ hb_ hon hoff
          refine ⟨_, rfl, fun K hK => ?_⟩
          have e17 : a.tmps[17]? = some (.bool b3) := by rw [ha]; exact putSel_on (e := (1, 17, .bool b3)) 1 rfl rfl (hon 1 (by kernel_rfl)) rfl
          replace ha := Aside0.mk ha
          have BK := Aside0.mk (Q_BK (hoff 17 (by kernel_rfl)))
          have HW := Aside0.mk (Q_HW (hoff 17 (by kernel_rfl)))
          refine goes_ Try.func117 (by kernel_rfl) rfl #[.bool b3, .int .i64 1] (by rfl) rfl rfl (by first | (simp only [List.map_toArray, List.map_cons, List.map_nil, Act.eval, Array.getD_eq_getD_getElem?, Option.getD_some, e17]; done) | (simp only [List.map_toArray, List.map_cons, List.map_nil, Act.eval, Array.getD_eq_getD_getElem?, Option.getD_some, e17]; rfl)) ?_
          refine (impl_bit.calls b3 1 _ w' (bit_is b3 1)).mono ?_
          rintro e_ w1 ⟨rfl, hd1⟩
          have hb1 : Below w'.heap.size w' w1 := by first | exact hd1 | exact hd1.below
          refine ⟨_, rfl, ?_⟩
          refine hK.out _ _ ⟨z, (by rw [ha.out]; exact putSel_upk 2 hb_ rfl rfl rfl), fun _ => blk_below BK.out hb1, fun _ => below_step HW.out hb1, fun h0_ h1_ => Kd.R_below (Q_FZ h0_ h1_) hb1, fun h0_ => absurd ((hoff 17 (by kernel_rfl)).symm.trans h0_) (by decide)⟩
        refine steps_cons ?_ ?_
        · rintro b a w' ⟨z, ha, Q_BK, Q_HW, Q_FZ, Q_HX⟩ hb_ hon hoff
          refine ⟨_, rfl, fun K hK => ?_⟩
          have e5 : a.tmps[5]? = some (.pointer (some ⟨gd, 0, none⟩)) := by rw [ha]; exact (putSel_off rfl).trans rfl
          replace ha := Aside0.mk ha
          have BK := Aside0.mk (Q_BK (hoff 17 (by kernel_rfl)))
          have HW := Aside0.mk (Q_HW (hoff 17 (by kernel_rfl)))
          refine value_ (w1 := w') (v := .pointer (some ⟨gd, 4, none⟩)) (by rfl) rfl ?_ ?_
          · go_simp
            (try simp only [i64_w])
            try rfl
          refine hK.out _ _ ⟨z, (by rw [ha.out]; exact putSel_upk 3 hb_ rfl rfl rfl), Q_BK, Q_HW, Q_FZ, fun h0_ => absurd ((hoff 17 (by kernel_rfl)).symm.trans h0_) (by decide)⟩
        refine steps_cons ?_ ?_
        · rintro b a w' ⟨z, ha, Q_BK, Q_HW, Q_FZ, Q_HX⟩ hb_ hon hoff
          refine ⟨_, rfl, fun K hK => ?_⟩
          have e19 : a.tmps[19]? = some (.pointer (some ⟨gd, 4, none⟩)) := by rw [ha]; exact putSel_on (e := (3, 19, .pointer (some ⟨gd, 4, none⟩))) 3 rfl rfl (hon 3 (by kernel_rfl)) rfl
          replace ha := Aside0.mk ha
          have BK := Aside0.mk (Q_BK (hoff 17 (by kernel_rfl)))
          have HW := Aside0.mk (Q_HW (hoff 17 (by kernel_rfl)))
          have hc0_ : w'.cell? ⟨gd, 0, none⟩ = some (.string d0) := (blk_cell BK.out 0).trans rfl
          have hc1_ : w'.cell? ⟨gd, 1, none⟩ = some (.string d1) := (blk_cell BK.out 1).trans rfl
          have hc2_ : w'.cell? ⟨gd, 2, none⟩ = some (.string d2) := (blk_cell BK.out 2).trans rfl
          have hc3_ : w'.cell? ⟨gd, 3, none⟩ = some (.bool b3) := (blk_cell BK.out 3).trans rfl
          have hc4_ : w'.cell? ⟨gd, 4, none⟩ = some (.bool b4) := (blk_cell BK.out 4).trans rfl
          refine value_ (w1 := w') (v := .bool b4) (by rfl) rfl ?_ ?_
          · go_simp
            (try simp only [i64_w])
            try rfl
          refine hK.out _ _ ⟨z, (by rw [ha.out]; exact putSel_upk 4 hb_ rfl rfl rfl), Q_BK, Q_HW, Q_FZ, fun h0_ => absurd ((hoff 17 (by kernel_rfl)).symm.trans h0_) (by decide)⟩
        refine steps_cons ?_ ?_
        · rintro b a w' ⟨z, ha, Q_BK, Q_HW, Q_FZ, Q_HX⟩ hb_ hon hoff
          refine ⟨_, rfl, fun K hK => ?_⟩
          have e20 : a.tmps[20]? = some (.bool b4) := by rw [ha]; exact putSel_on (e := (4, 20, .bool b4)) 4 rfl rfl (hon 4 (by kernel_rfl)) rfl
          replace ha := Aside0.mk ha
          have BK := Aside0.mk (Q_BK (hoff 17 (by kernel_rfl)))
          have HW := Aside0.mk (Q_HW (hoff 17 (by kernel_rfl)))
          refine goes_ Try.func117 (by kernel_rfl) rfl #[.bool b4, .int .i64 2] (by rfl) rfl rfl (by first | (simp only [List.map_toArray, List.map_cons, List.map_nil, Act.eval, Array.getD_eq_getD_getElem?, Option.getD_some, e20]; done) | (simp only [List.map_toArray, List.map_cons, List.map_nil, Act.eval, Array.getD_eq_getD_getElem?, Option.getD_some, e20]; rfl)) ?_
          refine (impl_bit.calls b4 2 _ w' (bit_is b4 2)).mono ?_
          rintro e_ w1 ⟨rfl, hd1⟩
          have hb1 : Below w'.heap.size w' w1 := by first | exact hd1 | exact hd1.below
          refine ⟨_, rfl, ?_⟩
          refine hK.out _ _ ⟨z, (by rw [ha.out]; exact putSel_upk 5 hb_ rfl rfl rfl), fun _ => blk_below BK.out hb1, fun _ => below_step HW.out hb1, fun h0_ h1_ => Kd.R_below (Q_FZ h0_ h1_) hb1, fun h0_ => absurd ((hoff 17 (by kernel_rfl)).symm.trans h0_) (by decide)⟩
        refine steps_cons ?_ ?_
        · rintro b a w' ⟨z, ha, Q_BK, Q_HW, Q_FZ, Q_HX⟩ hb_ hon hoff
          refine ⟨_, rfl, fun K hK => ?_⟩
          have e18 : a.tmps[18]? = some (.int .i64 (bitN b3 1)) := by rw [ha]; exact putSel_on (e := (2, 18, .int .i64 (bitN b3 1))) 2 rfl rfl (hon 2 (by kernel_rfl)) rfl
          have e21 : a.tmps[21]? = some (.int .i64 (bitN b4 2)) := by rw [ha]; exact putSel_on (e := (5, 21, .int .i64 (bitN b4 2))) 5 rfl rfl (hon 5 (by kernel_rfl)) rfl
          replace ha := Aside0.mk ha
          have BK := Aside0.mk (Q_BK (hoff 17 (by kernel_rfl)))
          have HW := Aside0.mk (Q_HW (hoff 17 (by kernel_rfl)))
          refine value_ (w1 := w') (v := .int .i64 (bitN b3 1 + bitN b4 2)) (by rfl) rfl ?_ ?_
          · cases b3 <;> cases b4 <;> (simp only [bitN, Bool.false_eq_true, if_true, if_false] at e18 e21 ⊢; go_simp <;> rfl)
          refine hK.out _ _ ⟨z, (by rw [ha.out]; exact putSel_upk 6 hb_ rfl rfl rfl), fun _ => BK.out, fun _ => HW.out, fun h0_ h1_ => (Q_FZ h0_ h1_), fun h0_ => absurd ((hoff 17 (by kernel_rfl)).symm.trans h0_) (by decide)⟩
        refine steps_cons ?_ ?_
        · rintro b a w' ⟨z, ha, Q_BK, Q_HW, Q_FZ, Q_HX⟩ hb_ hon hoff
          refine ⟨_, rfl, fun K hK => ?_⟩
          have e22 : a.tmps[22]? = some (.int .i64 (bitN b3 1 + bitN b4 2)) := by rw [ha]; exact putSel_on (e := (6, 22, .int .i64 (bitN b3 1 + bitN b4 2))) 6 rfl rfl (hon 6 (by kernel_rfl)) rfl
          replace ha := Aside0.mk ha
          have BK := Aside0.mk (Q_BK (hoff 17 (by kernel_rfl)))
          have HW := Aside0.mk (Q_HW (hoff 17 (by kernel_rfl)))
          refine goes_ Try.func99 (by kernel_rfl) rfl #[.int .i64 (bitN b3 1 + bitN b4 2), .int .i64 1] (by rfl) rfl rfl (by first | (simp only [List.map_toArray, List.map_cons, List.map_nil, Act.eval, Array.getD_eq_getD_getElem?, Option.getD_some, e22]; done) | (simp only [List.map_toArray, List.map_cons, List.map_nil, Act.eval, Array.getD_eq_getD_getElem?, Option.getD_some, e22]; rfl)) ?_
          refine (impl_inBytes.calls K1 _ _ _ _ N1.out).mono ?_
          rintro e_ w1 ⟨rfl, hb1⟩
          refine ⟨_, rfl, ?_⟩
          refine hK.out _ _ ⟨z, (by rw [ha.out]; exact putSel_upk 7 hb_ rfl rfl rfl), fun _ => blk_below BK.out hb1, fun _ => below_step HW.out hb1, fun h0_ h1_ => Kd.R_below (Q_FZ h0_ h1_) hb1, fun h0_ => absurd ((hoff 17 (by kernel_rfl)).symm.trans h0_) (by decide)⟩
        refine steps_cons ?_ ?_
        · rintro b a w' ⟨z, ha, Q_BK, Q_HW, Q_FZ, Q_HX⟩ hb_ hon hoff
          refine ⟨_, rfl, fun K hK => ?_⟩
          have e5 : a.tmps[5]? = some (.pointer (some ⟨gd, 0, none⟩)) := by rw [ha]; exact (putSel_off rfl).trans rfl
          replace ha := Aside0.mk ha
          have BK := Aside0.mk (Q_BK (hoff 17 (by kernel_rfl)))
          have HW := Aside0.mk (Q_HW (hoff 17 (by kernel_rfl)))
          refine value_ (w1 := w') (v := .pointer (some ⟨gd, 0, none⟩)) (by rfl) rfl ?_ ?_
          · go_simp
            (try simp only [i64_w])
            try rfl
          refine hK.out _ _ ⟨z, (by rw [ha.out]; exact putSel_upk 8 hb_ rfl rfl rfl), Q_BK, Q_HW, fun h0_ _ => absurd ((hoff 14 (by kernel_rfl)).symm.trans h0_) (by decide), fun h0_ => absurd ((hoff 17 (by kernel_rfl)).symm.trans h0_) (by decide)⟩
        refine steps_cons ?_ ?_
        · rintro b a w' ⟨z, ha, Q_BK, Q_HW, Q_FZ, Q_HX⟩ hb_ hon hoff
          refine ⟨_, rfl, fun K hK => ?_⟩
          have e24 : a.tmps[24]? = some (.pointer (some ⟨gd, 0, none⟩)) := by rw [ha]; exact putSel_on (e := (8, 24, .pointer (some ⟨gd, 0, none⟩))) 8 rfl rfl (hon 8 (by kernel_rfl)) rfl
          replace ha := Aside0.mk ha
          have BK := Aside0.mk (Q_BK (hoff 17 (by kernel_rfl)))
          have HW := Aside0.mk (Q_HW (hoff 17 (by kernel_rfl)))
          have hc0_ : w'.cell? ⟨gd, 0, none⟩ = some (.string d0) := (blk_cell BK.out 0).trans rfl
          have hc1_ : w'.cell? ⟨gd, 1, none⟩ = some (.string d1) := (blk_cell BK.out 1).trans rfl
          have hc2_ : w'.cell? ⟨gd, 2, none⟩ = some (.string d2) := (blk_cell BK.out 2).trans rfl
          have hc3_ : w'.cell? ⟨gd, 3, none⟩ = some (.bool b3) := (blk_cell BK.out 3).trans rfl
          have hc4_ : w'.cell? ⟨gd, 4, none⟩ = some (.bool b4) := (blk_cell BK.out 4).trans rfl
          refine value_ (w1 := w') (v := .string d0) (by rfl) rfl ?_ ?_
          · go_simp
            (try simp only [i64_w])
            try rfl
          refine hK.out _ _ ⟨z, (by rw [ha.out]; exact putSel_upk 9 hb_ rfl rfl rfl), Q_BK, Q_HW, fun h0_ _ => absurd ((hoff 14 (by kernel_rfl)).symm.trans h0_) (by decide), fun h0_ => absurd ((hoff 17 (by kernel_rfl)).symm.trans h0_) (by decide)⟩
        refine steps_cons ?_ ?_
        · rintro b a w' ⟨z, ha, Q_BK, Q_HW, Q_FZ, Q_HX⟩ hb_ hon hoff
          refine ⟨_, rfl, fun K hK => ?_⟩
          have e5 : a.tmps[5]? = some (.pointer (some ⟨gd, 0, none⟩)) := by rw [ha]; exact (putSel_off rfl).trans rfl
          replace ha := Aside0.mk ha
          have BK := Aside0.mk (Q_BK (hoff 17 (by kernel_rfl)))
          have HW := Aside0.mk (Q_HW (hoff 17 (by kernel_rfl)))
          refine value_ (w1 := w') (v := .pointer (some ⟨gd, 1, none⟩)) (by rfl) rfl ?_ ?_
          · go_simp
            (try simp only [i64_w])
            try rfl
          refine hK.out _ _ ⟨z, (by rw [ha.out]; exact putSel_upk 10 hb_ rfl rfl rfl), Q_BK, Q_HW, fun h0_ _ => absurd ((hoff 14 (by kernel_rfl)).symm.trans h0_) (by decide), fun h0_ => absurd ((hoff 17 (by kernel_rfl)).symm.trans h0_) (by decide)⟩
        refine steps_cons ?_ ?_
        · rintro b a w' ⟨z, ha, Q_BK, Q_HW, Q_FZ, Q_HX⟩ hb_ hon hoff
          refine ⟨_, rfl, fun K hK => ?_⟩
          have e26 : a.tmps[26]? = some (.pointer (some ⟨gd, 1, none⟩)) := by rw [ha]; exact putSel_on (e := (10, 26, .pointer (some ⟨gd, 1, none⟩))) 10 rfl rfl (hon 10 (by kernel_rfl)) rfl
          replace ha := Aside0.mk ha
          have BK := Aside0.mk (Q_BK (hoff 17 (by kernel_rfl)))
          have HW := Aside0.mk (Q_HW (hoff 17 (by kernel_rfl)))
          have hc0_ : w'.cell? ⟨gd, 0, none⟩ = some (.string d0) := (blk_cell BK.out 0).trans rfl
          have hc1_ : w'.cell? ⟨gd, 1, none⟩ = some (.string d1) := (blk_cell BK.out 1).trans rfl
          have hc2_ : w'.cell? ⟨gd, 2, none⟩ = some (.string d2) := (blk_cell BK.out 2).trans rfl
          have hc3_ : w'.cell? ⟨gd, 3, none⟩ = some (.bool b3) := (blk_cell BK.out 3).trans rfl
          have hc4_ : w'.cell? ⟨gd, 4, none⟩ = some (.bool b4) := (blk_cell BK.out 4).trans rfl
          refine value_ (w1 := w') (v := .string d1) (by rfl) rfl ?_ ?_
          · go_simp
            (try simp only [i64_w])
            try rfl
          refine hK.out _ _ ⟨z, (by rw [ha.out]; exact putSel_upk 11 hb_ rfl rfl rfl), Q_BK, Q_HW, fun h0_ _ => absurd ((hoff 14 (by kernel_rfl)).symm.trans h0_) (by decide), fun h0_ => absurd ((hoff 17 (by kernel_rfl)).symm.trans h0_) (by decide)⟩
        refine steps_cons ?_ ?_
        · rintro b a w' ⟨z, ha, Q_BK, Q_HW, Q_FZ, Q_HX⟩ hb_ hon hoff
          refine ⟨_, rfl, fun K hK => ?_⟩
          have e5 : a.tmps[5]? = some (.pointer (some ⟨gd, 0, none⟩)) := by rw [ha]; exact (putSel_off rfl).trans rfl
          replace ha := Aside0.mk ha
          have BK := Aside0.mk (Q_BK (hoff 17 (by kernel_rfl)))
          have HW := Aside0.mk (Q_HW (hoff 17 (by kernel_rfl)))
          refine value_ (w1 := w') (v := .pointer (some ⟨gd, 2, none⟩)) (by rfl) rfl ?_ ?_
          · go_simp
            (try simp only [i64_w])
            try rfl
          refine hK.out _ _ ⟨z, (by rw [ha.out]; exact putSel_upk 12 hb_ rfl rfl rfl), Q_BK, Q_HW, fun h0_ _ => absurd ((hoff 14 (by kernel_rfl)).symm.trans h0_) (by decide), fun h0_ => absurd ((hoff 17 (by kernel_rfl)).symm.trans h0_) (by decide)⟩
        refine steps_cons ?_ ?_
        · rintro b a w' ⟨z, ha, Q_BK, Q_HW, Q_FZ, Q_HX⟩ hb_ hon hoff
          refine ⟨_, rfl, fun K hK => ?_⟩
          have e28 : a.tmps[28]? = some (.pointer (some ⟨gd, 2, none⟩)) := by rw [ha]; exact putSel_on (e := (12, 28, .pointer (some ⟨gd, 2, none⟩))) 12 rfl rfl (hon 12 (by kernel_rfl)) rfl
          replace ha := Aside0.mk ha
          have BK := Aside0.mk (Q_BK (hoff 17 (by kernel_rfl)))
          have HW := Aside0.mk (Q_HW (hoff 17 (by kernel_rfl)))
          have hc0_ : w'.cell? ⟨gd, 0, none⟩ = some (.string d0) := (blk_cell BK.out 0).trans rfl
          have hc1_ : w'.cell? ⟨gd, 1, none⟩ = some (.string d1) := (blk_cell BK.out 1).trans rfl
          have hc2_ : w'.cell? ⟨gd, 2, none⟩ = some (.string d2) := (blk_cell BK.out 2).trans rfl
          have hc3_ : w'.cell? ⟨gd, 3, none⟩ = some (.bool b3) := (blk_cell BK.out 3).trans rfl
          have hc4_ : w'.cell? ⟨gd, 4, none⟩ = some (.bool b4) := (blk_cell BK.out 4).trans rfl
          refine value_ (w1 := w') (v := .string d2) (by rfl) rfl ?_ ?_
          · go_simp
            (try simp only [i64_w])
            try rfl
          refine hK.out _ _ ⟨z, (by rw [ha.out]; exact putSel_upk 13 hb_ rfl rfl rfl), Q_BK, Q_HW, fun h0_ _ => absurd ((hoff 14 (by kernel_rfl)).symm.trans h0_) (by decide), fun h0_ => absurd ((hoff 17 (by kernel_rfl)).symm.trans h0_) (by decide)⟩
        refine steps_cons ?_ ?_
        · rintro b a w' ⟨z, ha, Q_BK, Q_HW, Q_FZ, Q_HX⟩ hb_ hon hoff
          refine ⟨_, rfl, fun K hK => ?_⟩
          have e25 : a.tmps[25]? = some (.string d0) := by rw [ha]; exact putSel_on (e := (9, 25, .string d0)) 9 rfl rfl (hon 9 (by kernel_rfl)) rfl
          have e27 : a.tmps[27]? = some (.string d1) := by rw [ha]; exact putSel_on (e := (11, 27, .string d1)) 11 rfl rfl (hon 11 (by kernel_rfl)) rfl
          have e29 : a.tmps[29]? = some (.string d2) := by rw [ha]; exact putSel_on (e := (13, 29, .string d2)) 13 rfl rfl (hon 13 (by kernel_rfl)) rfl
          replace ha := Aside0.mk ha
          have BK := Aside0.mk (Q_BK (hoff 17 (by kernel_rfl)))
          have HW := Aside0.mk (Q_HW (hoff 17 (by kernel_rfl)))
          refine Kd.R_lit_step Kd.string wr.heap.size 9 (by rfl) (N := 30) (by rfl) (xs := ([d0, d1, d2] : List ByteArray)) (inner := [.string d0, .string d1, .string d2]) (ok := fun _ => True) (okp := fun _ => True) ?hr ?hp (fun _ hk => hk) trivial HW.out HW.out.size (by simp) ?_
          case hr => first | (go_simp; done) | (go_simp; rfl)
          case hp => exact (Reps.one (show Kd.M Kd.string _ _ _ d0 [.string d0] from rfl) (Reps.one (show Kd.M Kd.string _ _ _ d1 [.string d1] from rfl) (Reps.one (show Kd.M Kd.string _ _ _ d2 [.string d2] from rfl) (Reps.none _ _))))
          intro z1 w1 hz hbz hgz hoz
          refine hK.out _ _ ⟨z1, (by rw [ha.out]; exact putSel_upk 14 hb_ rfl rfl rfl), fun _ => blk_grown BK.out hgz (by simp), fun _ => hbz, fun _ _ => hz, fun h0_ => absurd ((hoff 17 (by kernel_rfl)).symm.trans h0_) (by decide)⟩
        refine steps_cons ?_ ?_
        · rintro b a w' ⟨z, ha, Q_BK, Q_HW, Q_FZ, Q_HX⟩ hb_ hon hoff
          refine ⟨_, rfl, fun K hK => ?_⟩
          have e30 : a.tmps[30]? = some (z) := by rw [ha]; exact putSel_on (e := (14, 30, z)) 14 rfl rfl (hon 14 (by kernel_rfl)) rfl
          replace ha := Aside0.mk ha
          have BK := Aside0.mk (Q_BK (hoff 17 (by kernel_rfl)))
          have HW := Aside0.mk (Q_HW (hoff 17 (by kernel_rfl)))
          have FZ := Aside0.mk (Q_FZ (hon 14 (by kernel_rfl)) (hoff 17 (by kernel_rfl)))
          obtain ⟨A_, c_, ez_, hcz_, hCz_⟩ := Kd.R_reads FZ.out
          subst ez_
          refine goes_ Try.func84 (by kernel_rfl) rfl #[.slice A_ [d0, d1, d2].length c_] (by rfl) rfl rfl (by first | (simp only [List.map_toArray, List.map_cons, List.map_nil, Act.eval, Array.getD_eq_getD_getElem?, Option.getD_some, e30]; done) | (simp only [List.map_toArray, List.map_cons, List.map_nil, Act.eval, Array.getD_eq_getD_getElem?, Option.getD_some, e30]; rfl)) ?_
          refine (impl_fields.calls _ c_ [d0, d1, d2] _ _ hCz_ hcz_ F1.out).mono ?_
          rintro e_ w1 ⟨rfl, hb1⟩
          refine ⟨_, rfl, ?_⟩
          refine hK.out _ _ ⟨.slice A_ [d0, d1, d2].length c_, (by rw [ha.out]; exact putSel_upk 15 hb_ rfl rfl rfl), fun _ => blk_below BK.out hb1, fun _ => below_step HW.out hb1, fun _ _ => Kd.R_below FZ.out hb1, fun h0_ => absurd ((hoff 17 (by kernel_rfl)).symm.trans h0_) (by decide)⟩
        refine steps_cons ?_ ?_
        · rintro b a w' ⟨z, ha, Q_BK, Q_HW, Q_FZ, Q_HX⟩ hb_ hon hoff
          refine ⟨_, rfl, fun K hK => ?_⟩
          have e23 : a.tmps[23]? = some (.string n1) := by rw [ha]; exact putSel_on (e := (7, 23, .string n1)) 7 rfl rfl (hon 7 (by kernel_rfl)) rfl
          have e31 : a.tmps[31]? = some (.string ff) := by rw [ha]; exact putSel_on (e := (15, 31, .string ff)) 15 rfl rfl (hon 15 (by kernel_rfl)) rfl
          replace ha := Aside0.mk ha
          have BK := Aside0.mk (Q_BK (hoff 17 (by kernel_rfl)))
          have HW := Aside0.mk (Q_HW (hoff 17 (by kernel_rfl)))
          have FZ := Aside0.mk (Q_FZ (hon 14 (by kernel_rfl)) (hoff 17 (by kernel_rfl)))
          have hov_ := O1.out
          have hes_ := E1.out.symm
          refine value_ (w1 := w') (v := .string s1) (by rfl) rfl ?_ ?_
          · go_simp
            (try simp only [i64_w])
            try rfl
          refine hK.out _ _ ⟨z, (by rw [ha.out]; exact putSel_upk 16 hb_ rfl rfl rfl), Q_BK, Q_HW, Q_FZ, fun h0_ => absurd ((hoff 17 (by kernel_rfl)).symm.trans h0_) (by decide)⟩
        refine steps_cons ?_ ?_
        · rintro b a w' ⟨z, ha, Q_BK, Q_HW, Q_FZ, Q_HX⟩ hb_ hon hoff
          refine ⟨_, rfl, fun K hK => ?_⟩
          have e3 : a.tmps[3]? = some (.pointer (some ⟨w.heap.size, 0, none⟩)) := by rw [ha]; exact (putSel_off rfl).trans rfl
          have e32 : a.tmps[32]? = some (.string s1) := by rw [ha]; exact putSel_on (e := (16, 32, .string s1)) 16 rfl rfl (hon 16 (by kernel_rfl)) rfl
          replace ha := Aside0.mk ha
          have BK := Aside0.mk (Q_BK hb_)
          have HW := Aside0.mk (Q_HW hb_)
          have FZ := Aside0.mk (Q_FZ (hon 14 (by kernel_rfl)) hb_)
          refine goes_ Try.func83 (by kernel_rfl) rfl #[.pointer (some ⟨w.heap.size, 0, none⟩), .string s1] (by rfl) rfl rfl (by first | (simp only [List.map_toArray, List.map_cons, List.map_nil, Act.eval, Array.getD_eq_getD_getElem?, Option.getD_some, e3, e32]; done) | (simp only [List.map_toArray, List.map_cons, List.map_nil, Act.eval, Array.getD_eq_getD_getElem?, Option.getD_some, e3, e32]; rfl)) ?_
          refine (bld_WriteString w.heap.size w.heap.size _ s1 _ (isBuilder_below HI.out HW.out) HL.out (Nat.le_trans HBw.out.size HW.out.size)).mono ?_
          rintro e_ w1 ⟨rfl, hB3, hb3⟩
          refine ⟨_, rfl, ?_⟩
          refine hK.out _ _ ⟨z, (by rw [ha.out]; exact putSel_upk 17 hb_ rfl rfl rfl), fun h0_ => absurd ((up_self b 17).symm.trans h0_) (by decide), fun h0_ => absurd ((up_self b 17).symm.trans h0_) (by decide), fun _ h1_ => absurd ((up_self b 17).symm.trans h1_) (by decide), fun _ => ⟨HB4.out hB3 rfl, (HW.out.mono HBw.out.size).trans hb3⟩⟩
        exact steps_nil
      rintro b a w' hall ⟨z, ha, Q_BK, Q_HW, Q_FZ, Q_HX⟩
      clear BK HW
      have hb0_ := hall 0 (by kernel_rfl)
      have hb1_ := hall 1 (by kernel_rfl)
      have hb2_ := hall 2 (by kernel_rfl)
      have hb3_ := hall 3 (by kernel_rfl)
      have hb4_ := hall 4 (by kernel_rfl)
      have hb5_ := hall 5 (by kernel_rfl)
      have hb6_ := hall 6 (by kernel_rfl)
      have hb7_ := hall 7 (by kernel_rfl)
      have hb8_ := hall 8 (by kernel_rfl)
      have hb9_ := hall 9 (by kernel_rfl)
      have hb10_ := hall 10 (by kernel_rfl)
      have hb11_ := hall 11 (by kernel_rfl)
      have hb12_ := hall 12 (by kernel_rfl)
      have hb13_ := hall 13 (by kernel_rfl)
      have hb14_ := hall 14 (by kernel_rfl)
      have hb15_ := hall 15 (by kernel_rfl)
      have hb16_ := hall 16 (by kernel_rfl)
      have hb17_ := hall 17 (by kernel_rfl)
      subst ha
      simp only [putSel, hb0_, hb1_, hb2_, hb3_, hb4_, hb5_, hb6_, hb7_, hb8_, hb9_, hb10_, hb11_, hb12_, hb13_, hb14_, hb15_, hb16_, hb17_, if_true, Act.put, List.setIfInBounds_toArray, List.set_cons_zero, List.set_cons_succ]
      clear Q_BK
      clear Q_HW
      clear Q_FZ
      have HX := Aside0.mk (Q_HX hb17_)
      clear Q_HX
      clear hall hb0_ hb1_ hb2_ hb3_ hb4_ hb5_ hb6_ hb7_ hb8_ hb9_ hb10_ hb11_ hb12_ hb13_ hb14_ hb15_ hb16_ hb17_
      go_wp2_with fail
      exact ⟨⟨k + 1, by omega, rfl, ⟨HX.out.1⟩, ⟨HBw.out.trans HX.out.2⟩⟩, by simp [intOf]; omega⟩
    · have e : k = l.length := by omega
      have c1 : decide ((k : Int) < (l.length : Int)) = false := decide_eq_false (by omega)
      have e9 : l.take k = l := by rw [e, List.take_length]
      rw [e9] at HI
      go_wp2_with fail
      refine (bld_String w.heap.size w.heap.size _ _ HI.out HBw.out.size).mono ?_
      rintro e w2 ⟨rfl, hb2⟩
      go_wp2_with fail
      go_ret
      exact ⟨by first | rfl | simp [bodyT], HBw.out.trans hb2⟩
def bakLink.T1 : Bool × List (List Nat × List Nat) := (true, [([], []), ([0], [0]), ([1], [1]), ([2], [2]), ([3], [3]), ([], []), ([5], [5]), ([6], [6]), ([7], [7]), ([], []), ([9], [9]), ([10], [10]), ([11], [11]), ([8, 12], [8, 12]), ([13, 4], [13]), ([4, 14], [4, 14]), ([], []), ([16, 14], [16]), ([15, 17], [15, 17]), ([], []), ([19], [19]), ([20], [20]), ([21], [21]), ([22, 17], [22]), ([18, 23], [18, 23]), ([24, 23], [24]), ([25, 25, 0, 1, 2, 3, 4, 5, 6, 7, 8, 9, 10, 11, 12, 13, 14, 15, 16, 17, 18, 19, 20, 21, 22, 23, 24, 25], [25])])
def bakLink.B1 : List Nat := [0, 1, 3, 7, 15, 0, 32, 96, 224, 0, 512, 1536, 3584, 8160, 16383, 32767, 0, 98303, 262143, 0, 524288, 1572864, 3670016, 8093695, 16777215, 33554431, 67108863]
theorem bakLink.tab1 : rtab .any (opsOf Try.f101 1) = bakLink.T1 := by kernel_rfl
theorem bakLink.bits1 : waitsOk bakLink.T1.2 bakLink.B1 = true := by kernel_rfl
def linkT (fr tx : ByteArray) (chain : Int) (l : List S82) (sum : Int) : ByteArray := ((numF chain ++ fieldsT [fr, tx]) ++ bodyT l) ++ numF sum
set_option maxRecDepth 100000 in
set_option maxHeartbeats 8000000 in
theorem bak_link (g : Nat) (fr tx : ByteArray) (chain : Int) (A : Option Addr) (c : Nat) (l : List S82) (sum : Int) (w : World) (hb : w.heap[g]? = some (.cells #[.string fr, .string tx, .int .i64 chain, .slice A l.length c, .int .i64 sum] 48 (0, 0))) (hr : Kd.C k82 w A l.length l) (hc : l.length ≤ c) (hf : BakFits fr tx l) :
    Calls Try.prog 101 #[.pointer (some ⟨g, 0, none⟩)] w fun e w' => e = .returned (.int .i64 (sumOf32 (bytesOf (linkT fr tx chain l sum)))) ∧ Below w.heap.size w w' := by
  have hu := Try.underlying48
  obtain ⟨K1, hK1⟩ := inBytes_four chain
  have N1 := Aside0.mk (hK1 K1 (Nat.le_refl _))
  obtain ⟨K2, hK2⟩ := inBytes_four sum
  have N2 := Aside0.mk (hK2 K2 (Nat.le_refl _))
  have F1 := Aside0.mk (fields_two fr tx hf.1 hf.2.1)
  have z1 : (numF chain).size ≤ 4 := Nat.le_of_eq (numF_size _)
  have z2 : (fieldsT [fr, tx]).size ≤ 2005 := fieldsT_two fr tx hf.1 hf.2.1
  have z3 : (bodyT l).size ≤ 3008000 := by
    have := bodyFrom_size l ByteArray.empty hf.2.2.2
    have e0 : ByteArray.empty.size = 0 := rfl
    have := hf.2.2.1
    unfold bodyT
    omega
  have z4 : (numF sum).size ≤ 4 := Nat.le_of_eq (numF_size _)
  obtain ⟨s1, e1⟩ : ∃ s1, s1 = numF chain ++ fieldsT [fr, tx] := ⟨_, rfl⟩
  have y1 : s1.size ≤ 2009 := by rw [e1, ByteArray.size_append]; omega
  obtain ⟨s2, e2⟩ : ∃ s2, s2 = s1 ++ bodyT l := ⟨_, rfl⟩
  have y2 : s2.size ≤ 3010009 := by rw [e2, ByteArray.size_append]; omega
  obtain ⟨s3, e3⟩ : ∃ s3, s3 = s2 ++ numF sum := ⟨_, rfl⟩
  have y3 : s3.size ≤ 3010013 := by rw [e3, ByteArray.size_append]; omega
  have SM := Aside0.mk (show impl_sumOf.f s3 = some (sumOf32 (bytesOf s3)) from by unfold impl_sumOf.f; rw [if_pos (by omega)])
  have ES := Aside0.mk (show s3 = linkT fr tx chain l sum from by rw [e3, e2, e1]; rfl)
  have O1 := Aside0.mk (ovS z1 z2 (by omega))
  have O2 := Aside0.mk (ovS y1 z3 (by omega))
  have O3 := Aside0.mk (ovS y2 z4 (by omega))
  have BD := Aside0.mk (show bodyT l = bodyT l from rfl)
  have HF := Aside0.mk hf
  have HR := Aside0.mk hr
  have HC := Aside0.mk hc
  clear hK1 hK2 hf hr hc
  generalize hn1 : numF chain = n1 at N1 e1 O1 z1
  generalize hff : fieldsT [fr, tx] = ff at F1 e1 O1 z2
  generalize hn2 : numF sum = n2 at N2 e3 O3 z4
  generalize hbd : bodyT l = bd at e2 O2 z3
  generalize hsm : sumOf32 (bytesOf s3) = sm at SM
  have E1 := Aside0.mk e1
  have E2 := Aside0.mk e2
  have E3 := Aside0.mk e3
  have HBD := Aside0.mk hbd
  have HSM := Aside0.mk hsm
  clear e1 e2 e3 z1 z2 z3 z4 y1 y2 y3 hn1 hff hn2 hbd hsm
  have HB := Aside0.mk (below_drew (Below.refl w.heap.size w))
  have BK := Aside0.mk (blk_drew hb)
  clear hb
  go_enter Try.func101, Try.ntmps101
  go_wp2_with fail
  refine start_ (n := 27) (S := fun w' => True) (ds := []) #[false, false, false, false, false, false, false, false, false, false, false, false, false, false, false, false, false, false, false, false, false, false, false, false, false, false, false] (by kernel_rfl) rfl rfl trivial (fun hHeld => ?_)
  refine with_tabW bakLink.tab1 bakLink.bits1 (fun HT_ HW_ => ?_)
  generalize w.drew = wd at BK HB ⊢
  refine inv_at [0, 1, 2, 3, 4, 5, 6, 7, 8, 9, 10, 11, 12, 13, 14, 15, 16, 17, 18, 19, 20, 21, 22, 23, 24, 25, 26] (fun a0_ b a w' => ∃ (z : Value), a = putSel a0_ b [(0, 3, .pointer (some ⟨g, 0, none⟩)), (1, 4, .pointer (some ⟨g, 0, none⟩)), (2, 5, .pointer (some ⟨g, 2, none⟩)), (3, 6, .int .i64 chain), (4, 7, .string n1), (5, 8, .pointer (some ⟨g, 0, none⟩)), (6, 9, .pointer (some ⟨g, 0, none⟩)), (7, 10, .pointer (some ⟨g, 0, none⟩)), (8, 11, .string fr), (9, 12, .pointer (some ⟨g, 0, none⟩)), (10, 13, .pointer (some ⟨g, 0, none⟩)), (11, 14, .pointer (some ⟨g, 1, none⟩)), (12, 15, .string tx), (13, 16, z), (14, 17, .string ff), (15, 18, .string s1), (16, 19, .pointer (some ⟨g, 0, none⟩)), (17, 20, .string bd), (18, 21, .string s2), (19, 22, .pointer (some ⟨g, 0, none⟩)), (20, 23, .pointer (some ⟨g, 0, none⟩)), (21, 24, .pointer (some ⟨g, 4, none⟩)), (22, 25, .int .i64 sum), (23, 26, .string n2), (24, 27, .string s3), (25, 28, .int .i64 sm), (26, 2, .int .i64 sm)] ∧ (w'.heap[g]? = some (.cells #[.string fr, .string tx, .int .i64 chain, .slice A l.length c, .int .i64 sum] 48 (0, 0))) ∧ (Below w.heap.size w w') ∧ (b 13 = true → Kd.R Kd.string 9 w' w.heap.size (fun _ => True) z [fr, tx])) HT_.out HW_.out (by kernel_rfl) (by kernel_rfl) ?_ ?_ ?_
  · exact ⟨.bool false, by simp only [putSel, Bool.false_eq_true, if_false], BK.out, HB.out, fun h_ => absurd h_ (by decide)⟩
  · skip
    clear BK HB
    refine steps_cons ?_ ?_
    · rintro b a w' ⟨z, ha, Q_BK, Q_HB, Q_FZ⟩ hb_ hon hoff
      refine ⟨_, rfl, fun K hK => ?_⟩
      have e0 : a.tmps[0]? = some (.pointer (some ⟨g, 0, none⟩)) := by rw [ha]; exact (putSel_off rfl).trans rfl
      replace ha := Aside0.mk ha
      have BK := Aside0.mk Q_BK
      have HB := Aside0.mk Q_HB
      refine value_ (w1 := w') (v := .pointer (some ⟨g, 0, none⟩)) (by rfl) rfl ?_ ?_
      · go_simp
        (try simp only [i64_w])
        try rfl
      refine hK.out _ _ ⟨z, (by rw [ha.out]; exact putSel_upk 0 hb_ rfl rfl rfl), Q_BK, Q_HB, Q_FZ⟩
    refine steps_cons ?_ ?_
    · rintro b a w' ⟨z, ha, Q_BK, Q_HB, Q_FZ⟩ hb_ hon hoff
      refine ⟨_, rfl, fun K hK => ?_⟩
      have e3 : a.tmps[3]? = some (.pointer (some ⟨g, 0, none⟩)) := by rw [ha]; exact putSel_on (e := (0, 3, .pointer (some ⟨g, 0, none⟩))) 0 rfl rfl (hon 0 (by kernel_rfl)) rfl
      replace ha := Aside0.mk ha
      have BK := Aside0.mk Q_BK
      have HB := Aside0.mk Q_HB
      refine value_ (w1 := w') (v := .pointer (some ⟨g, 0, none⟩)) (by rfl) rfl ?_ ?_
      · go_simp
        (try simp only [i64_w])
        try rfl
      refine hK.out _ _ ⟨z, (by rw [ha.out]; exact putSel_upk 1 hb_ rfl rfl rfl), Q_BK, Q_HB, Q_FZ⟩
    refine steps_cons ?_ ?_
    · rintro b a w' ⟨z, ha, Q_BK, Q_HB, Q_FZ⟩ hb_ hon hoff
      refine ⟨_, rfl, fun K hK => ?_⟩
      have e4 : a.tmps[4]? = some (.pointer (some ⟨g, 0, none⟩)) := by rw [ha]; exact putSel_on (e := (1, 4, .pointer (some ⟨g, 0, none⟩))) 1 rfl rfl (hon 1 (by kernel_rfl)) rfl
      replace ha := Aside0.mk ha
      have BK := Aside0.mk Q_BK
      have HB := Aside0.mk Q_HB
      refine value_ (w1 := w') (v := .pointer (some ⟨g, 2, none⟩)) (by rfl) rfl ?_ ?_
      · go_simp
        (try simp only [i64_w])
        try rfl
      refine hK.out _ _ ⟨z, (by rw [ha.out]; exact putSel_upk 2 hb_ rfl rfl rfl), Q_BK, Q_HB, Q_FZ⟩
    refine steps_cons ?_ ?_
    · rintro b a w' ⟨z, ha, Q_BK, Q_HB, Q_FZ⟩ hb_ hon hoff
      refine ⟨_, rfl, fun K hK => ?_⟩
      have e5 : a.tmps[5]? = some (.pointer (some ⟨g, 2, none⟩)) := by rw [ha]; exact putSel_on (e := (2, 5, .pointer (some ⟨g, 2, none⟩))) 2 rfl rfl (hon 2 (by kernel_rfl)) rfl
      replace ha := Aside0.mk ha
      have BK := Aside0.mk Q_BK
      have HB := Aside0.mk Q_HB
      have hc0_ : w'.cell? ⟨g, 0, none⟩ = some (.string fr) := (blk_cell BK.out 0).trans rfl
      have hc1_ : w'.cell? ⟨g, 1, none⟩ = some (.string tx) := (blk_cell BK.out 1).trans rfl
      have hc2_ : w'.cell? ⟨g, 2, none⟩ = some (.int .i64 chain) := (blk_cell BK.out 2).trans rfl
      have hc3_ : w'.cell? ⟨g, 3, none⟩ = some (.slice A l.length c) := (blk_cell BK.out 3).trans rfl
      have hc4_ : w'.cell? ⟨g, 4, none⟩ = some (.int .i64 sum) := (blk_cell BK.out 4).trans rfl
      refine value_ (w1 := w') (v := .int .i64 chain) (by rfl) rfl ?_ ?_
      · go_simp
        (try simp only [i64_w])
        try rfl
      refine hK.out _ _ ⟨z, (by rw [ha.out]; exact putSel_upk 3 hb_ rfl rfl rfl), Q_BK, Q_HB, Q_FZ⟩
    refine steps_cons ?_ ?_
    · rintro b a w' ⟨z, ha, Q_BK, Q_HB, Q_FZ⟩ hb_ hon hoff
      refine ⟨_, rfl, fun K hK => ?_⟩
      have e6 : a.tmps[6]? = some (.int .i64 chain) := by rw [ha]; exact putSel_on (e := (3, 6, .int .i64 chain)) 3 rfl rfl (hon 3 (by kernel_rfl)) rfl
      replace ha := Aside0.mk ha
      have BK := Aside0.mk Q_BK
      have HB := Aside0.mk Q_HB
      refine goes_ Try.func99 (by kernel_rfl) rfl #[.int .i64 chain, .int .i64 4] (by rfl) rfl rfl (by first | (simp only [List.map_toArray, List.map_cons, List.map_nil, Act.eval, Array.getD_eq_getD_getElem?, Option.getD_some, e6]; done) | (simp only [List.map_toArray, List.map_cons, List.map_nil, Act.eval, Array.getD_eq_getD_getElem?, Option.getD_some, e6]; rfl)) ?_
      refine (impl_inBytes.calls K1 _ _ _ _ N1.out).mono ?_
      rintro e_ w1 ⟨rfl, hb1⟩
      refine ⟨_, rfl, ?_⟩
      refine hK.out _ _ ⟨z, (by rw [ha.out]; exact putSel_upk 4 hb_ rfl rfl rfl), blk_below BK.out hb1, below_step HB.out hb1, fun h0_ => Kd.R_below (Q_FZ h0_) hb1⟩
    refine steps_cons ?_ ?_
    · rintro b a w' ⟨z, ha, Q_BK, Q_HB, Q_FZ⟩ hb_ hon hoff
      refine ⟨_, rfl, fun K hK => ?_⟩
      have e0 : a.tmps[0]? = some (.pointer (some ⟨g, 0, none⟩)) := by rw [ha]; exact (putSel_off rfl).trans rfl
      replace ha := Aside0.mk ha
      have BK := Aside0.mk Q_BK
      have HB := Aside0.mk Q_HB
      refine value_ (w1 := w') (v := .pointer (some ⟨g, 0, none⟩)) (by rfl) rfl ?_ ?_
      · go_simp
        (try simp only [i64_w])
        try rfl
      refine hK.out _ _ ⟨z, (by rw [ha.out]; exact putSel_upk 5 hb_ rfl rfl rfl), Q_BK, Q_HB, fun h0_ => absurd ((hoff 13 (by kernel_rfl)).symm.trans h0_) (by decide)⟩
    refine steps_cons ?_ ?_
    · rintro b a w' ⟨z, ha, Q_BK, Q_HB, Q_FZ⟩ hb_ hon hoff
      refine ⟨_, rfl, fun K hK => ?_⟩
      have e8 : a.tmps[8]? = some (.pointer (some ⟨g, 0, none⟩)) := by rw [ha]; exact putSel_on (e := (5, 8, .pointer (some ⟨g, 0, none⟩))) 5 rfl rfl (hon 5 (by kernel_rfl)) rfl
      replace ha := Aside0.mk ha
      have BK := Aside0.mk Q_BK
      have HB := Aside0.mk Q_HB
      refine value_ (w1 := w') (v := .pointer (some ⟨g, 0, none⟩)) (by rfl) rfl ?_ ?_
      · go_simp
        (try simp only [i64_w])
        try rfl
      refine hK.out _ _ ⟨z, (by rw [ha.out]; exact putSel_upk 6 hb_ rfl rfl rfl), Q_BK, Q_HB, fun h0_ => absurd ((hoff 13 (by kernel_rfl)).symm.trans h0_) (by decide)⟩
    refine steps_cons ?_ ?_
    · rintro b a w' ⟨z, ha, Q_BK, Q_HB, Q_FZ⟩ hb_ hon hoff
      refine ⟨_, rfl, fun K hK => ?_⟩
      have e9 : a.tmps[9]? = some (.pointer (some ⟨g, 0, none⟩)) := by rw [ha]; exact putSel_on (e := (6, 9, .pointer (some ⟨g, 0, none⟩))) 6 rfl rfl (hon 6 (by kernel_rfl)) rfl
      replace ha := Aside0.mk ha
      have BK := Aside0.mk Q_BK
      have HB := Aside0.mk Q_HB
      refine value_ (w1 := w') (v := .pointer (some ⟨g, 0, none⟩)) (by rfl) rfl ?_ ?_
      · go_simp
        (try simp only [i64_w])
        try rfl
      refine hK.out _ _ ⟨z, (by rw [ha.out]; exact putSel_upk 7 hb_ rfl rfl rfl), Q_BK, Q_HB, fun h0_ => absurd ((hoff 13 (by kernel_rfl)).symm.trans h0_) (by decide)⟩
    refine steps_cons ?_ ?_
    · rintro b a w' ⟨z, ha, Q_BK, Q_HB, Q_FZ⟩ hb_ hon hoff
      refine ⟨_, rfl, fun K hK => ?_⟩
      have e10 : a.tmps[10]? = some (.pointer (some ⟨g, 0, none⟩)) := by rw [ha]; exact putSel_on (e := (7, 10, .pointer (some ⟨g, 0, none⟩))) 7 rfl rfl (hon 7 (by kernel_rfl)) rfl
      replace ha := Aside0.mk ha
      have BK := Aside0.mk Q_BK
      have HB := Aside0.mk Q_HB
      have hc0_ : w'.cell? ⟨g, 0, none⟩ = some (.string fr) := (blk_cell BK.out 0).trans rfl
      have hc1_ : w'.cell? ⟨g, 1, none⟩ = some (.string tx) := (blk_cell BK.out 1).trans rfl
      have hc2_ : w'.cell? ⟨g, 2, none⟩ = some (.int .i64 chain) := (blk_cell BK.out 2).trans rfl
      have hc3_ : w'.cell? ⟨g, 3, none⟩ = some (.slice A l.length c) := (blk_cell BK.out 3).trans rfl
      have hc4_ : w'.cell? ⟨g, 4, none⟩ = some (.int .i64 sum) := (blk_cell BK.out 4).trans rfl
      refine value_ (w1 := w') (v := .string fr) (by rfl) rfl ?_ ?_
      · go_simp
        (try simp only [i64_w])
        try rfl
      refine hK.out _ _ ⟨z, (by rw [ha.out]; exact putSel_upk 8 hb_ rfl rfl rfl), Q_BK, Q_HB, fun h0_ => absurd ((hoff 13 (by kernel_rfl)).symm.trans h0_) (by decide)⟩
    refine steps_cons ?_ ?_
    · rintro b a w' ⟨z, ha, Q_BK, Q_HB, Q_FZ⟩ hb_ hon hoff
      refine ⟨_, rfl, fun K hK => ?_⟩
      have e0 : a.tmps[0]? = some (.pointer (some ⟨g, 0, none⟩)) := by rw [ha]; exact (putSel_off rfl).trans rfl
      replace ha := Aside0.mk ha
      have BK := Aside0.mk Q_BK
      have HB := Aside0.mk Q_HB
      refine value_ (w1 := w') (v := .pointer (some ⟨g, 0, none⟩)) (by rfl) rfl ?_ ?_
      · go_simp
        (try simp only [i64_w])
        try rfl
      refine hK.out _ _ ⟨z, (by rw [ha.out]; exact putSel_upk 9 hb_ rfl rfl rfl), Q_BK, Q_HB, fun h0_ => absurd ((hoff 13 (by kernel_rfl)).symm.trans h0_) (by decide)⟩
    refine steps_cons ?_ ?_
    · rintro b a w' ⟨z, ha, Q_BK, Q_HB, Q_FZ⟩ hb_ hon hoff
      refine ⟨_, rfl, fun K hK => ?_⟩
      have e12 : a.tmps[12]? = some (.pointer (some ⟨g, 0, none⟩)) := by rw [ha]; exact putSel_on (e := (9, 12, .pointer (some ⟨g, 0, none⟩))) 9 rfl rfl (hon 9 (by kernel_rfl)) rfl
      replace ha := Aside0.mk ha
      have BK := Aside0.mk Q_BK
      have HB := Aside0.mk Q_HB
      refine value_ (w1 := w') (v := .pointer (some ⟨g, 0, none⟩)) (by rfl) rfl ?_ ?_
      · go_simp
        (try simp only [i64_w])
        try rfl
      refine hK.out _ _ ⟨z, (by rw [ha.out]; exact putSel_upk 10 hb_ rfl rfl rfl), Q_BK, Q_HB, fun h0_ => absurd ((hoff 13 (by kernel_rfl)).symm.trans h0_) (by decide)⟩
    refine steps_cons ?_ ?_
    · rintro b a w' ⟨z, ha, Q_BK, Q_HB, Q_FZ⟩ hb_ hon hoff
      refine ⟨_, rfl, fun K hK => ?_⟩
      have e13 : a.tmps[13]? = some (.pointer (some ⟨g, 0, none⟩)) := by rw [ha]; exact putSel_on (e := (10, 13, .pointer (some ⟨g, 0, none⟩))) 10 rfl rfl (hon 10 (by kernel_rfl)) rfl
      replace ha := Aside0.mk ha
      have BK := Aside0.mk Q_BK
      have HB := Aside0.mk Q_HB
      refine value_ (w1 := w') (v := .pointer (some ⟨g, 1, none⟩)) (by rfl) rfl ?_ ?_
      · go_simp
        (try simp only [i64_w])
        try rfl
      refine hK.out _ _ ⟨z, (by rw [ha.out]; exact putSel_upk 11 hb_ rfl rfl rfl), Q_BK, Q_HB, fun h0_ => absurd ((hoff 13 (by kernel_rfl)).symm.trans h0_) (by decide)⟩
    refine steps_cons ?_ ?_
    · rintro b a w' ⟨z, ha, Q_BK, Q_HB, Q_FZ⟩ hb_ hon hoff
      refine ⟨_, rfl, fun K hK => ?_⟩
      have e14 : a.tmps[14]? = some (.pointer (some ⟨g, 1, none⟩)) := by rw [ha]; exact putSel_on (e := (11, 14, .pointer (some ⟨g, 1, none⟩))) 11 rfl rfl (hon 11 (by kernel_rfl)) rfl
      replace ha := Aside0.mk ha
      have BK := Aside0.mk Q_BK
      have HB := Aside0.mk Q_HB
      have hc0_ : w'.cell? ⟨g, 0, none⟩ = some (.string fr) := (blk_cell BK.out 0).trans rfl
      have hc1_ : w'.cell? ⟨g, 1, none⟩ = some (.string tx) := (blk_cell BK.out 1).trans rfl
      have hc2_ : w'.cell? ⟨g, 2, none⟩ = some (.int .i64 chain) := (blk_cell BK.out 2).trans rfl
      have hc3_ : w'.cell? ⟨g, 3, none⟩ = some (.slice A l.length c) := (blk_cell BK.out 3).trans rfl
      have hc4_ : w'.cell? ⟨g, 4, none⟩ = some (.int .i64 sum) := (blk_cell BK.out 4).trans rfl
      refine value_ (w1 := w') (v := .string tx) (by rfl) rfl ?_ ?_
      · go_simp
        (try simp only [i64_w])
        try rfl
      refine hK.out _ _ ⟨z, (by rw [ha.out]; exact putSel_upk 12 hb_ rfl rfl rfl), Q_BK, Q_HB, fun h0_ => absurd ((hoff 13 (by kernel_rfl)).symm.trans h0_) (by decide)⟩
    refine steps_cons ?_ ?_
    · rintro b a w' ⟨z, ha, Q_BK, Q_HB, Q_FZ⟩ hb_ hon hoff
      refine ⟨_, rfl, fun K hK => ?_⟩
      have e11 : a.tmps[11]? = some (.string fr) := by rw [ha]; exact putSel_on (e := (8, 11, .string fr)) 8 rfl rfl (hon 8 (by kernel_rfl)) rfl
      have e15 : a.tmps[15]? = some (.string tx) := by rw [ha]; exact putSel_on (e := (12, 15, .string tx)) 12 rfl rfl (hon 12 (by kernel_rfl)) rfl
      replace ha := Aside0.mk ha
      have BK := Aside0.mk Q_BK
      have HB := Aside0.mk Q_HB
      refine Kd.R_lit_step Kd.string w.heap.size 9 (by rfl) (N := 16) (by rfl) (xs := ([fr, tx] : List ByteArray)) (inner := [.string fr, .string tx]) (ok := fun _ => True) (okp := fun _ => True) ?hr ?hp (fun _ hk => hk) trivial HB.out HB.out.size (by simp) ?_
      case hr => first | (go_simp; done) | (go_simp; rfl)
      case hp => exact (Reps.one (show Kd.M Kd.string _ _ _ fr [.string fr] from rfl) (Reps.one (show Kd.M Kd.string _ _ _ tx [.string tx] from rfl) (Reps.none _ _)))
      intro z1 w1 hz hbz hgz hoz
      refine hK.out _ _ ⟨z1, (by rw [ha.out]; exact putSel_upk 13 hb_ rfl rfl rfl), blk_grown BK.out hgz (by simp), hbz, fun _ => hz⟩
    refine steps_cons ?_ ?_
    · rintro b a w' ⟨z, ha, Q_BK, Q_HB, Q_FZ⟩ hb_ hon hoff
      refine ⟨_, rfl, fun K hK => ?_⟩
      have e16 : a.tmps[16]? = some (z) := by rw [ha]; exact putSel_on (e := (13, 16, z)) 13 rfl rfl (hon 13 (by kernel_rfl)) rfl
      replace ha := Aside0.mk ha
      have BK := Aside0.mk Q_BK
      have HB := Aside0.mk Q_HB
      have FZ := Aside0.mk (Q_FZ (hon 13 (by kernel_rfl)))
      obtain ⟨A_, c_, ez_, hcz_, hCz_⟩ := Kd.R_reads FZ.out
      subst ez_
      refine goes_ Try.func84 (by kernel_rfl) rfl #[.slice A_ [fr, tx].length c_] (by rfl) rfl rfl (by first | (simp only [List.map_toArray, List.map_cons, List.map_nil, Act.eval, Array.getD_eq_getD_getElem?, Option.getD_some, e16]; done) | (simp only [List.map_toArray, List.map_cons, List.map_nil, Act.eval, Array.getD_eq_getD_getElem?, Option.getD_some, e16]; rfl)) ?_
      refine (impl_fields.calls _ c_ [fr, tx] _ _ hCz_ hcz_ F1.out).mono ?_
      rintro e_ w1 ⟨rfl, hb1⟩
      refine ⟨_, rfl, ?_⟩
      refine hK.out _ _ ⟨.slice A_ [fr, tx].length c_, (by rw [ha.out]; exact putSel_upk 14 hb_ rfl rfl rfl), blk_below BK.out hb1, below_step HB.out hb1, fun _ => Kd.R_below FZ.out hb1⟩
    refine steps_cons ?_ ?_
    · rintro b a w' ⟨z, ha, Q_BK, Q_HB, Q_FZ⟩ hb_ hon hoff
      refine ⟨_, rfl, fun K hK => ?_⟩
      have e7 : a.tmps[7]? = some (.string n1) := by rw [ha]; exact putSel_on (e := (4, 7, .string n1)) 4 rfl rfl (hon 4 (by kernel_rfl)) rfl
      have e17 : a.tmps[17]? = some (.string ff) := by rw [ha]; exact putSel_on (e := (14, 17, .string ff)) 14 rfl rfl (hon 14 (by kernel_rfl)) rfl
      replace ha := Aside0.mk ha
      have BK := Aside0.mk Q_BK
      have HB := Aside0.mk Q_HB
      have FZ := Aside0.mk (Q_FZ (hon 13 (by kernel_rfl)))
      have hov_ := O1.out
      have hes_ := (E1.out).symm
      refine value_ (w1 := w') (v := .string s1) (by rfl) rfl ?_ ?_
      · go_simp
        (try simp only [i64_w])
        try rfl
      refine hK.out _ _ ⟨z, (by rw [ha.out]; exact putSel_upk 15 hb_ rfl rfl rfl), Q_BK, Q_HB, Q_FZ⟩
    refine steps_cons ?_ ?_
    · rintro b a w' ⟨z, ha, Q_BK, Q_HB, Q_FZ⟩ hb_ hon hoff
      refine ⟨_, rfl, fun K hK => ?_⟩
      have e0 : a.tmps[0]? = some (.pointer (some ⟨g, 0, none⟩)) := by rw [ha]; exact (putSel_off rfl).trans rfl
      replace ha := Aside0.mk ha
      have BK := Aside0.mk Q_BK
      have HB := Aside0.mk Q_HB
      refine value_ (w1 := w') (v := .pointer (some ⟨g, 0, none⟩)) (by rfl) rfl ?_ ?_
      · go_simp
        (try simp only [i64_w])
        try rfl
      refine hK.out _ _ ⟨z, (by rw [ha.out]; exact putSel_upk 16 hb_ rfl rfl rfl), Q_BK, Q_HB, Q_FZ⟩
    refine steps_cons ?_ ?_
    · rintro b a w' ⟨z, ha, Q_BK, Q_HB, Q_FZ⟩ hb_ hon hoff
      refine ⟨_, rfl, fun K hK => ?_⟩
      have e19 : a.tmps[19]? = some (.pointer (some ⟨g, 0, none⟩)) := by rw [ha]; exact putSel_on (e := (16, 19, .pointer (some ⟨g, 0, none⟩))) 16 rfl rfl (hon 16 (by kernel_rfl)) rfl
      replace ha := Aside0.mk ha
      have BK := Aside0.mk Q_BK
      have HB := Aside0.mk Q_HB
      have FZ := Aside0.mk (Q_FZ (hon 13 (by kernel_rfl)))
      refine goes_ Try.func100 (by kernel_rfl) rfl #[.pointer (some ⟨g, 0, none⟩)] (by rfl) rfl rfl (by first | (simp only [List.map_toArray, List.map_cons, List.map_nil, Act.eval, Array.getD_eq_getD_getElem?, Option.getD_some, e19]; done) | (simp only [List.map_toArray, List.map_cons, List.map_nil, Act.eval, Array.getD_eq_getD_getElem?, Option.getD_some, e19]; rfl)) ?_
      refine ((bak_body (g := g) (fr := fr) (tx := tx) (chain := chain) (A := A) (c := c) (l := l) (sum := sum) (w := w') (hb := BK.out) (hr := Kd.C_below HR.out HB.out) (hc := HC.out) (hf := HF.out))).mono ?_
      rintro e_ w1 ⟨he_, hb1⟩
      rw [HBD.out] at he_
      subst he_
      refine ⟨_, rfl, ?_⟩
      refine hK.out _ _ ⟨z, (by rw [ha.out]; exact putSel_upk 17 hb_ rfl rfl rfl), blk_below BK.out hb1, below_step HB.out hb1, fun _ => Kd.R_below FZ.out hb1⟩
    refine steps_cons ?_ ?_
    · rintro b a w' ⟨z, ha, Q_BK, Q_HB, Q_FZ⟩ hb_ hon hoff
      refine ⟨_, rfl, fun K hK => ?_⟩
      have e18 : a.tmps[18]? = some (.string s1) := by rw [ha]; exact putSel_on (e := (15, 18, .string s1)) 15 rfl rfl (hon 15 (by kernel_rfl)) rfl
      have e20 : a.tmps[20]? = some (.string bd) := by rw [ha]; exact putSel_on (e := (17, 20, .string bd)) 17 rfl rfl (hon 17 (by kernel_rfl)) rfl
      replace ha := Aside0.mk ha
      have BK := Aside0.mk Q_BK
      have HB := Aside0.mk Q_HB
      have FZ := Aside0.mk (Q_FZ (hon 13 (by kernel_rfl)))
      have hov_ := O2.out
      have hes_ := (E2.out).symm
      refine value_ (w1 := w') (v := .string s2) (by rfl) rfl ?_ ?_
      · go_simp
        (try simp only [i64_w])
        try rfl
      refine hK.out _ _ ⟨z, (by rw [ha.out]; exact putSel_upk 18 hb_ rfl rfl rfl), Q_BK, Q_HB, Q_FZ⟩
    refine steps_cons ?_ ?_
    · rintro b a w' ⟨z, ha, Q_BK, Q_HB, Q_FZ⟩ hb_ hon hoff
      refine ⟨_, rfl, fun K hK => ?_⟩
      have e0 : a.tmps[0]? = some (.pointer (some ⟨g, 0, none⟩)) := by rw [ha]; exact (putSel_off rfl).trans rfl
      replace ha := Aside0.mk ha
      have BK := Aside0.mk Q_BK
      have HB := Aside0.mk Q_HB
      refine value_ (w1 := w') (v := .pointer (some ⟨g, 0, none⟩)) (by rfl) rfl ?_ ?_
      · go_simp
        (try simp only [i64_w])
        try rfl
      refine hK.out _ _ ⟨z, (by rw [ha.out]; exact putSel_upk 19 hb_ rfl rfl rfl), Q_BK, Q_HB, Q_FZ⟩
    refine steps_cons ?_ ?_
    · rintro b a w' ⟨z, ha, Q_BK, Q_HB, Q_FZ⟩ hb_ hon hoff
      refine ⟨_, rfl, fun K hK => ?_⟩
      have e22 : a.tmps[22]? = some (.pointer (some ⟨g, 0, none⟩)) := by rw [ha]; exact putSel_on (e := (19, 22, .pointer (some ⟨g, 0, none⟩))) 19 rfl rfl (hon 19 (by kernel_rfl)) rfl
      replace ha := Aside0.mk ha
      have BK := Aside0.mk Q_BK
      have HB := Aside0.mk Q_HB
      refine value_ (w1 := w') (v := .pointer (some ⟨g, 0, none⟩)) (by rfl) rfl ?_ ?_
      · go_simp
        (try simp only [i64_w])
        try rfl
      refine hK.out _ _ ⟨z, (by rw [ha.out]; exact putSel_upk 20 hb_ rfl rfl rfl), Q_BK, Q_HB, Q_FZ⟩
    refine steps_cons ?_ ?_
    · rintro b a w' ⟨z, ha, Q_BK, Q_HB, Q_FZ⟩ hb_ hon hoff
      refine ⟨_, rfl, fun K hK => ?_⟩
      have e23 : a.tmps[23]? = some (.pointer (some ⟨g, 0, none⟩)) := by rw [ha]; exact putSel_on (e := (20, 23, .pointer (some ⟨g, 0, none⟩))) 20 rfl rfl (hon 20 (by kernel_rfl)) rfl
      replace ha := Aside0.mk ha
      have BK := Aside0.mk Q_BK
      have HB := Aside0.mk Q_HB
      refine value_ (w1 := w') (v := .pointer (some ⟨g, 4, none⟩)) (by rfl) rfl ?_ ?_
      · go_simp
        (try simp only [i64_w])
        try rfl
      refine hK.out _ _ ⟨z, (by rw [ha.out]; exact putSel_upk 21 hb_ rfl rfl rfl), Q_BK, Q_HB, Q_FZ⟩
    refine steps_cons ?_ ?_
    · rintro b a w' ⟨z, ha, Q_BK, Q_HB, Q_FZ⟩ hb_ hon hoff
      refine ⟨_, rfl, fun K hK => ?_⟩
      have e24 : a.tmps[24]? = some (.pointer (some ⟨g, 4, none⟩)) := by rw [ha]; exact putSel_on (e := (21, 24, .pointer (some ⟨g, 4, none⟩))) 21 rfl rfl (hon 21 (by kernel_rfl)) rfl
      replace ha := Aside0.mk ha
      have BK := Aside0.mk Q_BK
      have HB := Aside0.mk Q_HB
      have hc0_ : w'.cell? ⟨g, 0, none⟩ = some (.string fr) := (blk_cell BK.out 0).trans rfl
      have hc1_ : w'.cell? ⟨g, 1, none⟩ = some (.string tx) := (blk_cell BK.out 1).trans rfl
      have hc2_ : w'.cell? ⟨g, 2, none⟩ = some (.int .i64 chain) := (blk_cell BK.out 2).trans rfl
      have hc3_ : w'.cell? ⟨g, 3, none⟩ = some (.slice A l.length c) := (blk_cell BK.out 3).trans rfl
      have hc4_ : w'.cell? ⟨g, 4, none⟩ = some (.int .i64 sum) := (blk_cell BK.out 4).trans rfl
      refine value_ (w1 := w') (v := .int .i64 sum) (by rfl) rfl ?_ ?_
      · go_simp
        (try simp only [i64_w])
        try rfl
      refine hK.out _ _ ⟨z, (by rw [ha.out]; exact putSel_upk 22 hb_ rfl rfl rfl), Q_BK, Q_HB, Q_FZ⟩
    refine steps_cons ?_ ?_
    · rintro b a w' ⟨z, ha, Q_BK, Q_HB, Q_FZ⟩ hb_ hon hoff
      refine ⟨_, rfl, fun K hK => ?_⟩
      have e25 : a.tmps[25]? = some (.int .i64 sum) := by rw [ha]; exact putSel_on (e := (22, 25, .int .i64 sum)) 22 rfl rfl (hon 22 (by kernel_rfl)) rfl
      replace ha := Aside0.mk ha
      have BK := Aside0.mk Q_BK
      have HB := Aside0.mk Q_HB
      have FZ := Aside0.mk (Q_FZ (hon 13 (by kernel_rfl)))
      refine goes_ Try.func99 (by kernel_rfl) rfl #[.int .i64 sum, .int .i64 4] (by rfl) rfl rfl (by first | (simp only [List.map_toArray, List.map_cons, List.map_nil, Act.eval, Array.getD_eq_getD_getElem?, Option.getD_some, e25]; done) | (simp only [List.map_toArray, List.map_cons, List.map_nil, Act.eval, Array.getD_eq_getD_getElem?, Option.getD_some, e25]; rfl)) ?_
      refine (impl_inBytes.calls K2 _ _ _ _ N2.out).mono ?_
      rintro e_ w1 ⟨rfl, hb1⟩
      refine ⟨_, rfl, ?_⟩
      refine hK.out _ _ ⟨z, (by rw [ha.out]; exact putSel_upk 23 hb_ rfl rfl rfl), blk_below BK.out hb1, below_step HB.out hb1, fun _ => Kd.R_below FZ.out hb1⟩
    refine steps_cons ?_ ?_
    · rintro b a w' ⟨z, ha, Q_BK, Q_HB, Q_FZ⟩ hb_ hon hoff
      refine ⟨_, rfl, fun K hK => ?_⟩
      have e21 : a.tmps[21]? = some (.string s2) := by rw [ha]; exact putSel_on (e := (18, 21, .string s2)) 18 rfl rfl (hon 18 (by kernel_rfl)) rfl
      have e26 : a.tmps[26]? = some (.string n2) := by rw [ha]; exact putSel_on (e := (23, 26, .string n2)) 23 rfl rfl (hon 23 (by kernel_rfl)) rfl
      replace ha := Aside0.mk ha
      have BK := Aside0.mk Q_BK
      have HB := Aside0.mk Q_HB
      have FZ := Aside0.mk (Q_FZ (hon 13 (by kernel_rfl)))
      have hov_ := O3.out
      have hes_ := (E3.out).symm
      refine value_ (w1 := w') (v := .string s3) (by rfl) rfl ?_ ?_
      · go_simp
        (try simp only [i64_w])
        try rfl
      refine hK.out _ _ ⟨z, (by rw [ha.out]; exact putSel_upk 24 hb_ rfl rfl rfl), Q_BK, Q_HB, Q_FZ⟩
    refine steps_cons ?_ ?_
    · rintro b a w' ⟨z, ha, Q_BK, Q_HB, Q_FZ⟩ hb_ hon hoff
      refine ⟨_, rfl, fun K hK => ?_⟩
      have e27 : a.tmps[27]? = some (.string s3) := by rw [ha]; exact putSel_on (e := (24, 27, .string s3)) 24 rfl rfl (hon 24 (by kernel_rfl)) rfl
      replace ha := Aside0.mk ha
      have BK := Aside0.mk Q_BK
      have HB := Aside0.mk Q_HB
      have FZ := Aside0.mk (Q_FZ (hon 13 (by kernel_rfl)))
      refine goes_ Try.func85 (by kernel_rfl) rfl #[.string s3] (by rfl) rfl rfl (by first | (simp only [List.map_toArray, List.map_cons, List.map_nil, Act.eval, Array.getD_eq_getD_getElem?, Option.getD_some, e27]; done) | (simp only [List.map_toArray, List.map_cons, List.map_nil, Act.eval, Array.getD_eq_getD_getElem?, Option.getD_some, e27]; rfl)) ?_
      refine (impl_sumOf.calls _ _ _ SM.out).mono ?_
      rintro e_ w1 ⟨rfl, hb1⟩
      refine ⟨_, rfl, ?_⟩
      refine hK.out _ _ ⟨z, (by rw [ha.out]; exact putSel_upk 25 hb_ rfl rfl rfl), blk_below BK.out hb1, below_step HB.out hb1, fun _ => Kd.R_below FZ.out hb1⟩
    refine steps_cons ?_ ?_
    · rintro b a w' ⟨z, ha, Q_BK, Q_HB, Q_FZ⟩ hb_ hon hoff
      refine ⟨_, rfl, fun K hK => ?_⟩
      have e28 : a.tmps[28]? = some (.int .i64 sm) := by rw [ha]; exact putSel_on (e := (25, 28, .int .i64 sm)) 25 rfl rfl (hon 25 (by kernel_rfl)) rfl
      replace ha := Aside0.mk ha
      have BK := Aside0.mk Q_BK
      have HB := Aside0.mk Q_HB
      have FZ := Aside0.mk (Q_FZ (hon 13 (by kernel_rfl)))
      refine value_ (w1 := w') (v := .int .i64 sm) (by rfl) rfl ?_ ?_
      · go_simp
        (try simp only [i64_w])
        try rfl
      refine hK.out _ _ ⟨z, (by rw [ha.out]; exact putSel_upk 26 hb_ rfl rfl rfl), Q_BK, Q_HB, Q_FZ⟩
    exact steps_nil
  rintro b a w' hall ⟨z, ha, Q_BK, Q_HB, Q_FZ⟩
  clear BK HB
  have hb0_ := hall 0 (by kernel_rfl)
  have hb1_ := hall 1 (by kernel_rfl)
  have hb2_ := hall 2 (by kernel_rfl)
  have hb3_ := hall 3 (by kernel_rfl)
  have hb4_ := hall 4 (by kernel_rfl)
  have hb5_ := hall 5 (by kernel_rfl)
  have hb6_ := hall 6 (by kernel_rfl)
  have hb7_ := hall 7 (by kernel_rfl)
  have hb8_ := hall 8 (by kernel_rfl)
  have hb9_ := hall 9 (by kernel_rfl)
  have hb10_ := hall 10 (by kernel_rfl)
  have hb11_ := hall 11 (by kernel_rfl)
  have hb12_ := hall 12 (by kernel_rfl)
  have hb13_ := hall 13 (by kernel_rfl)
  have hb14_ := hall 14 (by kernel_rfl)
  have hb15_ := hall 15 (by kernel_rfl)
  have hb16_ := hall 16 (by kernel_rfl)
  have hb17_ := hall 17 (by kernel_rfl)
  have hb18_ := hall 18 (by kernel_rfl)
  have hb19_ := hall 19 (by kernel_rfl)
  have hb20_ := hall 20 (by kernel_rfl)
  have hb21_ := hall 21 (by kernel_rfl)
  have hb22_ := hall 22 (by kernel_rfl)
  have hb23_ := hall 23 (by kernel_rfl)
  have hb24_ := hall 24 (by kernel_rfl)
  have hb25_ := hall 25 (by kernel_rfl)
  have hb26_ := hall 26 (by kernel_rfl)
  subst ha
  simp only [putSel, hb0_, hb1_, hb2_, hb3_, hb4_, hb5_, hb6_, hb7_, hb8_, hb9_, hb10_, hb11_, hb12_, hb13_, hb14_, hb15_, hb16_, hb17_, hb18_, hb19_, hb20_, hb21_, hb22_, hb23_, hb24_, hb25_, hb26_, if_true, Act.put, List.setIfInBounds_toArray, List.set_cons_zero, List.set_cons_succ]
  have BK := Aside0.mk Q_BK
  clear Q_BK
  have HB := Aside0.mk Q_HB
  clear Q_HB
  have FZ := Aside0.mk (Q_FZ hb13_)
  clear Q_FZ
  clear hall hb0_ hb1_ hb2_ hb3_ hb4_ hb5_ hb6_ hb7_ hb8_ hb9_ hb10_ hb11_ hb12_ hb13_ hb14_ hb15_ hb16_ hb17_ hb18_ hb19_ hb20_ hb21_ hb22_ hb23_ hb24_ hb25_ hb26_
  go_wp2_with fail
  go_ret
  exact ⟨show Ending.returned (.int .i64 sm) = _ from by rw [← HSM.out, ES.out], HB.out⟩
def bakBytes.T1 : Bool × List (List Nat × List Nat) := (true, [([], []), ([0], [0]), ([1], [1]), ([2], [2]), ([3], [3]), ([4], [4]), ([], []), ([6], [6]), ([7], [7]), ([8], [8]), ([], []), ([10], [10]), ([11], [11]), ([12], [12]), ([9, 13], [9, 13]), ([14, 4], [14]), ([5, 15], [5, 15]), ([], []), ([17], [17]), ([18], [18]), ([19], [19]), ([20], [20]), ([21, 15], [21]), ([16, 22], [16, 22]), ([], []), ([24, 22], [24]), ([23, 25], [23, 25]), ([], []), ([27], [27]), ([28], [28]), ([29], [29]), ([30, 25], [30]), ([26, 31], [26, 31]), ([], []), ([33, 31], [33]), ([34, 34], [34]), ([32, 35], [32, 35]), ([36, 35, 0, 1, 2, 3, 4, 5, 6, 7, 8, 9, 10, 11, 12, 13, 14, 15, 16, 17, 18, 19, 20, 21, 22, 23, 24, 25, 26, 27, 28, 29, 30, 31, 32, 33, 34, 35, 36], [36])])
def bakBytes.B1 : List Nat := [0, 1, 3, 7, 15, 31, 0, 64, 192, 448, 0, 1024, 3072, 7168, 16320, 32735, 65535, 0, 131072, 393216, 917504, 1966080, 4128735, 8388607, 0, 25100255, 67108863, 0, 134217728, 402653184, 939524096, 2071920607, 4294967295, 0, 12809338847, 29989208031, 68719476735, 137438953471]
theorem bakBytes.tab1 : rtab .any (opsOf Try.f70 1) = bakBytes.T1 := by kernel_rfl
theorem bakBytes.bits1 : waitsOk bakBytes.T1.2 bakBytes.B1 = true := by kernel_rfl
def bakMark : ByteArray := ⟨#[98, 97, 99, 107, 117, 112]⟩
def bakT (fr tx : ByteArray) (chain : Int) (l : List S82) (sum : Int) : ByteArray := ((((bakMark ++ numF chain) ++ fieldsT [fr, tx]) ++ numO (l.length : Int)) ++ bodyT l) ++ numF sum ++ numF (sumOf32 (bytesOf (linkT fr tx chain l sum)))
set_option maxRecDepth 100000 in
set_option maxHeartbeats 8000000 in
theorem bak_bytes (g : Nat) (fr tx : ByteArray) (chain : Int) (A : Option Addr) (c : Nat) (l : List S82) (sum : Int) (w : World) (hb : w.heap[g]? = some (.cells #[.string fr, .string tx, .int .i64 chain, .slice A l.length c, .int .i64 sum] 48 (0, 0))) (hr : Kd.C k82 w A l.length l) (hc : l.length ≤ c) (hf : BakFits fr tx l) :
    Calls Try.prog 70 #[.pointer (some ⟨g, 0, none⟩)] w fun e w' => e = .returned (.string (bakT fr tx chain l sum)) ∧ Below w.heap.size w w' := by
  have hu := Try.underlying48
  obtain ⟨K1, hK1⟩ := inBytes_four chain
  have N1 := Aside0.mk (hK1 K1 (Nat.le_refl _))
  obtain ⟨K2, hK2⟩ := inBytes_four sum
  have N2 := Aside0.mk (hK2 K2 (Nat.le_refl _))
  have F1 := Aside0.mk (fields_two fr tx hf.1 hf.2.1)
  have z1 : (numF chain).size ≤ 4 := Nat.le_of_eq (numF_size _)
  have z2 : (fieldsT [fr, tx]).size ≤ 2005 := fieldsT_two fr tx hf.1 hf.2.1
  have z3 : (bodyT l).size ≤ 3008000 := by
    have := bodyFrom_size l ByteArray.empty hf.2.2.2
    have e0 : ByteArray.empty.size = 0 := rfl
    have := hf.2.2.1
    unfold bodyT
    omega
  have z4 : (numF sum).size ≤ 4 := Nat.le_of_eq (numF_size _)
  obtain ⟨K3, hK3⟩ := inBytes_one (l.length : Int)
  have N3 := Aside0.mk (hK3 K3 (Nat.le_refl _))
  have z5 : (numO (l.length : Int)).size ≤ 1 := Nat.le_of_eq (numO_size _)
  have HBM := Aside0.mk (show (⟨#[98, 97, 99, 107, 117, 112]⟩ : ByteArray) = bakMark from rfl)
  have z7 : bakMark.size ≤ 6 := Nat.le_of_eq rfl
  obtain ⟨sm, hsm⟩ : ∃ sm, sm = sumOf32 (bytesOf (linkT fr tx chain l sum)) := ⟨_, rfl⟩
  obtain ⟨K4, hK4⟩ := inBytes_four sm
  have N4 := Aside0.mk (hK4 K4 (Nat.le_refl _))
  have z6 : (numF sm).size ≤ 4 := Nat.le_of_eq (numF_size _)
  obtain ⟨s0, e0⟩ : ∃ s0, s0 = bakMark ++ numF chain := ⟨_, rfl⟩
  have y0 : s0.size ≤ 10 := by rw [e0, ByteArray.size_append]; omega
  obtain ⟨s1, e1⟩ : ∃ s1, s1 = s0 ++ fieldsT [fr, tx] := ⟨_, rfl⟩
  have y1 : s1.size ≤ 2015 := by rw [e1, ByteArray.size_append]; omega
  obtain ⟨s2, e2⟩ : ∃ s2, s2 = s1 ++ numO (l.length : Int) := ⟨_, rfl⟩
  have y2 : s2.size ≤ 2016 := by rw [e2, ByteArray.size_append]; omega
  obtain ⟨s3, e3⟩ : ∃ s3, s3 = s2 ++ bodyT l := ⟨_, rfl⟩
  have y3 : s3.size ≤ 3010016 := by rw [e3, ByteArray.size_append]; omega
  obtain ⟨s4, e4⟩ : ∃ s4, s4 = s3 ++ numF sum := ⟨_, rfl⟩
  have y4 : s4.size ≤ 3010020 := by rw [e4, ByteArray.size_append]; omega
  obtain ⟨s5, e5⟩ : ∃ s5, s5 = s4 ++ numF sm := ⟨_, rfl⟩
  have ES := Aside0.mk (show s5 = bakT fr tx chain l sum from by rw [e5, e4, e3, e2, e1, e0, hsm]; rfl)
  have O0 := Aside0.mk (ovS z7 z1 (by omega))
  have O1 := Aside0.mk (ovS y0 z2 (by omega))
  have O2 := Aside0.mk (ovS y1 z5 (by omega))
  have O3 := Aside0.mk (ovS y2 z3 (by omega))
  have O4 := Aside0.mk (ovS y3 z4 (by omega))
  have O5 := Aside0.mk (ovS y4 z6 (by omega))
  have HF := Aside0.mk hf
  have HR := Aside0.mk hr
  have HC := Aside0.mk hc
  clear hK1 hK2 hK3 hK4 hf hr hc
  have HSM := Aside0.mk hsm.symm
  clear hsm
  generalize hn1 : numF chain = n1 at N1 e0 O0 z1
  generalize hff : fieldsT [fr, tx] = ff at F1 e1 O1 z2
  generalize hn2 : numF sum = n2 at N2 e4 O4 z4
  generalize hn3 : numO (l.length : Int) = n3 at N3 e2 O2 z5
  generalize hn4 : numF sm = n4 at N4 e5 O5 z6
  generalize hbd : bodyT l = bd at e3 O3 z3
  have E0 := Aside0.mk e0
  have E1 := Aside0.mk e1
  have E2 := Aside0.mk e2
  have E3 := Aside0.mk e3
  have E4 := Aside0.mk e4
  have E5 := Aside0.mk e5
  have HBD := Aside0.mk hbd
  clear e0 e1 e2 e3 e4 e5 z1 z2 z3 z4 z5 z6 z7 y0 y1 y2 y3 y4 hn1 hff hn2 hn3 hn4 hbd
  have HB := Aside0.mk (below_drew (Below.refl w.heap.size w))
  have BK := Aside0.mk (blk_drew hb)
  clear hb
  go_enter Try.func70, Try.ntmps70
  go_wp2_with fail
  refine start_ (n := 38) (S := fun w' => True) (ds := []) #[false, false, false, false, false, false, false, false, false, false, false, false, false, false, false, false, false, false, false, false, false, false, false, false, false, false, false, false, false, false, false, false, false, false, false, false, false, false] (by kernel_rfl) rfl rfl trivial (fun hHeld => ?_)
  refine with_tabW bakBytes.tab1 bakBytes.bits1 (fun HT_ HW_ => ?_)
  generalize w.drew = wd at BK HB ⊢
  refine inv_at [0, 1, 2, 3, 4, 5, 6, 7, 8, 9, 10, 11, 12, 13, 14, 15, 16, 17, 18, 19, 20, 21, 22, 23, 24, 25, 26, 27, 28, 29, 30, 31, 32, 33, 34, 35, 36, 37] (fun a0_ b a w' => ∃ (z : Value), a = putSel a0_ b [(0, 3, .pointer (some ⟨g, 0, none⟩)), (1, 4, .pointer (some ⟨g, 0, none⟩)), (2, 5, .pointer (some ⟨g, 2, none⟩)), (3, 6, .int .i64 chain), (4, 7, .string n1), (5, 8, .string s0), (6, 9, .pointer (some ⟨g, 0, none⟩)), (7, 10, .pointer (some ⟨g, 0, none⟩)), (8, 11, .pointer (some ⟨g, 0, none⟩)), (9, 12, .string fr), (10, 13, .pointer (some ⟨g, 0, none⟩)), (11, 14, .pointer (some ⟨g, 0, none⟩)), (12, 15, .pointer (some ⟨g, 1, none⟩)), (13, 16, .string tx), (14, 17, z), (15, 18, .string ff), (16, 19, .string s1), (17, 20, .pointer (some ⟨g, 0, none⟩)), (18, 21, .pointer (some ⟨g, 0, none⟩)), (19, 22, .pointer (some ⟨g, 3, none⟩)), (20, 23, .slice A l.length c), (21, 24, .int .i64 (l.length : Int)), (22, 25, .string n3), (23, 26, .string s2), (24, 27, .pointer (some ⟨g, 0, none⟩)), (25, 28, .string bd), (26, 29, .string s3), (27, 30, .pointer (some ⟨g, 0, none⟩)), (28, 31, .pointer (some ⟨g, 0, none⟩)), (29, 32, .pointer (some ⟨g, 4, none⟩)), (30, 33, .int .i64 sum), (31, 34, .string n2), (32, 35, .string s4), (33, 36, .pointer (some ⟨g, 0, none⟩)), (34, 37, .int .i64 sm), (35, 38, .string n4), (36, 39, .string s5), (37, 2, .string s5)] ∧ (w'.heap[g]? = some (.cells #[.string fr, .string tx, .int .i64 chain, .slice A l.length c, .int .i64 sum] 48 (0, 0))) ∧ (Below w.heap.size w w') ∧ (b 14 = true → Kd.R Kd.string 9 w' w.heap.size (fun _ => True) z [fr, tx])) HT_.out HW_.out (by kernel_rfl) (by kernel_rfl) ?_ ?_ ?_
  · exact ⟨.bool false, by simp only [putSel, Bool.false_eq_true, if_false], BK.out, HB.out, fun h_ => absurd h_ (by decide)⟩
  · skip
    clear BK HB
    refine steps_cons ?_ ?_
    · rintro b a w' ⟨z, ha, Q_BK, Q_HB, Q_FZ⟩ hb_ hon hoff
      refine ⟨_, rfl, fun K hK => ?_⟩
      have e0 : a.tmps[0]? = some (.pointer (some ⟨g, 0, none⟩)) := by rw [ha]; exact (putSel_off rfl).trans rfl
      replace ha := Aside0.mk ha
      have BK := Aside0.mk Q_BK
      have HB := Aside0.mk Q_HB
      refine value_ (w1 := w') (v := .pointer (some ⟨g, 0, none⟩)) (by rfl) rfl ?_ ?_
      · go_simp
        (try simp only [i64_w])
        try rfl
      refine hK.out _ _ ⟨z, (by rw [ha.out]; exact putSel_upk 0 hb_ rfl rfl rfl), Q_BK, Q_HB, Q_FZ⟩
    refine steps_cons ?_ ?_
    · rintro b a w' ⟨z, ha, Q_BK, Q_HB, Q_FZ⟩ hb_ hon hoff
      refine ⟨_, rfl, fun K hK => ?_⟩
      have e3 : a.tmps[3]? = some (.pointer (some ⟨g, 0, none⟩)) := by rw [ha]; exact putSel_on (e := (0, 3, .pointer (some ⟨g, 0, none⟩))) 0 rfl rfl (hon 0 (by kernel_rfl)) rfl
      replace ha := Aside0.mk ha
      have BK := Aside0.mk Q_BK
      have HB := Aside0.mk Q_HB
      refine value_ (w1 := w') (v := .pointer (some ⟨g, 0, none⟩)) (by rfl) rfl ?_ ?_
      · go_simp
        (try simp only [i64_w])
        try rfl
      refine hK.out _ _ ⟨z, (by rw [ha.out]; exact putSel_upk 1 hb_ rfl rfl rfl), Q_BK, Q_HB, Q_FZ⟩
    refine steps_cons ?_ ?_
    · rintro b a w' ⟨z, ha, Q_BK, Q_HB, Q_FZ⟩ hb_ hon hoff
      refine ⟨_, rfl, fun K hK => ?_⟩
      have e4 : a.tmps[4]? = some (.pointer (some ⟨g, 0, none⟩)) := by rw [ha]; exact putSel_on (e := (1, 4, .pointer (some ⟨g, 0, none⟩))) 1 rfl rfl (hon 1 (by kernel_rfl)) rfl
      replace ha := Aside0.mk ha
      have BK := Aside0.mk Q_BK
      have HB := Aside0.mk Q_HB
      refine value_ (w1 := w') (v := .pointer (some ⟨g, 2, none⟩)) (by rfl) rfl ?_ ?_
      · go_simp
        (try simp only [i64_w])
        try rfl
      refine hK.out _ _ ⟨z, (by rw [ha.out]; exact putSel_upk 2 hb_ rfl rfl rfl), Q_BK, Q_HB, Q_FZ⟩
    refine steps_cons ?_ ?_
    · rintro b a w' ⟨z, ha, Q_BK, Q_HB, Q_FZ⟩ hb_ hon hoff
      refine ⟨_, rfl, fun K hK => ?_⟩
      have e5 : a.tmps[5]? = some (.pointer (some ⟨g, 2, none⟩)) := by rw [ha]; exact putSel_on (e := (2, 5, .pointer (some ⟨g, 2, none⟩))) 2 rfl rfl (hon 2 (by kernel_rfl)) rfl
      replace ha := Aside0.mk ha
      have BK := Aside0.mk Q_BK
      have HB := Aside0.mk Q_HB
      have hc0_ : w'.cell? ⟨g, 0, none⟩ = some (.string fr) := (blk_cell BK.out 0).trans rfl
      have hc1_ : w'.cell? ⟨g, 1, none⟩ = some (.string tx) := (blk_cell BK.out 1).trans rfl
      have hc2_ : w'.cell? ⟨g, 2, none⟩ = some (.int .i64 chain) := (blk_cell BK.out 2).trans rfl
      have hc3_ : w'.cell? ⟨g, 3, none⟩ = some (.slice A l.length c) := (blk_cell BK.out 3).trans rfl
      have hc4_ : w'.cell? ⟨g, 4, none⟩ = some (.int .i64 sum) := (blk_cell BK.out 4).trans rfl
      refine value_ (w1 := w') (v := .int .i64 chain) (by rfl) rfl ?_ ?_
      · go_simp
        (try simp only [i64_w])
        try rfl
      refine hK.out _ _ ⟨z, (by rw [ha.out]; exact putSel_upk 3 hb_ rfl rfl rfl), Q_BK, Q_HB, Q_FZ⟩
    refine steps_cons ?_ ?_
    · rintro b a w' ⟨z, ha, Q_BK, Q_HB, Q_FZ⟩ hb_ hon hoff
      refine ⟨_, rfl, fun K hK => ?_⟩
      have e6 : a.tmps[6]? = some (.int .i64 chain) := by rw [ha]; exact putSel_on (e := (3, 6, .int .i64 chain)) 3 rfl rfl (hon 3 (by kernel_rfl)) rfl
      replace ha := Aside0.mk ha
      have BK := Aside0.mk Q_BK
      have HB := Aside0.mk Q_HB
      refine goes_ Try.func99 (by kernel_rfl) rfl #[.int .i64 chain, .int .i64 4] (by rfl) rfl rfl (by first | (simp only [List.map_toArray, List.map_cons, List.map_nil, Act.eval, Array.getD_eq_getD_getElem?, Option.getD_some, e6]; done) | (simp only [List.map_toArray, List.map_cons, List.map_nil, Act.eval, Array.getD_eq_getD_getElem?, Option.getD_some, e6]; rfl)) ?_
      refine (impl_inBytes.calls K1 _ _ _ _ N1.out).mono ?_
      rintro e_ w1 ⟨rfl, hb1⟩
      refine ⟨_, rfl, ?_⟩
      refine hK.out _ _ ⟨z, (by rw [ha.out]; exact putSel_upk 4 hb_ rfl rfl rfl), blk_below BK.out hb1, below_step HB.out hb1, fun h0_ => Kd.R_below (Q_FZ h0_) hb1⟩
    refine steps_cons ?_ ?_
    · rintro b a w' ⟨z, ha, Q_BK, Q_HB, Q_FZ⟩ hb_ hon hoff
      refine ⟨_, rfl, fun K hK => ?_⟩
      have e7 : a.tmps[7]? = some (.string n1) := by rw [ha]; exact putSel_on (e := (4, 7, .string n1)) 4 rfl rfl (hon 4 (by kernel_rfl)) rfl
      replace ha := Aside0.mk ha
      have BK := Aside0.mk Q_BK
      have HB := Aside0.mk Q_HB
      have hov_ := O0.out
      have hes_ := (E0.out).symm
      have hbm_ := HBM.out
      refine value_ (w1 := w') (v := .string s0) (by rfl) rfl ?_ ?_
      · go_simp
        (try simp only [i64_w])
        try rfl
      refine hK.out _ _ ⟨z, (by rw [ha.out]; exact putSel_upk 5 hb_ rfl rfl rfl), Q_BK, Q_HB, Q_FZ⟩
    refine steps_cons ?_ ?_
    · rintro b a w' ⟨z, ha, Q_BK, Q_HB, Q_FZ⟩ hb_ hon hoff
      refine ⟨_, rfl, fun K hK => ?_⟩
      have e0 : a.tmps[0]? = some (.pointer (some ⟨g, 0, none⟩)) := by rw [ha]; exact (putSel_off rfl).trans rfl
      replace ha := Aside0.mk ha
      have BK := Aside0.mk Q_BK
      have HB := Aside0.mk Q_HB
      refine value_ (w1 := w') (v := .pointer (some ⟨g, 0, none⟩)) (by rfl) rfl ?_ ?_
      · go_simp
        (try simp only [i64_w])
        try rfl
      refine hK.out _ _ ⟨z, (by rw [ha.out]; exact putSel_upk 6 hb_ rfl rfl rfl), Q_BK, Q_HB, fun h0_ => absurd ((hoff 14 (by kernel_rfl)).symm.trans h0_) (by decide)⟩
    refine steps_cons ?_ ?_
    · rintro b a w' ⟨z, ha, Q_BK, Q_HB, Q_FZ⟩ hb_ hon hoff
      refine ⟨_, rfl, fun K hK => ?_⟩
      have e9 : a.tmps[9]? = some (.pointer (some ⟨g, 0, none⟩)) := by rw [ha]; exact putSel_on (e := (6, 9, .pointer (some ⟨g, 0, none⟩))) 6 rfl rfl (hon 6 (by kernel_rfl)) rfl
      replace ha := Aside0.mk ha
      have BK := Aside0.mk Q_BK
      have HB := Aside0.mk Q_HB
      refine value_ (w1 := w') (v := .pointer (some ⟨g, 0, none⟩)) (by rfl) rfl ?_ ?_
      · go_simp
        (try simp only [i64_w])
        try rfl
      refine hK.out _ _ ⟨z, (by rw [ha.out]; exact putSel_upk 7 hb_ rfl rfl rfl), Q_BK, Q_HB, fun h0_ => absurd ((hoff 14 (by kernel_rfl)).symm.trans h0_) (by decide)⟩
    refine steps_cons ?_ ?_
    · rintro b a w' ⟨z, ha, Q_BK, Q_HB, Q_FZ⟩ hb_ hon hoff
      refine ⟨_, rfl, fun K hK => ?_⟩
      have e10 : a.tmps[10]? = some (.pointer (some ⟨g, 0, none⟩)) := by rw [ha]; exact putSel_on (e := (7, 10, .pointer (some ⟨g, 0, none⟩))) 7 rfl rfl (hon 7 (by kernel_rfl)) rfl
      replace ha := Aside0.mk ha
      have BK := Aside0.mk Q_BK
      have HB := Aside0.mk Q_HB
      refine value_ (w1 := w') (v := .pointer (some ⟨g, 0, none⟩)) (by rfl) rfl ?_ ?_
      · go_simp
        (try simp only [i64_w])
        try rfl
      refine hK.out _ _ ⟨z, (by rw [ha.out]; exact putSel_upk 8 hb_ rfl rfl rfl), Q_BK, Q_HB, fun h0_ => absurd ((hoff 14 (by kernel_rfl)).symm.trans h0_) (by decide)⟩
    refine steps_cons ?_ ?_
    · rintro b a w' ⟨z, ha, Q_BK, Q_HB, Q_FZ⟩ hb_ hon hoff
      refine ⟨_, rfl, fun K hK => ?_⟩
      have e11 : a.tmps[11]? = some (.pointer (some ⟨g, 0, none⟩)) := by rw [ha]; exact putSel_on (e := (8, 11, .pointer (some ⟨g, 0, none⟩))) 8 rfl rfl (hon 8 (by kernel_rfl)) rfl
      replace ha := Aside0.mk ha
      have BK := Aside0.mk Q_BK
      have HB := Aside0.mk Q_HB
      have hc0_ : w'.cell? ⟨g, 0, none⟩ = some (.string fr) := (blk_cell BK.out 0).trans rfl
      have hc1_ : w'.cell? ⟨g, 1, none⟩ = some (.string tx) := (blk_cell BK.out 1).trans rfl
      have hc2_ : w'.cell? ⟨g, 2, none⟩ = some (.int .i64 chain) := (blk_cell BK.out 2).trans rfl
      have hc3_ : w'.cell? ⟨g, 3, none⟩ = some (.slice A l.length c) := (blk_cell BK.out 3).trans rfl
      have hc4_ : w'.cell? ⟨g, 4, none⟩ = some (.int .i64 sum) := (blk_cell BK.out 4).trans rfl
      refine value_ (w1 := w') (v := .string fr) (by rfl) rfl ?_ ?_
      · go_simp
        (try simp only [i64_w])
        try rfl
      refine hK.out _ _ ⟨z, (by rw [ha.out]; exact putSel_upk 9 hb_ rfl rfl rfl), Q_BK, Q_HB, fun h0_ => absurd ((hoff 14 (by kernel_rfl)).symm.trans h0_) (by decide)⟩
    refine steps_cons ?_ ?_
    · rintro b a w' ⟨z, ha, Q_BK, Q_HB, Q_FZ⟩ hb_ hon hoff
      refine ⟨_, rfl, fun K hK => ?_⟩
      have e0 : a.tmps[0]? = some (.pointer (some ⟨g, 0, none⟩)) := by rw [ha]; exact (putSel_off rfl).trans rfl
      replace ha := Aside0.mk ha
      have BK := Aside0.mk Q_BK
      have HB := Aside0.mk Q_HB
      refine value_ (w1 := w') (v := .pointer (some ⟨g, 0, none⟩)) (by rfl) rfl ?_ ?_
      · go_simp
        (try simp only [i64_w])
        try rfl
      refine hK.out _ _ ⟨z, (by rw [ha.out]; exact putSel_upk 10 hb_ rfl rfl rfl), Q_BK, Q_HB, fun h0_ => absurd ((hoff 14 (by kernel_rfl)).symm.trans h0_) (by decide)⟩
    refine steps_cons ?_ ?_
    · rintro b a w' ⟨z, ha, Q_BK, Q_HB, Q_FZ⟩ hb_ hon hoff
      refine ⟨_, rfl, fun K hK => ?_⟩
      have e13 : a.tmps[13]? = some (.pointer (some ⟨g, 0, none⟩)) := by rw [ha]; exact putSel_on (e := (10, 13, .pointer (some ⟨g, 0, none⟩))) 10 rfl rfl (hon 10 (by kernel_rfl)) rfl
      replace ha := Aside0.mk ha
      have BK := Aside0.mk Q_BK
      have HB := Aside0.mk Q_HB
      refine value_ (w1 := w') (v := .pointer (some ⟨g, 0, none⟩)) (by rfl) rfl ?_ ?_
      · go_simp
        (try simp only [i64_w])
        try rfl
      refine hK.out _ _ ⟨z, (by rw [ha.out]; exact putSel_upk 11 hb_ rfl rfl rfl), Q_BK, Q_HB, fun h0_ => absurd ((hoff 14 (by kernel_rfl)).symm.trans h0_) (by decide)⟩
    refine steps_cons ?_ ?_
    · rintro b a w' ⟨z, ha, Q_BK, Q_HB, Q_FZ⟩ hb_ hon hoff
      refine ⟨_, rfl, fun K hK => ?_⟩
      have e14 : a.tmps[14]? = some (.pointer (some ⟨g, 0, none⟩)) := by rw [ha]; exact putSel_on (e := (11, 14, .pointer (some ⟨g, 0, none⟩))) 11 rfl rfl (hon 11 (by kernel_rfl)) rfl
      replace ha := Aside0.mk ha
      have BK := Aside0.mk Q_BK
      have HB := Aside0.mk Q_HB
      refine value_ (w1 := w') (v := .pointer (some ⟨g, 1, none⟩)) (by rfl) rfl ?_ ?_
      · go_simp
        (try simp only [i64_w])
        try rfl
      refine hK.out _ _ ⟨z, (by rw [ha.out]; exact putSel_upk 12 hb_ rfl rfl rfl), Q_BK, Q_HB, fun h0_ => absurd ((hoff 14 (by kernel_rfl)).symm.trans h0_) (by decide)⟩
    refine steps_cons ?_ ?_
    · rintro b a w' ⟨z, ha, Q_BK, Q_HB, Q_FZ⟩ hb_ hon hoff
      refine ⟨_, rfl, fun K hK => ?_⟩
      have e15 : a.tmps[15]? = some (.pointer (some ⟨g, 1, none⟩)) := by rw [ha]; exact putSel_on (e := (12, 15, .pointer (some ⟨g, 1, none⟩))) 12 rfl rfl (hon 12 (by kernel_rfl)) rfl
      replace ha := Aside0.mk ha
      have BK := Aside0.mk Q_BK
      have HB := Aside0.mk Q_HB
      have hc0_ : w'.cell? ⟨g, 0, none⟩ = some (.string fr) := (blk_cell BK.out 0).trans rfl
      have hc1_ : w'.cell? ⟨g, 1, none⟩ = some (.string tx) := (blk_cell BK.out 1).trans rfl
      have hc2_ : w'.cell? ⟨g, 2, none⟩ = some (.int .i64 chain) := (blk_cell BK.out 2).trans rfl
      have hc3_ : w'.cell? ⟨g, 3, none⟩ = some (.slice A l.length c) := (blk_cell BK.out 3).trans rfl
      have hc4_ : w'.cell? ⟨g, 4, none⟩ = some (.int .i64 sum) := (blk_cell BK.out 4).trans rfl
      refine value_ (w1 := w') (v := .string tx) (by rfl) rfl ?_ ?_
      · go_simp
        (try simp only [i64_w])
        try rfl
      refine hK.out _ _ ⟨z, (by rw [ha.out]; exact putSel_upk 13 hb_ rfl rfl rfl), Q_BK, Q_HB, fun h0_ => absurd ((hoff 14 (by kernel_rfl)).symm.trans h0_) (by decide)⟩
    refine steps_cons ?_ ?_
    · rintro b a w' ⟨z, ha, Q_BK, Q_HB, Q_FZ⟩ hb_ hon hoff
      refine ⟨_, rfl, fun K hK => ?_⟩
      have e12 : a.tmps[12]? = some (.string fr) := by rw [ha]; exact putSel_on (e := (9, 12, .string fr)) 9 rfl rfl (hon 9 (by kernel_rfl)) rfl
      have e16 : a.tmps[16]? = some (.string tx) := by rw [ha]; exact putSel_on (e := (13, 16, .string tx)) 13 rfl rfl (hon 13 (by kernel_rfl)) rfl
      replace ha := Aside0.mk ha
      have BK := Aside0.mk Q_BK
      have HB := Aside0.mk Q_HB
      refine Kd.R_lit_step Kd.string w.heap.size 9 (by rfl) (N := 17) (by rfl) (xs := ([fr, tx] : List ByteArray)) (inner := [.string fr, .string tx]) (ok := fun _ => True) (okp := fun _ => True) ?hr ?hp (fun _ hk => hk) trivial HB.out HB.out.size (by simp) ?_
      case hr => first | (go_simp; done) | (go_simp; rfl)
      case hp => exact (Reps.one (show Kd.M Kd.string _ _ _ fr [.string fr] from rfl) (Reps.one (show Kd.M Kd.string _ _ _ tx [.string tx] from rfl) (Reps.none _ _)))
      intro z1 w1 hz hbz hgz hoz
      refine hK.out _ _ ⟨z1, (by rw [ha.out]; exact putSel_upk 14 hb_ rfl rfl rfl), blk_grown BK.out hgz (by simp), hbz, fun _ => hz⟩
    refine steps_cons ?_ ?_
    · rintro b a w' ⟨z, ha, Q_BK, Q_HB, Q_FZ⟩ hb_ hon hoff
      refine ⟨_, rfl, fun K hK => ?_⟩
      have e17 : a.tmps[17]? = some (z) := by rw [ha]; exact putSel_on (e := (14, 17, z)) 14 rfl rfl (hon 14 (by kernel_rfl)) rfl
      replace ha := Aside0.mk ha
      have BK := Aside0.mk Q_BK
      have HB := Aside0.mk Q_HB
      have FZ := Aside0.mk (Q_FZ (hon 14 (by kernel_rfl)))
      obtain ⟨A_, c_, ez_, hcz_, hCz_⟩ := Kd.R_reads FZ.out
      subst ez_
      refine goes_ Try.func84 (by kernel_rfl) rfl #[.slice A_ [fr, tx].length c_] (by rfl) rfl rfl (by first | (simp only [List.map_toArray, List.map_cons, List.map_nil, Act.eval, Array.getD_eq_getD_getElem?, Option.getD_some, e17]; done) | (simp only [List.map_toArray, List.map_cons, List.map_nil, Act.eval, Array.getD_eq_getD_getElem?, Option.getD_some, e17]; rfl)) ?_
      refine (impl_fields.calls _ c_ [fr, tx] _ _ hCz_ hcz_ F1.out).mono ?_
      rintro e_ w1 ⟨rfl, hb1⟩
      refine ⟨_, rfl, ?_⟩
      refine hK.out _ _ ⟨.slice A_ [fr, tx].length c_, (by rw [ha.out]; exact putSel_upk 15 hb_ rfl rfl rfl), blk_below BK.out hb1, below_step HB.out hb1, fun _ => Kd.R_below FZ.out hb1⟩
    refine steps_cons ?_ ?_
    · rintro b a w' ⟨z, ha, Q_BK, Q_HB, Q_FZ⟩ hb_ hon hoff
      refine ⟨_, rfl, fun K hK => ?_⟩
      have e8 : a.tmps[8]? = some (.string s0) := by rw [ha]; exact putSel_on (e := (5, 8, .string s0)) 5 rfl rfl (hon 5 (by kernel_rfl)) rfl
      have e18 : a.tmps[18]? = some (.string ff) := by rw [ha]; exact putSel_on (e := (15, 18, .string ff)) 15 rfl rfl (hon 15 (by kernel_rfl)) rfl
      replace ha := Aside0.mk ha
      have BK := Aside0.mk Q_BK
      have HB := Aside0.mk Q_HB
      have FZ := Aside0.mk (Q_FZ (hon 14 (by kernel_rfl)))
      have hov_ := O1.out
      have hes_ := (E1.out).symm
      refine value_ (w1 := w') (v := .string s1) (by rfl) rfl ?_ ?_
      · go_simp
        (try simp only [i64_w])
        try rfl
      refine hK.out _ _ ⟨z, (by rw [ha.out]; exact putSel_upk 16 hb_ rfl rfl rfl), Q_BK, Q_HB, Q_FZ⟩
    refine steps_cons ?_ ?_
    · rintro b a w' ⟨z, ha, Q_BK, Q_HB, Q_FZ⟩ hb_ hon hoff
      refine ⟨_, rfl, fun K hK => ?_⟩
      have e0 : a.tmps[0]? = some (.pointer (some ⟨g, 0, none⟩)) := by rw [ha]; exact (putSel_off rfl).trans rfl
      replace ha := Aside0.mk ha
      have BK := Aside0.mk Q_BK
      have HB := Aside0.mk Q_HB
      refine value_ (w1 := w') (v := .pointer (some ⟨g, 0, none⟩)) (by rfl) rfl ?_ ?_
      · go_simp
        (try simp only [i64_w])
        try rfl
      refine hK.out _ _ ⟨z, (by rw [ha.out]; exact putSel_upk 17 hb_ rfl rfl rfl), Q_BK, Q_HB, Q_FZ⟩
    refine steps_cons ?_ ?_
    · rintro b a w' ⟨z, ha, Q_BK, Q_HB, Q_FZ⟩ hb_ hon hoff
      refine ⟨_, rfl, fun K hK => ?_⟩
      have e20 : a.tmps[20]? = some (.pointer (some ⟨g, 0, none⟩)) := by rw [ha]; exact putSel_on (e := (17, 20, .pointer (some ⟨g, 0, none⟩))) 17 rfl rfl (hon 17 (by kernel_rfl)) rfl
      replace ha := Aside0.mk ha
      have BK := Aside0.mk Q_BK
      have HB := Aside0.mk Q_HB
      refine value_ (w1 := w') (v := .pointer (some ⟨g, 0, none⟩)) (by rfl) rfl ?_ ?_
      · go_simp
        (try simp only [i64_w])
        try rfl
      refine hK.out _ _ ⟨z, (by rw [ha.out]; exact putSel_upk 18 hb_ rfl rfl rfl), Q_BK, Q_HB, Q_FZ⟩
    refine steps_cons ?_ ?_
    · rintro b a w' ⟨z, ha, Q_BK, Q_HB, Q_FZ⟩ hb_ hon hoff
      refine ⟨_, rfl, fun K hK => ?_⟩
      have e21 : a.tmps[21]? = some (.pointer (some ⟨g, 0, none⟩)) := by rw [ha]; exact putSel_on (e := (18, 21, .pointer (some ⟨g, 0, none⟩))) 18 rfl rfl (hon 18 (by kernel_rfl)) rfl
      replace ha := Aside0.mk ha
      have BK := Aside0.mk Q_BK
      have HB := Aside0.mk Q_HB
      refine value_ (w1 := w') (v := .pointer (some ⟨g, 3, none⟩)) (by rfl) rfl ?_ ?_
      · go_simp
        (try simp only [i64_w])
        try rfl
      refine hK.out _ _ ⟨z, (by rw [ha.out]; exact putSel_upk 19 hb_ rfl rfl rfl), Q_BK, Q_HB, Q_FZ⟩
    refine steps_cons ?_ ?_
    · rintro b a w' ⟨z, ha, Q_BK, Q_HB, Q_FZ⟩ hb_ hon hoff
      refine ⟨_, rfl, fun K hK => ?_⟩
      have e22 : a.tmps[22]? = some (.pointer (some ⟨g, 3, none⟩)) := by rw [ha]; exact putSel_on (e := (19, 22, .pointer (some ⟨g, 3, none⟩))) 19 rfl rfl (hon 19 (by kernel_rfl)) rfl
      replace ha := Aside0.mk ha
      have BK := Aside0.mk Q_BK
      have HB := Aside0.mk Q_HB
      have hc0_ : w'.cell? ⟨g, 0, none⟩ = some (.string fr) := (blk_cell BK.out 0).trans rfl
      have hc1_ : w'.cell? ⟨g, 1, none⟩ = some (.string tx) := (blk_cell BK.out 1).trans rfl
      have hc2_ : w'.cell? ⟨g, 2, none⟩ = some (.int .i64 chain) := (blk_cell BK.out 2).trans rfl
      have hc3_ : w'.cell? ⟨g, 3, none⟩ = some (.slice A l.length c) := (blk_cell BK.out 3).trans rfl
      have hc4_ : w'.cell? ⟨g, 4, none⟩ = some (.int .i64 sum) := (blk_cell BK.out 4).trans rfl
      refine value_ (w1 := w') (v := .slice A l.length c) (by rfl) rfl ?_ ?_
      · go_simp
        (try simp only [i64_w])
        try rfl
      refine hK.out _ _ ⟨z, (by rw [ha.out]; exact putSel_upk 20 hb_ rfl rfl rfl), Q_BK, Q_HB, Q_FZ⟩
    refine steps_cons ?_ ?_
    · rintro b a w' ⟨z, ha, Q_BK, Q_HB, Q_FZ⟩ hb_ hon hoff
      refine ⟨_, rfl, fun K hK => ?_⟩
      have e23 : a.tmps[23]? = some (.slice A l.length c) := by rw [ha]; exact putSel_on (e := (20, 23, .slice A l.length c)) 20 rfl rfl (hon 20 (by kernel_rfl)) rfl
      replace ha := Aside0.mk ha
      have BK := Aside0.mk Q_BK
      have HB := Aside0.mk Q_HB
      refine value_ (w1 := w') (v := .int .i64 (l.length : Int)) (by rfl) rfl ?_ ?_
      · go_simp
        (try simp only [i64_w])
        try rfl
      refine hK.out _ _ ⟨z, (by rw [ha.out]; exact putSel_upk 21 hb_ rfl rfl rfl), Q_BK, Q_HB, Q_FZ⟩
    refine steps_cons ?_ ?_
    · rintro b a w' ⟨z, ha, Q_BK, Q_HB, Q_FZ⟩ hb_ hon hoff
      refine ⟨_, rfl, fun K hK => ?_⟩
      have e24 : a.tmps[24]? = some (.int .i64 (l.length : Int)) := by rw [ha]; exact putSel_on (e := (21, 24, .int .i64 (l.length : Int))) 21 rfl rfl (hon 21 (by kernel_rfl)) rfl
      replace ha := Aside0.mk ha
      have BK := Aside0.mk Q_BK
      have HB := Aside0.mk Q_HB
      have FZ := Aside0.mk (Q_FZ (hon 14 (by kernel_rfl)))
      refine goes_ Try.func99 (by kernel_rfl) rfl #[.int .i64 (l.length : Int), .int .i64 1] (by rfl) rfl rfl (by first | (simp only [List.map_toArray, List.map_cons, List.map_nil, Act.eval, Array.getD_eq_getD_getElem?, Option.getD_some, e24]; done) | (simp only [List.map_toArray, List.map_cons, List.map_nil, Act.eval, Array.getD_eq_getD_getElem?, Option.getD_some, e24]; rfl)) ?_
      refine (impl_inBytes.calls K3 _ _ _ _ N3.out).mono ?_
      rintro e_ w1 ⟨rfl, hb1⟩
      refine ⟨_, rfl, ?_⟩
      refine hK.out _ _ ⟨z, (by rw [ha.out]; exact putSel_upk 22 hb_ rfl rfl rfl), blk_below BK.out hb1, below_step HB.out hb1, fun _ => Kd.R_below FZ.out hb1⟩
    refine steps_cons ?_ ?_
    · rintro b a w' ⟨z, ha, Q_BK, Q_HB, Q_FZ⟩ hb_ hon hoff
      refine ⟨_, rfl, fun K hK => ?_⟩
      have e19 : a.tmps[19]? = some (.string s1) := by rw [ha]; exact putSel_on (e := (16, 19, .string s1)) 16 rfl rfl (hon 16 (by kernel_rfl)) rfl
      have e25 : a.tmps[25]? = some (.string n3) := by rw [ha]; exact putSel_on (e := (22, 25, .string n3)) 22 rfl rfl (hon 22 (by kernel_rfl)) rfl
      replace ha := Aside0.mk ha
      have BK := Aside0.mk Q_BK
      have HB := Aside0.mk Q_HB
      have FZ := Aside0.mk (Q_FZ (hon 14 (by kernel_rfl)))
      have hov_ := O2.out
      have hes_ := (E2.out).symm
      refine value_ (w1 := w') (v := .string s2) (by rfl) rfl ?_ ?_
      · go_simp
        (try simp only [i64_w])
        try rfl
      refine hK.out _ _ ⟨z, (by rw [ha.out]; exact putSel_upk 23 hb_ rfl rfl rfl), Q_BK, Q_HB, Q_FZ⟩
    refine steps_cons ?_ ?_
    · rintro b a w' ⟨z, ha, Q_BK, Q_HB, Q_FZ⟩ hb_ hon hoff
      refine ⟨_, rfl, fun K hK => ?_⟩
      have e0 : a.tmps[0]? = some (.pointer (some ⟨g, 0, none⟩)) := by rw [ha]; exact (putSel_off rfl).trans rfl
      replace ha := Aside0.mk ha
      have BK := Aside0.mk Q_BK
      have HB := Aside0.mk Q_HB
      refine value_ (w1 := w') (v := .pointer (some ⟨g, 0, none⟩)) (by rfl) rfl ?_ ?_
      · go_simp
        (try simp only [i64_w])
        try rfl
      refine hK.out _ _ ⟨z, (by rw [ha.out]; exact putSel_upk 24 hb_ rfl rfl rfl), Q_BK, Q_HB, Q_FZ⟩
    refine steps_cons ?_ ?_
    · rintro b a w' ⟨z, ha, Q_BK, Q_HB, Q_FZ⟩ hb_ hon hoff
      refine ⟨_, rfl, fun K hK => ?_⟩
      have e27 : a.tmps[27]? = some (.pointer (some ⟨g, 0, none⟩)) := by rw [ha]; exact putSel_on (e := (24, 27, .pointer (some ⟨g, 0, none⟩))) 24 rfl rfl (hon 24 (by kernel_rfl)) rfl
      replace ha := Aside0.mk ha
      have BK := Aside0.mk Q_BK
      have HB := Aside0.mk Q_HB
      have FZ := Aside0.mk (Q_FZ (hon 14 (by kernel_rfl)))
      refine goes_ Try.func100 (by kernel_rfl) rfl #[.pointer (some ⟨g, 0, none⟩)] (by rfl) rfl rfl (by first | (simp only [List.map_toArray, List.map_cons, List.map_nil, Act.eval, Array.getD_eq_getD_getElem?, Option.getD_some, e27]; done) | (simp only [List.map_toArray, List.map_cons, List.map_nil, Act.eval, Array.getD_eq_getD_getElem?, Option.getD_some, e27]; rfl)) ?_
      refine ((bak_body (g := g) (fr := fr) (tx := tx) (chain := chain) (A := A) (c := c) (l := l) (sum := sum) (w := w') (hb := BK.out) (hr := Kd.C_below HR.out HB.out) (hc := HC.out) (hf := HF.out))).mono ?_
      rintro e_ w1 ⟨he_, hb1⟩
      rw [HBD.out] at he_
      subst he_
      refine ⟨_, rfl, ?_⟩
      refine hK.out _ _ ⟨z, (by rw [ha.out]; exact putSel_upk 25 hb_ rfl rfl rfl), blk_below BK.out hb1, below_step HB.out hb1, fun _ => Kd.R_below FZ.out hb1⟩
    refine steps_cons ?_ ?_
    · rintro b a w' ⟨z, ha, Q_BK, Q_HB, Q_FZ⟩ hb_ hon hoff
      refine ⟨_, rfl, fun K hK => ?_⟩
      have e26 : a.tmps[26]? = some (.string s2) := by rw [ha]; exact putSel_on (e := (23, 26, .string s2)) 23 rfl rfl (hon 23 (by kernel_rfl)) rfl
      have e28 : a.tmps[28]? = some (.string bd) := by rw [ha]; exact putSel_on (e := (25, 28, .string bd)) 25 rfl rfl (hon 25 (by kernel_rfl)) rfl
      replace ha := Aside0.mk ha
      have BK := Aside0.mk Q_BK
      have HB := Aside0.mk Q_HB
      have FZ := Aside0.mk (Q_FZ (hon 14 (by kernel_rfl)))
      have hov_ := O3.out
      have hes_ := (E3.out).symm
      refine value_ (w1 := w') (v := .string s3) (by rfl) rfl ?_ ?_
      · go_simp
        (try simp only [i64_w])
        try rfl
      refine hK.out _ _ ⟨z, (by rw [ha.out]; exact putSel_upk 26 hb_ rfl rfl rfl), Q_BK, Q_HB, Q_FZ⟩
    refine steps_cons ?_ ?_
    · rintro b a w' ⟨z, ha, Q_BK, Q_HB, Q_FZ⟩ hb_ hon hoff
      refine ⟨_, rfl, fun K hK => ?_⟩
      have e0 : a.tmps[0]? = some (.pointer (some ⟨g, 0, none⟩)) := by rw [ha]; exact (putSel_off rfl).trans rfl
      replace ha := Aside0.mk ha
      have BK := Aside0.mk Q_BK
      have HB := Aside0.mk Q_HB
      refine value_ (w1 := w') (v := .pointer (some ⟨g, 0, none⟩)) (by rfl) rfl ?_ ?_
      · go_simp
        (try simp only [i64_w])
        try rfl
      refine hK.out _ _ ⟨z, (by rw [ha.out]; exact putSel_upk 27 hb_ rfl rfl rfl), Q_BK, Q_HB, Q_FZ⟩
    refine steps_cons ?_ ?_
    · rintro b a w' ⟨z, ha, Q_BK, Q_HB, Q_FZ⟩ hb_ hon hoff
      refine ⟨_, rfl, fun K hK => ?_⟩
      have e30 : a.tmps[30]? = some (.pointer (some ⟨g, 0, none⟩)) := by rw [ha]; exact putSel_on (e := (27, 30, .pointer (some ⟨g, 0, none⟩))) 27 rfl rfl (hon 27 (by kernel_rfl)) rfl
      replace ha := Aside0.mk ha
      have BK := Aside0.mk Q_BK
      have HB := Aside0.mk Q_HB
      refine value_ (w1 := w') (v := .pointer (some ⟨g, 0, none⟩)) (by rfl) rfl ?_ ?_
      · go_simp
        (try simp only [i64_w])
        try rfl
      refine hK.out _ _ ⟨z, (by rw [ha.out]; exact putSel_upk 28 hb_ rfl rfl rfl), Q_BK, Q_HB, Q_FZ⟩
    refine steps_cons ?_ ?_
    · rintro b a w' ⟨z, ha, Q_BK, Q_HB, Q_FZ⟩ hb_ hon hoff
      refine ⟨_, rfl, fun K hK => ?_⟩
      have e31 : a.tmps[31]? = some (.pointer (some ⟨g, 0, none⟩)) := by rw [ha]; exact putSel_on (e := (28, 31, .pointer (some ⟨g, 0, none⟩))) 28 rfl rfl (hon 28 (by kernel_rfl)) rfl
      replace ha := Aside0.mk ha
      have BK := Aside0.mk Q_BK
      have HB := Aside0.mk Q_HB
      refine value_ (w1 := w') (v := .pointer (some ⟨g, 4, none⟩)) (by rfl) rfl ?_ ?_
      · go_simp
        (try simp only [i64_w])
        try rfl
      refine hK.out _ _ ⟨z, (by rw [ha.out]; exact putSel_upk 29 hb_ rfl rfl rfl), Q_BK, Q_HB, Q_FZ⟩
    refine steps_cons ?_ ?_
    · rintro b a w' ⟨z, ha, Q_BK, Q_HB, Q_FZ⟩ hb_ hon hoff
      refine ⟨_, rfl, fun K hK => ?_⟩
      have e32 : a.tmps[32]? = some (.pointer (some ⟨g, 4, none⟩)) := by rw [ha]; exact putSel_on (e := (29, 32, .pointer (some ⟨g, 4, none⟩))) 29 rfl rfl (hon 29 (by kernel_rfl)) rfl
      replace ha := Aside0.mk ha
      have BK := Aside0.mk Q_BK
      have HB := Aside0.mk Q_HB
      have hc0_ : w'.cell? ⟨g, 0, none⟩ = some (.string fr) := (blk_cell BK.out 0).trans rfl
      have hc1_ : w'.cell? ⟨g, 1, none⟩ = some (.string tx) := (blk_cell BK.out 1).trans rfl
      have hc2_ : w'.cell? ⟨g, 2, none⟩ = some (.int .i64 chain) := (blk_cell BK.out 2).trans rfl
      have hc3_ : w'.cell? ⟨g, 3, none⟩ = some (.slice A l.length c) := (blk_cell BK.out 3).trans rfl
      have hc4_ : w'.cell? ⟨g, 4, none⟩ = some (.int .i64 sum) := (blk_cell BK.out 4).trans rfl
      refine value_ (w1 := w') (v := .int .i64 sum) (by rfl) rfl ?_ ?_
      · go_simp
        (try simp only [i64_w])
        try rfl
      refine hK.out _ _ ⟨z, (by rw [ha.out]; exact putSel_upk 30 hb_ rfl rfl rfl), Q_BK, Q_HB, Q_FZ⟩
    refine steps_cons ?_ ?_
    · rintro b a w' ⟨z, ha, Q_BK, Q_HB, Q_FZ⟩ hb_ hon hoff
      refine ⟨_, rfl, fun K hK => ?_⟩
      have e33 : a.tmps[33]? = some (.int .i64 sum) := by rw [ha]; exact putSel_on (e := (30, 33, .int .i64 sum)) 30 rfl rfl (hon 30 (by kernel_rfl)) rfl
      replace ha := Aside0.mk ha
      have BK := Aside0.mk Q_BK
      have HB := Aside0.mk Q_HB
      have FZ := Aside0.mk (Q_FZ (hon 14 (by kernel_rfl)))
      refine goes_ Try.func99 (by kernel_rfl) rfl #[.int .i64 sum, .int .i64 4] (by rfl) rfl rfl (by first | (simp only [List.map_toArray, List.map_cons, List.map_nil, Act.eval, Array.getD_eq_getD_getElem?, Option.getD_some, e33]; done) | (simp only [List.map_toArray, List.map_cons, List.map_nil, Act.eval, Array.getD_eq_getD_getElem?, Option.getD_some, e33]; rfl)) ?_
      refine (impl_inBytes.calls K2 _ _ _ _ N2.out).mono ?_
      rintro e_ w1 ⟨rfl, hb1⟩
      refine ⟨_, rfl, ?_⟩
      refine hK.out _ _ ⟨z, (by rw [ha.out]; exact putSel_upk 31 hb_ rfl rfl rfl), blk_below BK.out hb1, below_step HB.out hb1, fun _ => Kd.R_below FZ.out hb1⟩
    refine steps_cons ?_ ?_
    · rintro b a w' ⟨z, ha, Q_BK, Q_HB, Q_FZ⟩ hb_ hon hoff
      refine ⟨_, rfl, fun K hK => ?_⟩
      have e29 : a.tmps[29]? = some (.string s3) := by rw [ha]; exact putSel_on (e := (26, 29, .string s3)) 26 rfl rfl (hon 26 (by kernel_rfl)) rfl
      have e34 : a.tmps[34]? = some (.string n2) := by rw [ha]; exact putSel_on (e := (31, 34, .string n2)) 31 rfl rfl (hon 31 (by kernel_rfl)) rfl
      replace ha := Aside0.mk ha
      have BK := Aside0.mk Q_BK
      have HB := Aside0.mk Q_HB
      have FZ := Aside0.mk (Q_FZ (hon 14 (by kernel_rfl)))
      have hov_ := O4.out
      have hes_ := (E4.out).symm
      refine value_ (w1 := w') (v := .string s4) (by rfl) rfl ?_ ?_
      · go_simp
        (try simp only [i64_w])
        try rfl
      refine hK.out _ _ ⟨z, (by rw [ha.out]; exact putSel_upk 32 hb_ rfl rfl rfl), Q_BK, Q_HB, Q_FZ⟩
    refine steps_cons ?_ ?_
    · rintro b a w' ⟨z, ha, Q_BK, Q_HB, Q_FZ⟩ hb_ hon hoff
      refine ⟨_, rfl, fun K hK => ?_⟩
      have e0 : a.tmps[0]? = some (.pointer (some ⟨g, 0, none⟩)) := by rw [ha]; exact (putSel_off rfl).trans rfl
      replace ha := Aside0.mk ha
      have BK := Aside0.mk Q_BK
      have HB := Aside0.mk Q_HB
      refine value_ (w1 := w') (v := .pointer (some ⟨g, 0, none⟩)) (by rfl) rfl ?_ ?_
      · go_simp
        (try simp only [i64_w])
        try rfl
      refine hK.out _ _ ⟨z, (by rw [ha.out]; exact putSel_upk 33 hb_ rfl rfl rfl), Q_BK, Q_HB, Q_FZ⟩
    refine steps_cons ?_ ?_
    · rintro b a w' ⟨z, ha, Q_BK, Q_HB, Q_FZ⟩ hb_ hon hoff
      refine ⟨_, rfl, fun K hK => ?_⟩
      have e36 : a.tmps[36]? = some (.pointer (some ⟨g, 0, none⟩)) := by rw [ha]; exact putSel_on (e := (33, 36, .pointer (some ⟨g, 0, none⟩))) 33 rfl rfl (hon 33 (by kernel_rfl)) rfl
      replace ha := Aside0.mk ha
      have BK := Aside0.mk Q_BK
      have HB := Aside0.mk Q_HB
      have FZ := Aside0.mk (Q_FZ (hon 14 (by kernel_rfl)))
      refine goes_ Try.func101 (by kernel_rfl) rfl #[.pointer (some ⟨g, 0, none⟩)] (by rfl) rfl rfl (by first | (simp only [List.map_toArray, List.map_cons, List.map_nil, Act.eval, Array.getD_eq_getD_getElem?, Option.getD_some, e36]; done) | (simp only [List.map_toArray, List.map_cons, List.map_nil, Act.eval, Array.getD_eq_getD_getElem?, Option.getD_some, e36]; rfl)) ?_
      refine ((bak_link (g := g) (fr := fr) (tx := tx) (chain := chain) (A := A) (c := c) (l := l) (sum := sum) (w := w') (hb := BK.out) (hr := Kd.C_below HR.out HB.out) (hc := HC.out) (hf := HF.out))).mono ?_
      rintro e_ w1 ⟨he_, hb1⟩
      rw [HSM.out] at he_
      subst he_
      refine ⟨_, rfl, ?_⟩
      refine hK.out _ _ ⟨z, (by rw [ha.out]; exact putSel_upk 34 hb_ rfl rfl rfl), blk_below BK.out hb1, below_step HB.out hb1, fun _ => Kd.R_below FZ.out hb1⟩
    refine steps_cons ?_ ?_
    · rintro b a w' ⟨z, ha, Q_BK, Q_HB, Q_FZ⟩ hb_ hon hoff
      refine ⟨_, rfl, fun K hK => ?_⟩
      have e37 : a.tmps[37]? = some (.int .i64 sm) := by rw [ha]; exact putSel_on (e := (34, 37, .int .i64 sm)) 34 rfl rfl (hon 34 (by kernel_rfl)) rfl
      replace ha := Aside0.mk ha
      have BK := Aside0.mk Q_BK
      have HB := Aside0.mk Q_HB
      have FZ := Aside0.mk (Q_FZ (hon 14 (by kernel_rfl)))
      refine goes_ Try.func99 (by kernel_rfl) rfl #[.int .i64 sm, .int .i64 4] (by rfl) rfl rfl (by first | (simp only [List.map_toArray, List.map_cons, List.map_nil, Act.eval, Array.getD_eq_getD_getElem?, Option.getD_some, e37]; done) | (simp only [List.map_toArray, List.map_cons, List.map_nil, Act.eval, Array.getD_eq_getD_getElem?, Option.getD_some, e37]; rfl)) ?_
      refine (impl_inBytes.calls K4 _ _ _ _ N4.out).mono ?_
      rintro e_ w1 ⟨rfl, hb1⟩
      refine ⟨_, rfl, ?_⟩
      refine hK.out _ _ ⟨z, (by rw [ha.out]; exact putSel_upk 35 hb_ rfl rfl rfl), blk_below BK.out hb1, below_step HB.out hb1, fun _ => Kd.R_below FZ.out hb1⟩
    refine steps_cons ?_ ?_
    · rintro b a w' ⟨z, ha, Q_BK, Q_HB, Q_FZ⟩ hb_ hon hoff
      refine ⟨_, rfl, fun K hK => ?_⟩
      have e35 : a.tmps[35]? = some (.string s4) := by rw [ha]; exact putSel_on (e := (32, 35, .string s4)) 32 rfl rfl (hon 32 (by kernel_rfl)) rfl
      have e38 : a.tmps[38]? = some (.string n4) := by rw [ha]; exact putSel_on (e := (35, 38, .string n4)) 35 rfl rfl (hon 35 (by kernel_rfl)) rfl
      replace ha := Aside0.mk ha
      have BK := Aside0.mk Q_BK
      have HB := Aside0.mk Q_HB
      have FZ := Aside0.mk (Q_FZ (hon 14 (by kernel_rfl)))
      have hov_ := O5.out
      have hes_ := (E5.out).symm
      refine value_ (w1 := w') (v := .string s5) (by rfl) rfl ?_ ?_
      · go_simp
        (try simp only [i64_w])
        try rfl
      refine hK.out _ _ ⟨z, (by rw [ha.out]; exact putSel_upk 36 hb_ rfl rfl rfl), Q_BK, Q_HB, Q_FZ⟩
    refine steps_cons ?_ ?_
    · rintro b a w' ⟨z, ha, Q_BK, Q_HB, Q_FZ⟩ hb_ hon hoff
      refine ⟨_, rfl, fun K hK => ?_⟩
      have e39 : a.tmps[39]? = some (.string s5) := by rw [ha]; exact putSel_on (e := (36, 39, .string s5)) 36 rfl rfl (hon 36 (by kernel_rfl)) rfl
      replace ha := Aside0.mk ha
      have BK := Aside0.mk Q_BK
      have HB := Aside0.mk Q_HB
      have FZ := Aside0.mk (Q_FZ (hon 14 (by kernel_rfl)))
      refine value_ (w1 := w') (v := .string s5) (by rfl) rfl ?_ ?_
      · go_simp
        (try simp only [i64_w])
        try rfl
      refine hK.out _ _ ⟨z, (by rw [ha.out]; exact putSel_upk 37 hb_ rfl rfl rfl), Q_BK, Q_HB, Q_FZ⟩
    exact steps_nil
  rintro b a w' hall ⟨z, ha, Q_BK, Q_HB, Q_FZ⟩
  clear BK HB
  have hb0_ := hall 0 (by kernel_rfl)
  have hb1_ := hall 1 (by kernel_rfl)
  have hb2_ := hall 2 (by kernel_rfl)
  have hb3_ := hall 3 (by kernel_rfl)
  have hb4_ := hall 4 (by kernel_rfl)
  have hb5_ := hall 5 (by kernel_rfl)
  have hb6_ := hall 6 (by kernel_rfl)
  have hb7_ := hall 7 (by kernel_rfl)
  have hb8_ := hall 8 (by kernel_rfl)
  have hb9_ := hall 9 (by kernel_rfl)
  have hb10_ := hall 10 (by kernel_rfl)
  have hb11_ := hall 11 (by kernel_rfl)
  have hb12_ := hall 12 (by kernel_rfl)
  have hb13_ := hall 13 (by kernel_rfl)
  have hb14_ := hall 14 (by kernel_rfl)
  have hb15_ := hall 15 (by kernel_rfl)
  have hb16_ := hall 16 (by kernel_rfl)
  have hb17_ := hall 17 (by kernel_rfl)
  have hb18_ := hall 18 (by kernel_rfl)
  have hb19_ := hall 19 (by kernel_rfl)
  have hb20_ := hall 20 (by kernel_rfl)
  have hb21_ := hall 21 (by kernel_rfl)
  have hb22_ := hall 22 (by kernel_rfl)
  have hb23_ := hall 23 (by kernel_rfl)
  have hb24_ := hall 24 (by kernel_rfl)
  have hb25_ := hall 25 (by kernel_rfl)
  have hb26_ := hall 26 (by kernel_rfl)
  have hb27_ := hall 27 (by kernel_rfl)
  have hb28_ := hall 28 (by kernel_rfl)
  have hb29_ := hall 29 (by kernel_rfl)
  have hb30_ := hall 30 (by kernel_rfl)
  have hb31_ := hall 31 (by kernel_rfl)
  have hb32_ := hall 32 (by kernel_rfl)
  have hb33_ := hall 33 (by kernel_rfl)
  have hb34_ := hall 34 (by kernel_rfl)
  have hb35_ := hall 35 (by kernel_rfl)
  have hb36_ := hall 36 (by kernel_rfl)
  have hb37_ := hall 37 (by kernel_rfl)
  subst ha
  simp only [putSel, hb0_, hb1_, hb2_, hb3_, hb4_, hb5_, hb6_, hb7_, hb8_, hb9_, hb10_, hb11_, hb12_, hb13_, hb14_, hb15_, hb16_, hb17_, hb18_, hb19_, hb20_, hb21_, hb22_, hb23_, hb24_, hb25_, hb26_, hb27_, hb28_, hb29_, hb30_, hb31_, hb32_, hb33_, hb34_, hb35_, hb36_, hb37_, if_true, Act.put, List.setIfInBounds_toArray, List.set_cons_zero, List.set_cons_succ]
  have BK := Aside0.mk Q_BK
  clear Q_BK
  have HB := Aside0.mk Q_HB
  clear Q_HB
  have FZ := Aside0.mk (Q_FZ hb14_)
  clear Q_FZ
  clear hall hb0_ hb1_ hb2_ hb3_ hb4_ hb5_ hb6_ hb7_ hb8_ hb9_ hb10_ hb11_ hb12_ hb13_ hb14_ hb15_ hb16_ hb17_ hb18_ hb19_ hb20_ hb21_ hb22_ hb23_ hb24_ hb25_ hb26_ hb27_ hb28_ hb29_ hb30_ hb31_ hb32_ hb33_ hb34_ hb35_ hb36_ hb37_
  go_wp2_with fail
  go_ret
  exact ⟨show Ending.returned (.string s5) = _ from by rw [ES.out], HB.out⟩
end Go.Proofs.Ytgcncphdjabjjaa.X
