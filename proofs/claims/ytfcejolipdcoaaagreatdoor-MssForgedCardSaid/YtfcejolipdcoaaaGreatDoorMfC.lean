/- Walks of the program's functions. -/
import Derived.Test.YtfcejolipdcoaaaGreatDoorMfB
set_option linter.unusedVariables false
set_option linter.unusedSimpArgs false
set_option maxRecDepth 8192
namespace Go.Proofs.YtfcejolipdcoaaaGreatDoor
open Go Go.F Go.RowKit
open Go.Au hiding be

theorem exprN1a {H : Hp} {w : World} (hH : H.le (hw w)) (h : Int) {seed : List UInt8} (hs : seed.length = 16) {L : List (List UInt8)} {aa2 : Option Addr} {nn2 cc2 : Nat} (hL : RdL H (.slice aa2 nn2 cc2) L) {m : List UInt8} {aa3 : Option Addr} {nn3 cc3 : Nat} (hv : Rd H (.slice aa3 nn3 cc3) nn3 1 (m.map bV)) (sh sl : Int) {v p : List (List UInt8)} {a1 a2 : Option Addr} {n1 n2 c1 c2 : Nat} (h1 : RdH H (.slice a1 n1 c1) 32 v) (h2 : RdH H (.slice a2 n2 c2) 32 p) (hm : 0 ≤ h ∧ h ≤ 4) (hml : m.length < 1000) (hLb : (wasAt L sl).length < 1000) (hvf : vrf (mprint seed h) m sh sl v p = false) (h0 : (wasAt L sl).length = 0) :
  Calls Tryz.prog 9 #[hV seed, .int .i64 h, .slice aa2 nn2 cc2, .slice aa3 nn3 cc3, .agg #[.int .i64 sh, .int .i64 sl, .slice a1 n1 c1, .slice a2 n2 c2]] w fun e w' => ∃ a1 c1 a2 c2, e = .returned (.tuple #[gV [[.slice a1 (fgO (expl seed (wasAt L sl) m h sh sl v p)).A.length c1], [.slice a2 (fgO (expl seed (wasAt L sl) m h sh sl v p)).B.length c2], [.bool (fgO (expl seed (wasAt L sl) m h sh sl v p)).k], [.int .i64 (fgO (expl seed (wasAt L sl) m h sh sl v p)).a], [.int .i64 (fgO (expl seed (wasAt L sl) m h sh sl v p)).c], [.int .i64 (fgO (expl seed (wasAt L sl) m h sh sl v p)).q], (fgO (expl seed (wasAt L sl) m h sh sl v p)).x.map bV], .bool (expl seed (wasAt L sl) m h sh sl v p).isSome]) ∧ Rd (F.ext H w.heap.size w') (.slice a1 (fgO (expl seed (wasAt L sl) m h sh sl v p)).A.length c1) (fgO (expl seed (wasAt L sl) m h sh sl v p)).A.length 1 ((fgO (expl seed (wasAt L sl) m h sh sl v p)).A.map bV) ∧ Rd (F.ext H w.heap.size w') (.slice a2 (fgO (expl seed (wasAt L sl) m h sh sl v p)).B.length c2) (fgO (expl seed (wasAt L sl) m h sh sl v p)).B.length 1 ((fgO (expl seed (wasAt L sl) m h sh sl v p)).B.map bV) ∧ Below w.heap.size w w' := by
 obtain rfl : nn2 = L.length := hL.len
 obtain rfl : nn3 = m.length := hv.lenB
 have hvcap : m.length ≤ cc3 := hv.capOf
 obtain rfl : n1 = v.length := h1.len
 obtain rfl : n2 = p.length := h2.len
 have hll := mleaves_len seed h.toNat
 have hp16 := pow16 (h := h) (by omega) (by omega)
 refine enter5 _ Tryz.func9 rfl Tryz.ntmps9 Tryz.results9 rfl ?_
 have S0 := St.start w hH
 refine Wr (Ah S0 fun b1 w2 S3 => ?_)
 refine Ah S3 fun b4 w5 S6 => ?_
 refine Ac S6 fun b7 w8 S9 => ?_
 refine Pv (T_nil (W_seq ?_))
 obtain ⟨G11, hl12, S10, r13⟩ := S9.stillBlk 2 rfl
 obtain ⟨G15, hl16, S14, r17⟩ := S10.stillBlk 1 rfl
 refine W_region (T_loadGA _ S14 (still_cells (hl16 _ _ r13)) rfl rfl rfl rfl rfl rfl rfl rfl (hVs hs) (Pv ?_))
 refine Cs g_aumbry_aumbryref07_Leaves ((mssLeavesR_ok S14.le h hs (by omega)).mono ?_)
 rintro e w23 ⟨a18, c19, hc20, rfl, ho21, hB22⟩
 have S24 := S14.own hB22 ho21
 refine ⟨_, rfl, trivial, ?_⟩
 refine Pv (Nr ?_)
 refine Pv ?_
 obtain ⟨G26, hl27, S25, r28⟩ := S24.stillRow 0 rfl
 have r29 := RdH.mk (mleaves_all _ _) (by decide) r28
 refine Cs g_aumbry_aumbryref07_Root ((rootR_ok S25.le r29 (by omega)).mono ?_)
 rintro e w31 ⟨rfl, hB30⟩
 have S32 := S25.call hB30
 refine ⟨_, rfl, trivial, ?_⟩
 refine Ac S32 fun b33 w34 S35 => ?_
 refine Ag (hl := by exact hVs (root_len r29.1)) (hl2 := by exact hVs (root_len r29.1)) (h1 := by exact one_hA _) 0 S35 fun w36 S37 => (Nr ?_)
 refine Pv ?_
 refine Fl 1 ?_
 refine Ab (r := by exact still_cell (hl27 _ _ r17) rfl) S37 ?_
 refine Cs g_aumbry_aumbryref07_signedBy ((signedNo_ok S37.le (hL.mono (hl12.trans (hl16.trans hl27))) sl h0).mono ?_)
 rintro e w39 ⟨rfl, hB38⟩
 have S40 := S37.call hB38
 refine ⟨_, rfl, trivial, ?_⟩
 refine Pv (T_nil ?_)
 iterate 2 refine W_seq ?_
 refine W_plan (planF Tryz.prog G26 [46]) rfl (by kernel_rfl) S40.le ?_
 have S41 := S40.drew
 refine T_loadGA _ S41 (still_cells (hl27 _ _ (hl16 _ _ r13))) rfl rfl rfl rfl rfl rfl rfl rfl (hVs hs) (Pv ?_)
 refine Cs g_aumbry_aumbryref07_Print ((mssPrintR_ok S41.le h hs (by omega)).mono ?_)
 rintro e w43 ⟨rfl, hB42⟩
 have S44 := S41.call hB42
 refine ⟨_, rfl, (((Hp.le.refl _)).trans S44.le), ?_⟩
 refine Pv ?_
 refine T_loadGAP _ (fun _ h => h) (still_cells (hl27 _ _ r17)) rfl rfl rfl rfl rfl rfl rfl rfl (by first | rfl | simp [hVs, *]) ?_
 refine Cs g_aumbry_aumbryref07_Verify ((verifyR_ok S44.le (mprint_len _ _) sh sl (h1.mono (hl12.trans (hl16.trans hl27))) (h2.mono (hl12.trans (hl16.trans hl27))) (hv.mono (hl12.trans (hl16.trans hl27))) (by omega)).mono ?_)
 rintro e w46 ⟨rfl, hB45⟩
 have S47 := S44.call hB45
 refine ⟨_, rfl, (((Hp.le.refl _)).trans S47.le), ?_⟩
 refine P2 ?_
 refine T_bool 49 true rfl (by rw [hvf]; rfl) ?_
 iterate 3 refine No ?_
 iterate 5 refine T_un rfl rfl rfl rfl rfl ?_
 refine No ?_
 refine Pv (T_nil ?_)
 refine W_cond_true rfl (Wr (T_buildS (cells := (gV [[.slice none 0 0], [.slice none 0 0], [.bool false], [.int .i64 0], [.int .i64 0], [.int .i64 0], (List.replicate 32 0).map bV] : Value).cells) rfl rfl rfl rfl rfl rfl fill_gnil rfl rfl rfl (Ag (hl := by exact gV_size (L := [[.slice none 0 0], [.slice none 0 0], [.bool false], [.int .i64 0], [.int .i64 0], [.int .i64 0], (List.replicate 32 0).map bV]) (ns := [1, 1, 1, 1, 1, 1, 32]) (Shp.cons rfl (Shp.cons rfl (Shp.cons rfl (Shp.cons rfl (Shp.cons rfl (Shp.cons rfl (Shp.cons (lenB List.length_replicate) Shp.nil))))))) rfl) (hl2 := by exact gV_size (L := [[.slice none 0 0], [.slice none 0 0], [.bool false], [.int .i64 0], [.int .i64 0], [.int .i64 0], (List.replicate 32 0).map bV]) (ns := [1, 1, 1, 1, 1, 1, 32]) (Shp.cons rfl (Shp.cons rfl (Shp.cons rfl (Shp.cons rfl (Shp.cons rfl (Shp.cons rfl (Shp.cons (lenB List.length_replicate) Shp.nil))))))) rfl) (h1 := by exact gV_one (OneL.one rfl (OneL.one rfl (OneL.one rfl (OneL.one rfl (OneL.one rfl (OneL.one rfl (OneL.arr OneL.nil)))))))) 1 S47 fun w48 S49 => ?_)))
 refine Pv (T_nil (W_ret ?_))
 refine ⟨_, ⟨_, _, _, rfl, rfl, run_loadVarA rfl rfl (gV_size (L := [[.slice none 0 0], [.slice none 0 0], [.bool false], [.int .i64 0], [.int .i64 0], [.int .i64 0], (List.replicate 32 0).map bV]) (ns := [1, 1, 1, 1, 1, 1, 32]) (Shp.cons rfl (Shp.cons rfl (Shp.cons rfl (Shp.cons rfl (Shp.cons rfl (Shp.cons rfl (Shp.cons (lenB List.length_replicate) Shp.nil))))))) rfl) (S49.cells 1 rfl), ⟨_, _, rfl, rfl, rfl⟩⟩, ?_⟩
 exact fg_end (f := fgO (expl seed (wasAt L sl) m h sh sl v p)) (b := (expl seed (wasAt L sl) m h sh sl v p).isSome) (f' := fg0) (by rw [expl_no1 (by rw [hvf]; exact fun x => by cases x)]; rfl) (by rw [expl_no1 (by rw [hvf]; exact fun x => by cases x)]; rfl) (nilB _) (nilB _) S49.fin S49.below


theorem exprN1b {H : Hp} {w : World} (hH : H.le (hw w)) (h : Int) {seed : List UInt8} (hs : seed.length = 16) {L : List (List UInt8)} {aa2 : Option Addr} {nn2 cc2 : Nat} (hL : RdL H (.slice aa2 nn2 cc2) L) {m : List UInt8} {aa3 : Option Addr} {nn3 cc3 : Nat} (hv : Rd H (.slice aa3 nn3 cc3) nn3 1 (m.map bV)) (sh sl : Int) {v p : List (List UInt8)} {a1 a2 : Option Addr} {n1 n2 c1 c2 : Nat} (h1 : RdH H (.slice a1 n1 c1) 32 v) (h2 : RdH H (.slice a2 n2 c2) 32 p) (hm : 0 ≤ h ∧ h ≤ 4) (hml : m.length < 1000) (hLb : (wasAt L sl).length < 1000) (hvf : vrf (mprint seed h) m sh sl v p = false) (h0 : ¬ (wasAt L sl).length = 0) :
  Calls Tryz.prog 9 #[hV seed, .int .i64 h, .slice aa2 nn2 cc2, .slice aa3 nn3 cc3, .agg #[.int .i64 sh, .int .i64 sl, .slice a1 n1 c1, .slice a2 n2 c2]] w fun e w' => ∃ a1 c1 a2 c2, e = .returned (.tuple #[gV [[.slice a1 (fgO (expl seed (wasAt L sl) m h sh sl v p)).A.length c1], [.slice a2 (fgO (expl seed (wasAt L sl) m h sh sl v p)).B.length c2], [.bool (fgO (expl seed (wasAt L sl) m h sh sl v p)).k], [.int .i64 (fgO (expl seed (wasAt L sl) m h sh sl v p)).a], [.int .i64 (fgO (expl seed (wasAt L sl) m h sh sl v p)).c], [.int .i64 (fgO (expl seed (wasAt L sl) m h sh sl v p)).q], (fgO (expl seed (wasAt L sl) m h sh sl v p)).x.map bV], .bool (expl seed (wasAt L sl) m h sh sl v p).isSome]) ∧ Rd (F.ext H w.heap.size w') (.slice a1 (fgO (expl seed (wasAt L sl) m h sh sl v p)).A.length c1) (fgO (expl seed (wasAt L sl) m h sh sl v p)).A.length 1 ((fgO (expl seed (wasAt L sl) m h sh sl v p)).A.map bV) ∧ Rd (F.ext H w.heap.size w') (.slice a2 (fgO (expl seed (wasAt L sl) m h sh sl v p)).B.length c2) (fgO (expl seed (wasAt L sl) m h sh sl v p)).B.length 1 ((fgO (expl seed (wasAt L sl) m h sh sl v p)).B.map bV) ∧ Below w.heap.size w w' := by
 obtain rfl : nn2 = L.length := hL.len
 obtain rfl : nn3 = m.length := hv.lenB
 have hvcap : m.length ≤ cc3 := hv.capOf
 obtain rfl : n1 = v.length := h1.len
 obtain rfl : n2 = p.length := h2.len
 have hll := mleaves_len seed h.toNat
 have hp16 := pow16 (h := h) (by omega) (by omega)
 refine enter5 _ Tryz.func9 rfl Tryz.ntmps9 Tryz.results9 rfl ?_
 have S0 := St.start w hH
 refine Wr (Ah S0 fun b1 w2 S3 => ?_)
 refine Ah S3 fun b4 w5 S6 => ?_
 refine Ac S6 fun b7 w8 S9 => ?_
 refine Pv (T_nil (W_seq ?_))
 obtain ⟨G11, hl12, S10, r13⟩ := S9.stillBlk 2 rfl
 obtain ⟨G15, hl16, S14, r17⟩ := S10.stillBlk 1 rfl
 refine W_region (T_loadGA _ S14 (still_cells (hl16 _ _ r13)) rfl rfl rfl rfl rfl rfl rfl rfl (hVs hs) (Pv ?_))
 refine Cs g_aumbry_aumbryref07_Leaves ((mssLeavesR_ok S14.le h hs (by omega)).mono ?_)
 rintro e w23 ⟨a18, c19, hc20, rfl, ho21, hB22⟩
 have S24 := S14.own hB22 ho21
 refine ⟨_, rfl, trivial, ?_⟩
 refine Pv (Nr ?_)
 refine Pv ?_
 obtain ⟨G26, hl27, S25, r28⟩ := S24.stillRow 0 rfl
 have r29 := RdH.mk (mleaves_all _ _) (by decide) r28
 refine Cs g_aumbry_aumbryref07_Root ((rootR_ok S25.le r29 (by omega)).mono ?_)
 rintro e w31 ⟨rfl, hB30⟩
 have S32 := S25.call hB30
 refine ⟨_, rfl, trivial, ?_⟩
 refine Ac S32 fun b33 w34 S35 => ?_
 refine Ag (hl := by exact hVs (root_len r29.1)) (hl2 := by exact hVs (root_len r29.1)) (h1 := by exact one_hA _) 0 S35 fun w36 S37 => (Nr ?_)
 refine Pv ?_
 refine Fl 1 ?_
 refine Ab (r := by exact still_cell (hl27 _ _ r17) rfl) S37 ?_
 refine Cs g_aumbry_aumbryref07_signedBy ((signedYes_ok S37.le (hL.mono (hl12.trans (hl16.trans hl27))) sl h0).mono ?_)
 rintro e w43 ⟨a38, c39, hc40, rfl, hr41, hB42⟩
 have S44 := S37.call hB42
 refine ⟨_, rfl, trivial, ?_⟩
 have hnn := isNone_no hr41 (by omega)
 refine Pv (T_nil ?_)
 iterate 2 refine W_seq ?_
 refine W_plan (planF Tryz.prog G26 [46]) rfl (by kernel_rfl) S44.le ?_
 have S45 := S44.drew
 refine T_loadGA _ S45 (still_cells (hl27 _ _ (hl16 _ _ r13))) rfl rfl rfl rfl rfl rfl rfl rfl (hVs hs) (Pv ?_)
 refine Cs g_aumbry_aumbryref07_Print ((mssPrintR_ok S45.le h hs (by omega)).mono ?_)
 rintro e w47 ⟨rfl, hB46⟩
 have S48 := S45.call hB46
 refine ⟨_, rfl, (((Hp.le.refl _)).trans S48.le), ?_⟩
 refine Pv ?_
 refine T_loadGAP _ (fun _ h => h) (still_cells (hl27 _ _ r17)) rfl rfl rfl rfl rfl rfl rfl rfl (by first | rfl | simp [hVs, *]) ?_
 refine Cs g_aumbry_aumbryref07_Verify ((verifyR_ok S48.le (mprint_len _ _) sh sl (h1.mono (hl12.trans (hl16.trans hl27))) (h2.mono (hl12.trans (hl16.trans hl27))) (hv.mono (hl12.trans (hl16.trans hl27))) (by omega)).mono ?_)
 rintro e w50 ⟨rfl, hB49⟩
 have S51 := S48.call hB49
 refine ⟨_, rfl, (((Hp.le.refl _)).trans S51.le), ?_⟩
 refine P2 ?_
 refine T_bool 49 true rfl (by rw [hvf]; rfl) ?_
 iterate 3 refine No ?_
 iterate 5 refine T_un rfl rfl rfl rfl rfl ?_
 refine No ?_
 refine Pv (T_nil ?_)
 refine W_cond_true rfl (Wr (T_buildS (cells := (gV [[.slice none 0 0], [.slice none 0 0], [.bool false], [.int .i64 0], [.int .i64 0], [.int .i64 0], (List.replicate 32 0).map bV] : Value).cells) rfl rfl rfl rfl rfl rfl fill_gnil rfl rfl rfl (Ag (hl := by exact gV_size (L := [[.slice none 0 0], [.slice none 0 0], [.bool false], [.int .i64 0], [.int .i64 0], [.int .i64 0], (List.replicate 32 0).map bV]) (ns := [1, 1, 1, 1, 1, 1, 32]) (Shp.cons rfl (Shp.cons rfl (Shp.cons rfl (Shp.cons rfl (Shp.cons rfl (Shp.cons rfl (Shp.cons (lenB List.length_replicate) Shp.nil))))))) rfl) (hl2 := by exact gV_size (L := [[.slice none 0 0], [.slice none 0 0], [.bool false], [.int .i64 0], [.int .i64 0], [.int .i64 0], (List.replicate 32 0).map bV]) (ns := [1, 1, 1, 1, 1, 1, 32]) (Shp.cons rfl (Shp.cons rfl (Shp.cons rfl (Shp.cons rfl (Shp.cons rfl (Shp.cons rfl (Shp.cons (lenB List.length_replicate) Shp.nil))))))) rfl) (h1 := by exact gV_one (OneL.one rfl (OneL.one rfl (OneL.one rfl (OneL.one rfl (OneL.one rfl (OneL.one rfl (OneL.arr OneL.nil)))))))) 1 S51 fun w52 S53 => ?_)))
 refine Pv (T_nil (W_ret ?_))
 refine ⟨_, ⟨_, _, _, rfl, rfl, run_loadVarA rfl rfl (gV_size (L := [[.slice none 0 0], [.slice none 0 0], [.bool false], [.int .i64 0], [.int .i64 0], [.int .i64 0], (List.replicate 32 0).map bV]) (ns := [1, 1, 1, 1, 1, 1, 32]) (Shp.cons rfl (Shp.cons rfl (Shp.cons rfl (Shp.cons rfl (Shp.cons rfl (Shp.cons rfl (Shp.cons (lenB List.length_replicate) Shp.nil))))))) rfl) (S53.cells 1 rfl), ⟨_, _, rfl, rfl, rfl⟩⟩, ?_⟩
 exact fg_end (f := fgO (expl seed (wasAt L sl) m h sh sl v p)) (b := (expl seed (wasAt L sl) m h sh sl v p).isSome) (f' := fg0) (by rw [expl_no1 (by rw [hvf]; exact fun x => by cases x)]; rfl) (by rw [expl_no1 (by rw [hvf]; exact fun x => by cases x)]; rfl) (nilB _) (nilB _) S53.fin S53.below


theorem exprN1 {H : Hp} {w : World} (hH : H.le (hw w)) (h : Int) {seed : List UInt8} (hs : seed.length = 16) {L : List (List UInt8)} {aa2 : Option Addr} {nn2 cc2 : Nat} (hL : RdL H (.slice aa2 nn2 cc2) L) {m : List UInt8} {aa3 : Option Addr} {nn3 cc3 : Nat} (hv : Rd H (.slice aa3 nn3 cc3) nn3 1 (m.map bV)) (sh sl : Int) {v p : List (List UInt8)} {a1 a2 : Option Addr} {n1 n2 c1 c2 : Nat} (h1 : RdH H (.slice a1 n1 c1) 32 v) (h2 : RdH H (.slice a2 n2 c2) 32 p) (hm : 0 ≤ h ∧ h ≤ 4) (hml : m.length < 1000) (hLb : (wasAt L sl).length < 1000) (hvf : vrf (mprint seed h) m sh sl v p = false) :
  Calls Tryz.prog 9 #[hV seed, .int .i64 h, .slice aa2 nn2 cc2, .slice aa3 nn3 cc3, .agg #[.int .i64 sh, .int .i64 sl, .slice a1 n1 c1, .slice a2 n2 c2]] w fun e w' => ∃ a1 c1 a2 c2, e = .returned (.tuple #[gV [[.slice a1 (fgO (expl seed (wasAt L sl) m h sh sl v p)).A.length c1], [.slice a2 (fgO (expl seed (wasAt L sl) m h sh sl v p)).B.length c2], [.bool (fgO (expl seed (wasAt L sl) m h sh sl v p)).k], [.int .i64 (fgO (expl seed (wasAt L sl) m h sh sl v p)).a], [.int .i64 (fgO (expl seed (wasAt L sl) m h sh sl v p)).c], [.int .i64 (fgO (expl seed (wasAt L sl) m h sh sl v p)).q], (fgO (expl seed (wasAt L sl) m h sh sl v p)).x.map bV], .bool (expl seed (wasAt L sl) m h sh sl v p).isSome]) ∧ Rd (F.ext H w.heap.size w') (.slice a1 (fgO (expl seed (wasAt L sl) m h sh sl v p)).A.length c1) (fgO (expl seed (wasAt L sl) m h sh sl v p)).A.length 1 ((fgO (expl seed (wasAt L sl) m h sh sl v p)).A.map bV) ∧ Rd (F.ext H w.heap.size w') (.slice a2 (fgO (expl seed (wasAt L sl) m h sh sl v p)).B.length c2) (fgO (expl seed (wasAt L sl) m h sh sl v p)).B.length 1 ((fgO (expl seed (wasAt L sl) m h sh sl v p)).B.map bV) ∧ Below w.heap.size w w' := by
 by_cases h0 : (wasAt L sl).length = 0
 ·exact exprN1a hH h hs hL hv sh sl h1 h2 hm hml hLb hvf h0
 ·exact exprN1b hH h hs hL hv sh sl h1 h2 hm hml hLb hvf h0

theorem exprN2 {H : Hp} {w : World} (hH : H.le (hw w)) (h : Int) {seed : List UInt8} (hs : seed.length = 16) {L : List (List UInt8)} {aa2 : Option Addr} {nn2 cc2 : Nat} (hL : RdL H (.slice aa2 nn2 cc2) L) {m : List UInt8} {aa3 : Option Addr} {nn3 cc3 : Nat} (hv : Rd H (.slice aa3 nn3 cc3) nn3 1 (m.map bV)) (sh sl : Int) {v p : List (List UInt8)} {a1 a2 : Option Addr} {n1 n2 c1 c2 : Nat} (h1 : RdH H (.slice a1 n1 c1) 32 v) (h2 : RdH H (.slice a2 n2 c2) 32 p) (hm : 0 ≤ h ∧ h ≤ 4) (hml : m.length < 1000) (hLb : (wasAt L sl).length < 1000) (hvt : vrf (mprint seed h) m sh sl v p = true) (hW0 : 0 < (wasAt L sl).length) (hWm : (wasAt L sl) = m) :
  Calls Tryz.prog 9 #[hV seed, .int .i64 h, .slice aa2 nn2 cc2, .slice aa3 nn3 cc3, .agg #[.int .i64 sh, .int .i64 sl, .slice a1 n1 c1, .slice a2 n2 c2]] w fun e w' => ∃ a1 c1 a2 c2, e = .returned (.tuple #[gV [[.slice a1 (fgO (expl seed (wasAt L sl) m h sh sl v p)).A.length c1], [.slice a2 (fgO (expl seed (wasAt L sl) m h sh sl v p)).B.length c2], [.bool (fgO (expl seed (wasAt L sl) m h sh sl v p)).k], [.int .i64 (fgO (expl seed (wasAt L sl) m h sh sl v p)).a], [.int .i64 (fgO (expl seed (wasAt L sl) m h sh sl v p)).c], [.int .i64 (fgO (expl seed (wasAt L sl) m h sh sl v p)).q], (fgO (expl seed (wasAt L sl) m h sh sl v p)).x.map bV], .bool (expl seed (wasAt L sl) m h sh sl v p).isSome]) ∧ Rd (F.ext H w.heap.size w') (.slice a1 (fgO (expl seed (wasAt L sl) m h sh sl v p)).A.length c1) (fgO (expl seed (wasAt L sl) m h sh sl v p)).A.length 1 ((fgO (expl seed (wasAt L sl) m h sh sl v p)).A.map bV) ∧ Rd (F.ext H w.heap.size w') (.slice a2 (fgO (expl seed (wasAt L sl) m h sh sl v p)).B.length c2) (fgO (expl seed (wasAt L sl) m h sh sl v p)).B.length 1 ((fgO (expl seed (wasAt L sl) m h sh sl v p)).B.map bV) ∧ Below w.heap.size w w' := by
 obtain rfl : nn2 = L.length := hL.len
 obtain rfl : nn3 = m.length := hv.lenB
 have hvcap : m.length ≤ cc3 := hv.capOf
 obtain rfl : n1 = v.length := h1.len
 obtain rfl : n2 = p.length := h2.len
 have hll := mleaves_len seed h.toNat
 have hp16 := pow16 (h := h) (by omega) (by omega)
 have h0 : ¬ (wasAt L sl).length = 0 := by omega
 refine enter5 _ Tryz.func9 rfl Tryz.ntmps9 Tryz.results9 rfl ?_
 have S0 := St.start w hH
 refine Wr (Ah S0 fun b1 w2 S3 => ?_)
 refine Ah S3 fun b4 w5 S6 => ?_
 refine Ac S6 fun b7 w8 S9 => ?_
 refine Pv (T_nil (W_seq ?_))
 obtain ⟨G11, hl12, S10, r13⟩ := S9.stillBlk 2 rfl
 obtain ⟨G15, hl16, S14, r17⟩ := S10.stillBlk 1 rfl
 refine W_region (T_loadGA _ S14 (still_cells (hl16 _ _ r13)) rfl rfl rfl rfl rfl rfl rfl rfl (hVs hs) (Pv ?_))
 refine Cs g_aumbry_aumbryref07_Leaves ((mssLeavesR_ok S14.le h hs (by omega)).mono ?_)
 rintro e w23 ⟨a18, c19, hc20, rfl, ho21, hB22⟩
 have S24 := S14.own hB22 ho21
 refine ⟨_, rfl, trivial, ?_⟩
 refine Pv (Nr ?_)
 refine Pv ?_
 obtain ⟨G26, hl27, S25, r28⟩ := S24.stillRow 0 rfl
 have r29 := RdH.mk (mleaves_all _ _) (by decide) r28
 refine Cs g_aumbry_aumbryref07_Root ((rootR_ok S25.le r29 (by omega)).mono ?_)
 rintro e w31 ⟨rfl, hB30⟩
 have S32 := S25.call hB30
 refine ⟨_, rfl, trivial, ?_⟩
 refine Ac S32 fun b33 w34 S35 => ?_
 refine Ag (hl := by exact hVs (root_len r29.1)) (hl2 := by exact hVs (root_len r29.1)) (h1 := by exact one_hA _) 0 S35 fun w36 S37 => (Nr ?_)
 refine Pv ?_
 refine Fl 1 ?_
 refine Ab (r := by exact still_cell (hl27 _ _ r17) rfl) S37 ?_
 refine Cs g_aumbry_aumbryref07_signedBy ((signedYes_ok S37.le (hL.mono (hl12.trans (hl16.trans hl27))) sl h0).mono ?_)
 rintro e w43 ⟨a38, c39, hc40, rfl, hr41, hB42⟩
 have S44 := S37.call hB42
 refine ⟨_, rfl, trivial, ?_⟩
 have hnn := isNone_no hr41 (by omega)
 refine Pv (T_nil ?_)
 iterate 2 refine W_seq ?_
 refine W_plan (planF Tryz.prog G26 [46]) rfl (by kernel_rfl) S44.le ?_
 have S45 := S44.drew
 refine T_loadGA _ S45 (still_cells (hl27 _ _ (hl16 _ _ r13))) rfl rfl rfl rfl rfl rfl rfl rfl (hVs hs) (Pv ?_)
 refine Cs g_aumbry_aumbryref07_Print ((mssPrintR_ok S45.le h hs (by omega)).mono ?_)
 rintro e w47 ⟨rfl, hB46⟩
 have S48 := S45.call hB46
 refine ⟨_, rfl, (((Hp.le.refl _)).trans S48.le), ?_⟩
 refine Pv ?_
 refine T_loadGAP _ (fun _ h => h) (still_cells (hl27 _ _ r17)) rfl rfl rfl rfl rfl rfl rfl rfl (by first | rfl | simp [hVs, *]) ?_
 refine Cs g_aumbry_aumbryref07_Verify ((verifyR_ok S48.le (mprint_len _ _) sh sl (h1.mono (hl12.trans (hl16.trans hl27))) (h2.mono (hl12.trans (hl16.trans hl27))) (hv.mono (hl12.trans (hl16.trans hl27))) (by omega)).mono ?_)
 rintro e w50 ⟨rfl, hB49⟩
 have S51 := S48.call hB49
 refine ⟨_, rfl, (((Hp.le.refl _)).trans S51.le), ?_⟩
 refine P2 ?_
 refine T_bool 49 false rfl (by rw [hvt]; rfl) ?_
 refine Ys ?_
 refine Pv ?_
 refine Ys ?_
 refine T_snilN rfl rfl rfl rfl rfl rfl rfl (Ys ?_)
 refine Pv ?_
 refine T_bool 52 true rfl (by rw [hnn]; rfl) ?_
 refine Ys ?_
 refine Pv ?_
 refine Ys ?_
 refine T_convG S51 hr41 rfl rfl rfl rfl rfl rfl rfl rfl rfl (Ys ?_)
 refine Pv ?_
 refine Ys ?_
 refine T_convG S51 (hv.mono (hl12.trans (hl16.trans hl27))) rfl rfl rfl rfl rfl rfl rfl rfl rfl (Ys ?_)
 refine T_streq rfl rfl rfl rfl rfl rfl (Ys ?_)
 refine P2 (T_nil ?_)
 refine W_bool 59 true rfl (decide_eq_true hWm) (W_cond_true rfl (Wr (T_buildS (cells := (gV [[.slice none 0 0], [.slice none 0 0], [.bool false], [.int .i64 0], [.int .i64 0], [.int .i64 0], (List.replicate 32 0).map bV] : Value).cells) rfl rfl rfl rfl rfl rfl fill_gnil rfl rfl rfl (Ag (hl := by exact gV_size (L := [[.slice none 0 0], [.slice none 0 0], [.bool false], [.int .i64 0], [.int .i64 0], [.int .i64 0], (List.replicate 32 0).map bV]) (ns := [1, 1, 1, 1, 1, 1, 32]) (Shp.cons rfl (Shp.cons rfl (Shp.cons rfl (Shp.cons rfl (Shp.cons rfl (Shp.cons rfl (Shp.cons (lenB List.length_replicate) Shp.nil))))))) rfl) (hl2 := by exact gV_size (L := [[.slice none 0 0], [.slice none 0 0], [.bool false], [.int .i64 0], [.int .i64 0], [.int .i64 0], (List.replicate 32 0).map bV]) (ns := [1, 1, 1, 1, 1, 1, 32]) (Shp.cons rfl (Shp.cons rfl (Shp.cons rfl (Shp.cons rfl (Shp.cons rfl (Shp.cons rfl (Shp.cons (lenB List.length_replicate) Shp.nil))))))) rfl) (h1 := by exact gV_one (OneL.one rfl (OneL.one rfl (OneL.one rfl (OneL.one rfl (OneL.one rfl (OneL.one rfl (OneL.arr OneL.nil)))))))) 1 S51 fun w52 S53 => ?_))))
 refine Pv (T_nil (W_ret ?_))
 refine ⟨_, ⟨_, _, _, rfl, rfl, run_loadVarA rfl rfl (gV_size (L := [[.slice none 0 0], [.slice none 0 0], [.bool false], [.int .i64 0], [.int .i64 0], [.int .i64 0], (List.replicate 32 0).map bV]) (ns := [1, 1, 1, 1, 1, 1, 32]) (Shp.cons rfl (Shp.cons rfl (Shp.cons rfl (Shp.cons rfl (Shp.cons rfl (Shp.cons rfl (Shp.cons (lenB List.length_replicate) Shp.nil))))))) rfl) (S53.cells 1 rfl), ⟨_, _, rfl, rfl, rfl⟩⟩, ?_⟩
 exact fg_end (f := fgO (expl seed (wasAt L sl) m h sh sl v p)) (b := (expl seed (wasAt L sl) m h sh sl v p).isSome) (f' := fg0) (by rw [expl_no2 hW0 hWm]; rfl) (by rw [expl_no2 hW0 hWm]; rfl) (nilB _) (nilB _) S53.fin S53.below


set_option maxHeartbeats 2000000 in
theorem exprE0 {H : Hp} {w : World} (hH : H.le (hw w)) (h : Int) {seed : List UInt8} (hs : seed.length = 16) {L : List (List UInt8)} {aa2 : Option Addr} {nn2 cc2 : Nat} (hL : RdL H (.slice aa2 nn2 cc2) L) {m : List UInt8} {aa3 : Option Addr} {nn3 cc3 : Nat} (hv : Rd H (.slice aa3 nn3 cc3) nn3 1 (m.map bV)) (sh sl : Int) {v p : List (List UInt8)} {a1 a2 : Option Addr} {n1 n2 c1 c2 : Nat} (h1 : RdH H (.slice a1 n1 c1) 32 v) (h2 : RdH H (.slice a2 n2 c2) 32 p) (hm : 0 ≤ h ∧ h ≤ 4) (hml : m.length < 1000) (hLb : (wasAt L sl).length < 1000) (hvt : vrf (mprint seed h) m sh sl v p = true) (h0 : (wasAt L sl).length = 0) :
  Calls Tryz.prog 9 #[hV seed, .int .i64 h, .slice aa2 nn2 cc2, .slice aa3 nn3 cc3, .agg #[.int .i64 sh, .int .i64 sl, .slice a1 n1 c1, .slice a2 n2 c2]] w fun e w' => ∃ a1 c1 a2 c2, e = .returned (.tuple #[gV [[.slice a1 (fgO (expl seed (wasAt L sl) m h sh sl v p)).A.length c1], [.slice a2 (fgO (expl seed (wasAt L sl) m h sh sl v p)).B.length c2], [.bool (fgO (expl seed (wasAt L sl) m h sh sl v p)).k], [.int .i64 (fgO (expl seed (wasAt L sl) m h sh sl v p)).a], [.int .i64 (fgO (expl seed (wasAt L sl) m h sh sl v p)).c], [.int .i64 (fgO (expl seed (wasAt L sl) m h sh sl v p)).q], (fgO (expl seed (wasAt L sl) m h sh sl v p)).x.map bV], .bool (expl seed (wasAt L sl) m h sh sl v p).isSome]) ∧ Rd (F.ext H w.heap.size w') (.slice a1 (fgO (expl seed (wasAt L sl) m h sh sl v p)).A.length c1) (fgO (expl seed (wasAt L sl) m h sh sl v p)).A.length 1 ((fgO (expl seed (wasAt L sl) m h sh sl v p)).A.map bV) ∧ Rd (F.ext H w.heap.size w') (.slice a2 (fgO (expl seed (wasAt L sl) m h sh sl v p)).B.length c2) (fgO (expl seed (wasAt L sl) m h sh sl v p)).B.length 1 ((fgO (expl seed (wasAt L sl) m h sh sl v p)).B.map bV) ∧ Below w.heap.size w w' := by
 have hnw : ¬ (0 < (wasAt L sl).length ∧ (wasAt L sl) = m) := fun x => absurd x.1 (by omega)
 obtain rfl : nn2 = L.length := hL.len
 obtain rfl : nn3 = m.length := hv.lenB
 have hvcap : m.length ≤ cc3 := hv.capOf
 obtain rfl : n1 = v.length := h1.len
 obtain rfl : n2 = p.length := h2.len
 have hll := mleaves_len seed h.toNat
 have hp16 := pow16 (h := h) (by omega) (by omega)
 have ho := vrf_ok hvt
 obtain ⟨hs4, h67, hk⟩ := okS_may ho
 have hk2 := okW_of hk
 have hsp16 := pow16 (h := sh) hs4.1 hs4.2
 have hE : (expl seed (wasAt L sl) m h sh sl v p) = some _ := expl_yes hvt hnw
 have hdl := digits_len m
 have hdw := digits_len (wasAt L sl)
 have het := trueEnds_len seed sl 67
 have hev := ends_len m v 67
 refine enter5 _ Tryz.func9 rfl Tryz.ntmps9 Tryz.results9 rfl ?_
 have S0 := St.start w hH
 refine Wr (Ah S0 fun b1 w2 S3 => ?_)
 refine Ah S3 fun b4 w5 S6 => ?_
 refine Ac S6 fun b7 w8 S9 => ?_
 refine Pv (T_nil (W_seq ?_))
 obtain ⟨G11, hl12, S10, r13⟩ := S9.stillBlk 2 rfl
 obtain ⟨G15, hl16, S14, r17⟩ := S10.stillBlk 1 rfl
 refine W_region (T_loadGA _ S14 (still_cells (hl16 _ _ r13)) rfl rfl rfl rfl rfl rfl rfl rfl (hVs hs) (Pv ?_))
 refine Cs g_aumbry_aumbryref07_Leaves ((mssLeavesR_ok S14.le h hs (by omega)).mono ?_)
 rintro e w23 ⟨a18, c19, hc20, rfl, ho21, hB22⟩
 have S24 := S14.own hB22 ho21
 refine ⟨_, rfl, trivial, ?_⟩
 refine Pv (Nr ?_)
 refine Pv ?_
 obtain ⟨G26, hl27, S25, r28⟩ := S24.stillRow 0 rfl
 have r29 := RdH.mk (mleaves_all _ _) (by decide) r28
 refine Cs g_aumbry_aumbryref07_Root ((rootR_ok S25.le r29 (by omega)).mono ?_)
 rintro e w31 ⟨rfl, hB30⟩
 have S32 := S25.call hB30
 refine ⟨_, rfl, trivial, ?_⟩
 refine Ac S32 fun b33 w34 S35 => ?_
 refine Ag (hl := by exact hVs (root_len r29.1)) (hl2 := by exact hVs (root_len r29.1)) (h1 := by exact one_hA _) 0 S35 fun w36 S37 => (T_nil (W_seq ?_))
 obtain ⟨G39, hl40, S38, r41⟩ := S37.stillBlk 0 rfl
 refine W_region (Pv ?_)
 refine Fl 1 ?_
 refine Ab (r := by exact still_cell (hl40 _ _ (hl27 _ _ r17)) rfl) S38 ?_
 refine Cs g_aumbry_aumbryref07_signedBy ((signedNo_ok S38.le (hL.mono (hl12.trans (hl16.trans (hl27.trans hl40)))) sl h0).mono ?_)
 rintro e w43 ⟨rfl, hB42⟩
 have S44 := S38.call hB42
 refine ⟨_, rfl, trivial, ?_⟩
 refine Pv (T_nil ?_)
 iterate 2 refine W_seq ?_
 refine W_plan (planF Tryz.prog G39 [46]) rfl (by kernel_rfl) S44.le ?_
 have S45 := S44.drew
 refine T_loadGA _ S45 (still_cells (hl40 _ _ (hl27 _ _ (hl16 _ _ r13)))) rfl rfl rfl rfl rfl rfl rfl rfl (hVs hs) (Pv ?_)
 refine Cs g_aumbry_aumbryref07_Print ((mssPrintR_ok S45.le h hs (by omega)).mono ?_)
 rintro e w47 ⟨rfl, hB46⟩
 have S48 := S45.call hB46
 refine ⟨_, rfl, (((Hp.le.refl _)).trans S48.le), ?_⟩
 refine Pv ?_
 refine T_loadGAP _ (fun _ h => h) (still_cells (hl40 _ _ (hl27 _ _ r17))) rfl rfl rfl rfl rfl rfl rfl rfl (by first | rfl | simp [hVs, *]) ?_
 refine Cs g_aumbry_aumbryref07_Verify ((verifyR_ok S48.le (mprint_len _ _) sh sl (h1.mono (hl12.trans (hl16.trans (hl27.trans hl40)))) (h2.mono (hl12.trans (hl16.trans (hl27.trans hl40)))) (hv.mono (hl12.trans (hl16.trans (hl27.trans hl40)))) (by omega)).mono ?_)
 rintro e w50 ⟨rfl, hB49⟩
 have S51 := S48.call hB49
 refine ⟨_, rfl, (((Hp.le.refl _)).trans S51.le), ?_⟩
 refine P2 ?_
 refine T_bool 49 false rfl (by rw [hvt]; rfl) ?_
 refine Ys ?_
 refine Pv ?_
 refine Ys ?_
 refine T_snilN rfl rfl rfl rfl rfl rfl rfl (Ys ?_)
 refine Pv ?_
 refine T_bool 52 false rfl rfl ?_
 iterate 5 refine No ?_
 refine Ys ?_
 refine P2 (T_nil ?_)
 refine W_cond_false rfl (W_skip (Wr (Pv ?_)))
 refine Fl 2 ?_
 refine Ab (r := by exact still_cell (hl40 _ _ (hl27 _ _ r17)) rfl) S51 ?_
 refine Cs g_aumbry_aumbryref07_Recover ((recoverR_ok S51.le (hv.mono (hl12.trans (hl16.trans (hl27.trans hl40)))) (h1.mono (hl12.trans (hl16.trans (hl27.trans hl40)))) (by omega) (by omega)).mono ?_)
 rintro e w53 ⟨rfl, hB52⟩
 have S54 := S51.call hB52
 refine ⟨_, rfl, trivial, ?_⟩
 refine P3 ?_
 refine Ac S54 fun b55 w56 S57 => ?_
 refine Ag (hl := by exact hVs (pubH_len _)) (hl2 := by exact hVs (pubH_len _)) (h1 := by exact one_hA _) 0 S57 fun w58 S59 => ?_
 refine Pv (Nr ?_)
 refine Fl 0 ?_
 refine Ab (r := by exact still_cell (hl40 _ _ (hl27 _ _ r17)) rfl) S59 ?_
 refine Pv ?_
 refine T_re (v' := .int .u64 sh) (congrArg (Value.int .u64) (by rw [IntKind.wrap_u64]; omega)) ?_
 refine T_shl rfl rfl rfl rfl rfl rfl (by omega) ?_
 refine T_re (v' := .int .i64 ((2 ^ sh.toNat : Nat) : Int)) (congrArg (Value.int .i64) (shlI (by omega) (by omega))) ?_
 refine Fl 1 ?_
 refine Ab (r := by exact still_cell (hl40 _ _ (hl27 _ _ r17)) rfl) S59 ?_
 refine Ai (hl := by exact hVs (pubH_len _)) 0 S59 ?_
 refine Fl 3 ?_
 refine Ab (r := by exact still_cell (hl40 _ _ (hl27 _ _ r17)) rfl) S59 ?_
 refine Cs g_aumbry_aumbryref07_Climb ((climbR_ok S59.le ((2 ^ sh.toNat : Nat) : Int) sl (pubH_len _) (h2.mono (hl12.trans (hl16.trans (hl27.trans hl40))))).mono ?_)
 rintro e w61 ⟨rfl, hB60⟩
 have S62 := S59.call hB60
 refine ⟨_, rfl, trivial, ?_⟩
 refine P2 ?_
 refine T_re (v' := hV (climbS m sh sl v p)) (congrArg (fun q => hV q) (climbS_c hs4 h67).symm) (Pv ?_)
 refine Ac S62 fun b63 w64 S65 => ?_
 refine Ag (hl := by exact hVs (climbS_len _ _ _ _ _)) (hl2 := by exact hVs (climbS_len _ _ _ _ _)) (h1 := by exact one_hA _) 0 S65 fun w66 S67 => ?_
 refine Pv (T_nil ?_)
 iterate 2 refine W_seq ?_
 obtain ⟨G69, hl70, S68, r71⟩ := S67.stillBlk 1 rfl
 obtain ⟨G73, hl74, S72, r75⟩ := S68.stillBlk 0 rfl
 refine W_plan (planF Tryz.prog G73 [85, 86]) rfl (by kernel_rfl) S72.le ?_
 have S76 := S72.drew
 refine Pv ?_
 refine T_loadGA _ S76 (still_cells (hl74 _ _ (hl70 _ _ r41))) rfl rfl rfl rfl rfl rfl rfl rfl (hVs (root_len r29.1)) (Cs g_aumbry_aumbryref07_printText ((printTR_ok S76.le h (by omega) (root_len r29.1)).mono ?_))
 rintro e w82 ⟨a77, c78, hc79, rfl, ho80, hB81⟩
 have S83 := S76.own hB81 ho80
 refine ⟨_, rfl, (((Hp.le.refl _)).trans S83.le), ?_⟩
 refine Fl 0 ?_
 refine Ak (r := by exact still_cell (hl74 _ _ (hl70 _ _ (hl40 _ _ (hl27 _ _ r17)))) rfl) ?_
 refine T_loadGAP _ (fun _ h => h) (still_cells r75) rfl rfl rfl rfl rfl rfl rfl rfl (hVs (climbS_len _ _ _ _ _)) (Cs g_aumbry_aumbryref07_printText ((printTR_ok S83.le sh (by omega) (climbS_len _ _ _ _ _)).mono ?_))
 rintro e w89 ⟨a84, c85, hc86, rfl, ho87, hB88⟩
 have S90 := S83.own hB88 ho87
 refine ⟨_, rfl, (((Hp.le.refl _)).trans S90.le), ?_⟩
 refine P2 (Nr ?_)
 refine Pv ?_
 obtain ⟨G92, hl93, S91, r94⟩ := S90.stillRow 1 rfl
 refine T_convG S91 r94 rfl rfl rfl rfl rfl rfl rfl rfl rfl (Pv ?_)
 obtain ⟨G96, hl97, S95, r98⟩ := S91.stillRow 0 rfl
 refine T_convG S95 r98 rfl rfl rfl rfl rfl rfl rfl rfl rfl (T_strne rfl rfl rfl rfl rfl rfl (T_nil (W_cond_not rfl (fun h99 => ?_) (fun h99 => ?_))))
 ·refine W_seq ?_
  have hn1 : ¬ printT h (Go.Au.root (mleaves seed h.toNat)) = printT sh (climbS m sh sl v p) := (by first | exact h99 | simpa using h99)
  refine W_region (P2 ?_)
  refine T_buildS (cells := #[.slice a77 ((printT h (Go.Au.root (mleaves seed h.toNat))).length) c78, .slice a84 ((printT sh (climbS m sh sl v p)).length) c85]) rfl rfl rfl rfl rfl rfl rfl rfl rfl rfl (T_buildS (cells := (gV [[.slice a77 ((printT h (Go.Au.root (mleaves seed h.toNat))).length) c78], [.slice a84 ((printT sh (climbS m sh sl v p)).length) c85], [.bool false], [.int .i64 0], [.int .i64 0], [.int .i64 0], (List.replicate 32 0).map bV] : Value).cells) rfl rfl rfl rfl rfl rfl (fill_g (L := [[.slice none 0 0], [.slice none 0 0], [.bool false], [.int .i64 0], [.int .i64 0], [.int .i64 0], (List.replicate 32 0).map bV]) (ns := [1, 1, 1, 1, 1, 1, 32]) (v := .agg #[.slice a77 ((printT h (Go.Au.root (mleaves seed h.toNat))).length) c78, .slice a84 ((printT sh (climbS m sh sl v p)).length) c85]) (off := 0) (k := 2) rfl (Shp.cons rfl (Shp.cons rfl (Shp.cons rfl (Shp.cons rfl (Shp.cons rfl (Shp.cons rfl (Shp.cons (lenB List.length_replicate) Shp.nil))))))) 0 2 [[.slice a77 ((printT h (Go.Au.root (mleaves seed h.toNat))).length) c78], [.slice a84 ((printT sh (climbS m sh sl v p)).length) c85]] rfl (by first | rfl | simp [hVs, *]) rfl rfl fill_gnil) rfl rfl rfl ?_)
  refine Ag (hl := by exact gV_size (L := [[.slice a77 ((printT h (Go.Au.root (mleaves seed h.toNat))).length) c78], [.slice a84 ((printT sh (climbS m sh sl v p)).length) c85], [.bool false], [.int .i64 0], [.int .i64 0], [.int .i64 0], (List.replicate 32 0).map bV]) (ns := [1, 1, 1, 1, 1, 1, 32]) (Shp.cons rfl (Shp.cons rfl (Shp.cons rfl (Shp.cons rfl (Shp.cons rfl (Shp.cons rfl (Shp.cons (lenB List.length_replicate) Shp.nil))))))) rfl) (hl2 := by exact gV_size (L := [[.slice a77 ((printT h (Go.Au.root (mleaves seed h.toNat))).length) c78], [.slice a84 ((printT sh (climbS m sh sl v p)).length) c85], [.bool false], [.int .i64 0], [.int .i64 0], [.int .i64 0], (List.replicate 32 0).map bV]) (ns := [1, 1, 1, 1, 1, 1, 32]) (Shp.cons rfl (Shp.cons rfl (Shp.cons rfl (Shp.cons rfl (Shp.cons rfl (Shp.cons rfl (Shp.cons (lenB List.length_replicate) Shp.nil))))))) rfl) (h1 := by exact gV_one (OneL.one rfl (OneL.one rfl (OneL.one rfl (OneL.one rfl (OneL.one rfl (OneL.one rfl (OneL.arr OneL.nil)))))))) 0 S95 fun w100 S101 => ?_
  refine Pv (T_nil (W_ret ?_))
  refine ⟨_, ⟨_, _, _, rfl, rfl, run_loadVarA rfl rfl (gV_size (L := [[.slice a77 ((printT h (Go.Au.root (mleaves seed h.toNat))).length) c78], [.slice a84 ((printT sh (climbS m sh sl v p)).length) c85], [.bool false], [.int .i64 0], [.int .i64 0], [.int .i64 0], (List.replicate 32 0).map bV]) (ns := [1, 1, 1, 1, 1, 1, 32]) (Shp.cons rfl (Shp.cons rfl (Shp.cons rfl (Shp.cons rfl (Shp.cons rfl (Shp.cons rfl (Shp.cons (lenB List.length_replicate) Shp.nil))))))) rfl) (S101.cells 0 rfl), ⟨_, _, rfl, rfl, rfl⟩⟩, ?_⟩
  exact fg_end (f := fgO (expl seed (wasAt L sl) m h sh sl v p)) (b := (expl seed (wasAt L sl) m h sh sl v p).isSome) (f' := fgB (printT h (Go.Au.root (mleaves seed h.toNat))) (printT sh (climbS m sh sl v p))) (by rw [hE]; exact explS_1 hn1) (by rw [hE]; rfl) (r94.mono hl97) r98 S101.fin S101.below
 refine W_skip (W_seq ?_)
 have hp1 : printT h (Go.Au.root (mleaves seed h.toNat)) = printT sh (climbS m sh sl v p) := (by first | exact h99 | simpa using h99)
 have hhs := (printT_inj hm hs4 hp1).1
 have hsl2 : 0 ≤ sl ∧ sl < ((2 ^ h.toNat : Nat) : Int) := by rw [hhs]; exact ⟨hk2.1, hk2.2.1⟩
 refine W_j1 (fun ρ w' => ∃ (b132 : Nat) (a120 : Option Addr) (c121 : Nat) (a122 : Option Addr) (c123 : Nat) (G138 : Hp), ρ = [(3, .slice aa3 m.length cc3), (5, .pointer (some ⟨b1, 0, none⟩)), (9, .pointer (some ⟨b4, 0, none⟩)), (10, .pointer (some ⟨b7, 0, none⟩)), (11, .bool false), (14, .slice none 0 0), (21, .pointer (some ⟨b132, 0, none⟩)), (22, .bool ((brk (((2 ^ h.toNat) : Nat) : Int) sl (pub seed sl) (pubH (ends m v 67)) (Go.Au.beside (rowP (mleaves seed h.toNat)) sl.toNat (lg (mleaves seed h.toNat).length)) p).isSome))] ∧ G96.le G138 ∧ St w H G138 [.blk b7 (gV [[.slice none 0 0], [.slice none 0 0], [.bool false], [.int .i64 0], [.int .i64 0], [.int .i64 0], (List.replicate 32 0).map bV] : Value).cells 42, .blk b132 (.agg #[.slice a120 (brA (brk (((2 ^ h.toNat) : Nat) : Int) sl (pub seed sl) (pubH (ends m v 67)) (Go.Au.beside (rowP (mleaves seed h.toNat)) sl.toNat (lg (mleaves seed h.toNat).length)) p)).length c121, .slice a122 (brB (brk (((2 ^ h.toNat) : Nat) : Int) sl (pub seed sl) (pubH (ends m v 67)) (Go.Au.beside (rowP (mleaves seed h.toNat)) sl.toNat (lg (mleaves seed h.toNat).length)) p)).length c123] : Value).cells 35] w' ∧ Rd G138 (.slice a120 (brA (brk (((2 ^ h.toNat) : Nat) : Int) sl (pub seed sl) (pubH (ends m v 67)) (Go.Au.beside (rowP (mleaves seed h.toNat)) sl.toNat (lg (mleaves seed h.toNat).length)) p)).length c121) ((brA (brk (((2 ^ h.toNat) : Nat) : Int) sl (pub seed sl) (pubH (ends m v 67)) (Go.Au.beside (rowP (mleaves seed h.toNat)) sl.toNat (lg (mleaves seed h.toNat).length)) p)).length) 1 ((brA (brk (((2 ^ h.toNat) : Nat) : Int) sl (pub seed sl) (pubH (ends m v 67)) (Go.Au.beside (rowP (mleaves seed h.toNat)) sl.toNat (lg (mleaves seed h.toNat).length)) p)).map bV) ∧ Rd G138 (.slice a122 (brB (brk (((2 ^ h.toNat) : Nat) : Int) sl (pub seed sl) (pubH (ends m v 67)) (Go.Au.beside (rowP (mleaves seed h.toNat)) sl.toNat (lg (mleaves seed h.toNat).length)) p)).length c123) ((brB (brk (((2 ^ h.toNat) : Nat) : Int) sl (pub seed sl) (pubH (ends m v 67)) (Go.Au.beside (rowP (mleaves seed h.toNat)) sl.toNat (lg (mleaves seed h.toNat).length)) p)).length) 1 ((brB (brk (((2 ^ h.toNat) : Nat) : Int) sl (pub seed sl) (pubH (ends m v 67)) (Go.Au.beside (rowP (mleaves seed h.toNat)) sl.toNat (lg (mleaves seed h.toNat).length)) p)).map bV)) ?_ (fun J142 => ?_)
 ·rintro ρ w141 ⟨b132, a120, c121, a122, c123, G138, rfl, hl139, S140, r143, r144⟩
  refine Wr (Pv (T_nil ?_))
  refine W_cond rfl (fun h145 => ?_) (fun h145 => ?_)
  ·refine W_seq ?_
   have hb2 : (brkS seed m h sl v p).isSome = true := h145
   refine W_region (Ai (hl := by first | rfl | simp [hVs, *]) 1 S140 ?_)
   refine T_buildS (cells := (gV [[.slice a120 (brA (brk (((2 ^ h.toNat) : Nat) : Int) sl (pub seed sl) (pubH (ends m v 67)) (Go.Au.beside (rowP (mleaves seed h.toNat)) sl.toNat (lg (mleaves seed h.toNat).length)) p)).length c121], [.slice a122 (brB (brk (((2 ^ h.toNat) : Nat) : Int) sl (pub seed sl) (pubH (ends m v 67)) (Go.Au.beside (rowP (mleaves seed h.toNat)) sl.toNat (lg (mleaves seed h.toNat).length)) p)).length c123], [.bool false], [.int .i64 0], [.int .i64 0], [.int .i64 0], (List.replicate 32 0).map bV] : Value).cells) rfl rfl rfl rfl rfl rfl (fill_g (L := [[.slice none 0 0], [.slice none 0 0], [.bool false], [.int .i64 0], [.int .i64 0], [.int .i64 0], (List.replicate 32 0).map bV]) (ns := [1, 1, 1, 1, 1, 1, 32]) (v := .agg #[.slice a120 (brA (brk (((2 ^ h.toNat) : Nat) : Int) sl (pub seed sl) (pubH (ends m v 67)) (Go.Au.beside (rowP (mleaves seed h.toNat)) sl.toNat (lg (mleaves seed h.toNat).length)) p)).length c121, .slice a122 (brB (brk (((2 ^ h.toNat) : Nat) : Int) sl (pub seed sl) (pubH (ends m v 67)) (Go.Au.beside (rowP (mleaves seed h.toNat)) sl.toNat (lg (mleaves seed h.toNat).length)) p)).length c123]) (off := 0) (k := 2) rfl (Shp.cons rfl (Shp.cons rfl (Shp.cons rfl (Shp.cons rfl (Shp.cons rfl (Shp.cons rfl (Shp.cons (lenB List.length_replicate) Shp.nil))))))) 0 2 [[.slice a120 (brA (brk (((2 ^ h.toNat) : Nat) : Int) sl (pub seed sl) (pubH (ends m v 67)) (Go.Au.beside (rowP (mleaves seed h.toNat)) sl.toNat (lg (mleaves seed h.toNat).length)) p)).length c121], [.slice a122 (brB (brk (((2 ^ h.toNat) : Nat) : Int) sl (pub seed sl) (pubH (ends m v 67)) (Go.Au.beside (rowP (mleaves seed h.toNat)) sl.toNat (lg (mleaves seed h.toNat).length)) p)).length c123]] rfl (by first | rfl | simp [hVs, *]) rfl rfl fill_gnil) rfl rfl rfl ?_
   refine Ag (hl := by exact gV_size (L := [[.slice a120 (brA (brk (((2 ^ h.toNat) : Nat) : Int) sl (pub seed sl) (pubH (ends m v 67)) (Go.Au.beside (rowP (mleaves seed h.toNat)) sl.toNat (lg (mleaves seed h.toNat).length)) p)).length c121], [.slice a122 (brB (brk (((2 ^ h.toNat) : Nat) : Int) sl (pub seed sl) (pubH (ends m v 67)) (Go.Au.beside (rowP (mleaves seed h.toNat)) sl.toNat (lg (mleaves seed h.toNat).length)) p)).length c123], [.bool false], [.int .i64 0], [.int .i64 0], [.int .i64 0], (List.replicate 32 0).map bV]) (ns := [1, 1, 1, 1, 1, 1, 32]) (Shp.cons rfl (Shp.cons rfl (Shp.cons rfl (Shp.cons rfl (Shp.cons rfl (Shp.cons rfl (Shp.cons (lenB List.length_replicate) Shp.nil))))))) rfl) (hl2 := by exact gV_size (L := [[.slice a120 (brA (brk (((2 ^ h.toNat) : Nat) : Int) sl (pub seed sl) (pubH (ends m v 67)) (Go.Au.beside (rowP (mleaves seed h.toNat)) sl.toNat (lg (mleaves seed h.toNat).length)) p)).length c121], [.slice a122 (brB (brk (((2 ^ h.toNat) : Nat) : Int) sl (pub seed sl) (pubH (ends m v 67)) (Go.Au.beside (rowP (mleaves seed h.toNat)) sl.toNat (lg (mleaves seed h.toNat).length)) p)).length c123], [.bool false], [.int .i64 0], [.int .i64 0], [.int .i64 0], (List.replicate 32 0).map bV]) (ns := [1, 1, 1, 1, 1, 1, 32]) (Shp.cons rfl (Shp.cons rfl (Shp.cons rfl (Shp.cons rfl (Shp.cons rfl (Shp.cons rfl (Shp.cons (lenB List.length_replicate) Shp.nil))))))) rfl) (h1 := by exact gV_one (OneL.one rfl (OneL.one rfl (OneL.one rfl (OneL.one rfl (OneL.one rfl (OneL.one rfl (OneL.arr OneL.nil)))))))) 0 S140 fun w146 S147 => ?_
   refine Pv (T_nil (W_ret ?_))
   refine ⟨_, ⟨_, _, _, rfl, rfl, run_loadVarA rfl rfl (gV_size (L := [[.slice a120 (brA (brk (((2 ^ h.toNat) : Nat) : Int) sl (pub seed sl) (pubH (ends m v 67)) (Go.Au.beside (rowP (mleaves seed h.toNat)) sl.toNat (lg (mleaves seed h.toNat).length)) p)).length c121], [.slice a122 (brB (brk (((2 ^ h.toNat) : Nat) : Int) sl (pub seed sl) (pubH (ends m v 67)) (Go.Au.beside (rowP (mleaves seed h.toNat)) sl.toNat (lg (mleaves seed h.toNat).length)) p)).length c123], [.bool false], [.int .i64 0], [.int .i64 0], [.int .i64 0], (List.replicate 32 0).map bV]) (ns := [1, 1, 1, 1, 1, 1, 32]) (Shp.cons rfl (Shp.cons rfl (Shp.cons rfl (Shp.cons rfl (Shp.cons rfl (Shp.cons rfl (Shp.cons (lenB List.length_replicate) Shp.nil))))))) rfl) (S147.cells 0 rfl), ⟨_, _, rfl, rfl, rfl⟩⟩, ?_⟩
   exact fg_end (f := fgO (expl seed (wasAt L sl) m h sh sl v p)) (b := (expl seed (wasAt L sl) m h sh sl v p).isSome) (f' := fgB (brA (brkS seed m h sl v p)) (brB (brkS seed m h sl v p))) (by rw [hE]; exact explS_2 hp1 hb2) (by rw [hE]; rfl) r143 r144 S147.fin S147.below
  refine W_skip (W_seq ?_)
  have hb2 : (brkS seed m h sl v p).isSome = false := h145
  refine W_region (Pv ?_)
  refine Fl 2 ?_
  refine Ab (r := by exact still_cell (hl139 _ _ (hl97 _ _ (hl93 _ _ (hl74 _ _ (hl70 _ _ (hl40 _ _ (hl27 _ _ r17))))))) rfl) S140 ?_
  refine Cs g_aumbry_aumbryref07_Ends ((endsVR_ok S140.le (hv.mono (hl12.trans (hl16.trans (hl27.trans (hl40.trans (hl70.trans (hl74.trans (hl93.trans (hl97.trans hl139))))))))) (h1.mono (hl12.trans (hl16.trans (hl27.trans (hl40.trans (hl70.trans (hl74.trans (hl93.trans (hl97.trans hl139))))))))) (by omega) (by omega)).mono ?_)
  rintro e w153 ⟨a148, c149, hc150, rfl, ho151, hB152⟩
  have S154 := S140.own hB152 ho151
  refine ⟨_, rfl, trivial, ?_⟩
  iterate 5 refine Pv ?_
  refine T_nil (W_seq (Wr (T_loadGA _ S154 (still_cells (hl139 _ _ (hl97 _ _ (hl93 _ _ (hl74 _ _ (hl70 _ _ (hl40 _ _ (hl27 _ _ (hl16 _ _ r13))))))))) rfl rfl rfl rfl rfl rfl rfl rfl (hVs hs) (Fl 1 ?_))))
  refine Ab (r := by exact still_cell (hl139 _ _ (hl97 _ _ (hl93 _ _ (hl74 _ _ (hl70 _ _ (hl40 _ _ (hl27 _ _ r17))))))) rfl) S154 ?_
  refine Cs g_aumbry_aumbryref07_ends ((endsR_ok S154.le sl hs (by omega)).mono ?_)
  rintro e w160 ⟨a155, c156, hc157, rfl, ho158, hB159⟩
  have S161 := S154.own hB159 ho158
  refine ⟨_, rfl, trivial, ?_⟩
  obtain ⟨G163, hl164, S162, r165⟩ := S161.stillRow 0 rfl
  have r166 := RdH.mk (trueEnds_all _ _ _) (by decide) r165
  refine Cs g_aumbry_aumbryref07_publicText ((pubTextR_ok S162.le r166 (by omega)).mono ?_)
  rintro e w172 ⟨a167, c168, hc169, rfl, ho170, hB171⟩
  have S173 := S162.own hB171 ho170
  refine ⟨_, rfl, trivial, ?_⟩
  refine Pv ?_
  obtain ⟨G175, hl176, S174, r177⟩ := S173.stillRow 1 rfl
  have r178 := RdH.mk (ends_all (h1.mono (hl12.trans (hl16.trans (hl27.trans (hl40.trans (hl70.trans (hl74.trans (hl93.trans (hl97.trans hl139))))))))).1 (by omega)) (by decide) r177
  refine Cs g_aumbry_aumbryref07_publicText ((pubTextR_ok S174.le r178 (by omega)).mono ?_)
  rintro e w184 ⟨a179, c180, hc181, rfl, ho182, hB183⟩
  have S185 := S174.own hB183 ho182
  refine ⟨_, rfl, trivial, ?_⟩
  refine P2 (Nr ?_)
  refine Pv ?_
  obtain ⟨G187, hl188, S186, r189⟩ := S185.stillRow 1 rfl
  refine T_convG S186 r189 rfl rfl rfl rfl rfl rfl rfl rfl rfl (Pv ?_)
  obtain ⟨G191, hl192, S190, r193⟩ := S186.stillRow 0 rfl
  refine T_convG S190 r193 rfl rfl rfl rfl rfl rfl rfl rfl rfl (T_strne rfl rfl rfl rfl rfl rfl (T_nil (W_cond_not rfl (fun h194 => ?_) (fun h194 => ?_))))
  ·refine W_seq ?_
   have hn3 : ¬ pubT (trueEnds seed sl 67) = pubT (ends m v 67) := (by first | exact h194 | simpa using h194)
   refine W_region (P2 ?_)
   refine T_buildS (cells := #[.slice a167 ((Go.Au.text [112, 117, 98, 108, 105, 99] (trueEnds seed sl 67)).length) c168, .slice a179 ((Go.Au.text [112, 117, 98, 108, 105, 99] (ends m v 67)).length) c180]) rfl rfl rfl rfl rfl rfl rfl rfl rfl rfl (T_buildS (cells := (gV [[.slice a167 ((Go.Au.text [112, 117, 98, 108, 105, 99] (trueEnds seed sl 67)).length) c168], [.slice a179 ((Go.Au.text [112, 117, 98, 108, 105, 99] (ends m v 67)).length) c180], [.bool false], [.int .i64 0], [.int .i64 0], [.int .i64 0], (List.replicate 32 0).map bV] : Value).cells) rfl rfl rfl rfl rfl rfl (fill_g (L := [[.slice none 0 0], [.slice none 0 0], [.bool false], [.int .i64 0], [.int .i64 0], [.int .i64 0], (List.replicate 32 0).map bV]) (ns := [1, 1, 1, 1, 1, 1, 32]) (v := .agg #[.slice a167 ((Go.Au.text [112, 117, 98, 108, 105, 99] (trueEnds seed sl 67)).length) c168, .slice a179 ((Go.Au.text [112, 117, 98, 108, 105, 99] (ends m v 67)).length) c180]) (off := 0) (k := 2) rfl (Shp.cons rfl (Shp.cons rfl (Shp.cons rfl (Shp.cons rfl (Shp.cons rfl (Shp.cons rfl (Shp.cons (lenB List.length_replicate) Shp.nil))))))) 0 2 [[.slice a167 ((Go.Au.text [112, 117, 98, 108, 105, 99] (trueEnds seed sl 67)).length) c168], [.slice a179 ((Go.Au.text [112, 117, 98, 108, 105, 99] (ends m v 67)).length) c180]] rfl (by first | rfl | simp [hVs, *]) rfl rfl fill_gnil) rfl rfl rfl ?_)
   refine Ag (hl := by exact gV_size (L := [[.slice a167 ((Go.Au.text [112, 117, 98, 108, 105, 99] (trueEnds seed sl 67)).length) c168], [.slice a179 ((Go.Au.text [112, 117, 98, 108, 105, 99] (ends m v 67)).length) c180], [.bool false], [.int .i64 0], [.int .i64 0], [.int .i64 0], (List.replicate 32 0).map bV]) (ns := [1, 1, 1, 1, 1, 1, 32]) (Shp.cons rfl (Shp.cons rfl (Shp.cons rfl (Shp.cons rfl (Shp.cons rfl (Shp.cons rfl (Shp.cons (lenB List.length_replicate) Shp.nil))))))) rfl) (hl2 := by exact gV_size (L := [[.slice a167 ((Go.Au.text [112, 117, 98, 108, 105, 99] (trueEnds seed sl 67)).length) c168], [.slice a179 ((Go.Au.text [112, 117, 98, 108, 105, 99] (ends m v 67)).length) c180], [.bool false], [.int .i64 0], [.int .i64 0], [.int .i64 0], (List.replicate 32 0).map bV]) (ns := [1, 1, 1, 1, 1, 1, 32]) (Shp.cons rfl (Shp.cons rfl (Shp.cons rfl (Shp.cons rfl (Shp.cons rfl (Shp.cons rfl (Shp.cons (lenB List.length_replicate) Shp.nil))))))) rfl) (h1 := by exact gV_one (OneL.one rfl (OneL.one rfl (OneL.one rfl (OneL.one rfl (OneL.one rfl (OneL.one rfl (OneL.arr OneL.nil)))))))) 0 S190 fun w195 S196 => ?_
   refine Pv (T_nil (W_ret ?_))
   refine ⟨_, ⟨_, _, _, rfl, rfl, run_loadVarA rfl rfl (gV_size (L := [[.slice a167 ((Go.Au.text [112, 117, 98, 108, 105, 99] (trueEnds seed sl 67)).length) c168], [.slice a179 ((Go.Au.text [112, 117, 98, 108, 105, 99] (ends m v 67)).length) c180], [.bool false], [.int .i64 0], [.int .i64 0], [.int .i64 0], (List.replicate 32 0).map bV]) (ns := [1, 1, 1, 1, 1, 1, 32]) (Shp.cons rfl (Shp.cons rfl (Shp.cons rfl (Shp.cons rfl (Shp.cons rfl (Shp.cons rfl (Shp.cons (lenB List.length_replicate) Shp.nil))))))) rfl) (S196.cells 0 rfl), ⟨_, _, rfl, rfl, rfl⟩⟩, ?_⟩
   exact fg_end (f := fgO (expl seed (wasAt L sl) m h sh sl v p)) (b := (expl seed (wasAt L sl) m h sh sl v p).isSome) (f' := fgB (pubT (trueEnds seed sl 67)) (pubT (ends m v 67))) (by rw [hE]; exact explS_3 hp1 hb2 hn3) (by rw [hE]; rfl) (r189.mono hl192) r193 S196.fin S196.below
  refine W_skip (W_seq ?_)
  have hp3 : pubT (trueEnds seed sl 67) = pubT (ends m v 67) := (by first | exact h194 | simpa using h194)
  refine W_region (Pv ?_)
  refine Cs g_aumbry_aumbryref07_Digits ((digitsR_w_ok S190.le (hv.mono (hl12.trans (hl16.trans (hl27.trans (hl40.trans (hl70.trans (hl74.trans (hl93.trans (hl97.trans (hl139.trans (hl164.trans (hl176.trans (hl188.trans hl192))))))))))))) (by omega)).mono ?_)
  rintro e w202 ⟨a197, c198, hc199, rfl, ho200, hB201⟩
  have S203 := S190.own hB201 ho200
  refine ⟨_, rfl, trivial, ?_⟩
  refine Pv (Nr ?_)
  refine Pv (T_nil (W_seq (Wr ?_)))
  refine Pv ?_
  refine T_snilN rfl rfl rfl rfl rfl rfl rfl (T_nil (W_bool 146 false rfl rfl (W_cond_false rfl (W_skip ?_))))
  iterate 2 refine W_seq ?_
  have hdk := digits_at m 0 (by omega)
  obtain ⟨d, hd⟩ : ∃ d : Nat, ((Go.Au.digits m).getD 0 0) = (d : Int) := ⟨((Go.Au.digits m).getD 0 0).toNat, by omega⟩
  have hd15 : d ≤ 15 := by omega
  have hxl : (v.getD 0 []).length = 32 := len_h h1.1 0 (by omega)
  have hS5 : fgO (expl seed (wasAt L sl) m h sh sl v p) = stepF seed sl (0 : Int) d (v.getD 0 []) := by rw [hE]; exact (explS_5 hp1 hb2 hp3 (fun x => absurd x.1 (by omega))).trans (by rw [chW_0 h0, hd, Int.toNat_natCast]; rfl)
  refine W_region (Pv (T_nil (W_block ?_)))
  obtain ⟨G205, hl206, S204, r207⟩ := S203.stillRow 0 rfl
  refine W_loop (fun M ρ w' => ∃ (j : Nat) (G208 : Hp), M = 1 + j ∧ j ≤ 15 - d ∧ lastF (ownC seed sl (0 : Int) d) (fun i => Go.Au.steps i (v.getD 0 [])) (15 - d) = lastF (ownC seed sl (0 : Int) d) (fun i => Go.Au.steps i (v.getD 0 [])) j ∧ ρ = [(5, .pointer (some ⟨b1, 0, none⟩)), (9, .pointer (some ⟨b4, 0, none⟩)), (10, .pointer (some ⟨b7, 0, none⟩)), (27, .slice a197 67 c198), (28, .int .i64 0), (30, .int .i64 (((d + j : Nat) : Int) - 1))] ∧ G205.le G208 ∧ St w H G208 [.blk b7 (gV [[.slice none 0 0], [.slice none 0 0], [.bool false], [.int .i64 0], [.int .i64 0], [.int .i64 0], (List.replicate 32 0).map bV] : Value).cells 42, .blk b132 (.agg #[.slice a120 (brA (brk (((2 ^ h.toNat) : Nat) : Int) sl (pub seed sl) (pubH (ends m v 67)) (Go.Au.beside (rowP (mleaves seed h.toNat)) sl.toNat (lg (mleaves seed h.toNat).length)) p)).length c121, .slice a122 (brB (brk (((2 ^ h.toNat) : Nat) : Int) sl (pub seed sl) (pubH (ends m v 67)) (Go.Au.beside (rowP (mleaves seed h.toNat)) sl.toNat (lg (mleaves seed h.toNat).length)) p)).length c123] : Value).cells 35] w')
   (1 + (15 - d)) [(5, .pointer (some ⟨b1, 0, none⟩)), (9, .pointer (some ⟨b4, 0, none⟩)), (10, .pointer (some ⟨b7, 0, none⟩)), (27, .slice a197 67 c198), (28, .int .i64 0), (30, .int .i64 (((d + (15 - d) : Nat) : Int) - 1))] ⟨rfl, rfl, rfl, rfl, ciI, ciI, trivial⟩ ⟨15 - d, G205, rfl, (by omega), (by rfl), rfl, Hp.le.refl _, S204⟩ ?_
  rintro M ρ w210 ⟨j, G208, rfl, hp212, hinv, rfl, hl209, S211⟩
  refine W_seq (Wr (P3 ?_))
  refine Af 0 (r207.mono hl209) fun b214 o215 hc216 => ?_
  have hc217 := hc216 0 (.int .i64 ((Go.Au.digits m).getD 0 0)) (at_i (Go.Au.digits m) 0 (by omega))
  simp only [Nat.add_zero] at hc217
  refine Ab (r := by exact hc217) S211 ?_
  refine T_re (v' := .int .i64 ((d : Nat) : Int)) (congrArg (Value.int .i64) hd) (Pv (T_nil ?_))
  refine Aa (fun h218 => ?_) (fun h218 => ?_)
  ·refine W_skip (W_seq (W_block ?_))
   obtain ⟨i, rfl⟩ : ∃ i, j = i + 1 := ⟨j - 1, by omega⟩
   refine W_j1 (fun ρ w' => ∃ (b238 : Nat) (b241 : Nat) (G251 : Hp), ρ = [(5, .pointer (some ⟨b1, 0, none⟩)), (9, .pointer (some ⟨b4, 0, none⟩)), (10, .pointer (some ⟨b7, 0, none⟩)), (27, .slice a197 67 c198), (28, .int .i64 0), (30, .int .i64 (((d + (i + 1) : Nat) : Int) - 1)), (31, .pointer (some ⟨b238, 0, none⟩)), (32, .pointer (some ⟨b241, 0, none⟩))] ∧ G208.le G251 ∧ St w H G251 [.blk b7 (gV [[.slice none 0 0], [.slice none 0 0], [.bool false], [.int .i64 0], [.int .i64 0], [.int .i64 0], (List.replicate 32 0).map bV] : Value).cells 42, .blk b238 (hV (ownC seed sl (0 : Int) d i) : Value).cells 37, .blk b241 (hV (Go.Au.steps i (v.getD 0 [])) : Value).cells 37, .blk b132 (.agg #[.slice a120 (brA (brk (((2 ^ h.toNat) : Nat) : Int) sl (pub seed sl) (pubH (ends m v 67)) (Go.Au.beside (rowP (mleaves seed h.toNat)) sl.toNat (lg (mleaves seed h.toNat).length)) p)).length c121, .slice a122 (brB (brk (((2 ^ h.toNat) : Nat) : Int) sl (pub seed sl) (pubH (ends m v 67)) (Go.Au.beside (rowP (mleaves seed h.toNat)) sl.toNat (lg (mleaves seed h.toNat).length)) p)).length c123] : Value).cells 35] w') ?_ (fun J255 => ?_)
   ·rintro ρ w254 ⟨b238, b241, G251, rfl, hl252, S253⟩
    refine W_seq ?_
    obtain ⟨G257, hl258, S256, r259⟩ := S253.stillBlk 1 rfl
    obtain ⟨G261, hl262, S260, r263⟩ := S256.stillBlk 1 rfl
    refine W_region (T_loadGA _ S260 (still_cells (hl262 _ _ r259)) rfl rfl rfl rfl rfl rfl rfl rfl (hVs (steps_len _ (start_len _ _ _))) (T_loadGA _ S260 (still_cells r263) rfl rfl rfl rfl rfl rfl rfl rfl (hVs (steps_len _ hxl)) (T_neB (xs := ownC seed sl (0 : Int) d i) (ys := Go.Au.steps i (v.getD 0 [])) rfl rfl rfl rfl rfl rfl rfl rfl rfl rfl rfl (steps_len _ (start_len _ _ _)) (steps_len _ hxl) (T_nil (W_cond_not rfl (fun h264 => ?_) (fun h264 => ?_))))))
    ·refine W_seq (W_plan (planF Tryz.prog G261 [206]) rfl (by kernel_rfl) S260.le ?_)
     have S265 := S260.drew
     refine T_loadGA _ S265 (still_cells (hl262 _ _ r259)) rfl rfl rfl rfl rfl rfl rfl rfl (hVs (steps_len _ (start_len _ _ _))) (Cs g_aumbry_aumbryref07_stepText ((stepT_ok S265.le (steps_len _ (start_len _ _ _))).mono ?_))
     rintro e w271 ⟨a266, c267, hc268, rfl, ho269, hB270⟩
     have S272 := S265.own hB270 ho269
     refine ⟨_, rfl, (((Hp.le.refl _)).trans S272.le), ?_⟩
     refine T_loadGAP _ (fun _ h => h) (still_cells r263) rfl rfl rfl rfl rfl rfl rfl rfl (hVs (steps_len _ hxl)) (Cs g_aumbry_aumbryref07_stepText ((stepT_ok S272.le (steps_len _ hxl)).mono ?_))
     rintro e w278 ⟨a273, c274, hc275, rfl, ho276, hB277⟩
     have S279 := S272.own hB277 ho276
     refine ⟨_, rfl, (((Hp.le.refl _)).trans S279.le), ?_⟩
     obtain ⟨G281, hl282, S280, r283⟩ := S279.stillRow 1 rfl
     obtain ⟨G285, hl286, S284, r287⟩ := S280.stillRow 0 rfl
     refine T_buildS (cells := #[.slice a266 ((Go.Au.stepT (ownC seed sl (0 : Int) d i)).length) c267, .slice a273 ((Go.Au.stepT (Go.Au.steps i (v.getD 0 []))).length) c274]) rfl rfl rfl rfl rfl rfl rfl rfl rfl rfl (T_buildS (cells := (gV [[.slice a266 ((Go.Au.stepT (ownC seed sl (0 : Int) d i)).length) c267], [.slice a273 ((Go.Au.stepT (Go.Au.steps i (v.getD 0 []))).length) c274], [.bool false], [.int .i64 0], [.int .i64 0], [.int .i64 0], (List.replicate 32 0).map bV] : Value).cells) rfl rfl rfl rfl rfl rfl (fill_g (L := [[.slice none 0 0], [.slice none 0 0], [.bool false], [.int .i64 0], [.int .i64 0], [.int .i64 0], (List.replicate 32 0).map bV]) (ns := [1, 1, 1, 1, 1, 1, 32]) (v := .agg #[.slice a266 ((Go.Au.stepT (ownC seed sl (0 : Int) d i)).length) c267, .slice a273 ((Go.Au.stepT (Go.Au.steps i (v.getD 0 []))).length) c274]) (off := 0) (k := 2) rfl (Shp.cons rfl (Shp.cons rfl (Shp.cons rfl (Shp.cons rfl (Shp.cons rfl (Shp.cons rfl (Shp.cons (lenB List.length_replicate) Shp.nil))))))) 0 2 [[.slice a266 ((Go.Au.stepT (ownC seed sl (0 : Int) d i)).length) c267], [.slice a273 ((Go.Au.stepT (Go.Au.steps i (v.getD 0 []))).length) c274]] rfl (by first | rfl | simp [hVs, *]) rfl rfl fill_gnil) rfl rfl rfl ?_)
     refine Ag (hC := fun _ h => ((hl282.trans hl286)).trans h) (hl := by exact gV_size (L := [[.slice a266 ((Go.Au.stepT (ownC seed sl (0 : Int) d i)).length) c267], [.slice a273 ((Go.Au.stepT (Go.Au.steps i (v.getD 0 []))).length) c274], [.bool false], [.int .i64 0], [.int .i64 0], [.int .i64 0], (List.replicate 32 0).map bV]) (ns := [1, 1, 1, 1, 1, 1, 32]) (Shp.cons rfl (Shp.cons rfl (Shp.cons rfl (Shp.cons rfl (Shp.cons rfl (Shp.cons rfl (Shp.cons (lenB List.length_replicate) Shp.nil))))))) rfl) (hl2 := by exact gV_size (L := [[.slice a266 ((Go.Au.stepT (ownC seed sl (0 : Int) d i)).length) c267], [.slice a273 ((Go.Au.stepT (Go.Au.steps i (v.getD 0 []))).length) c274], [.bool false], [.int .i64 0], [.int .i64 0], [.int .i64 0], (List.replicate 32 0).map bV]) (ns := [1, 1, 1, 1, 1, 1, 32]) (Shp.cons rfl (Shp.cons rfl (Shp.cons rfl (Shp.cons rfl (Shp.cons rfl (Shp.cons rfl (Shp.cons (lenB List.length_replicate) Shp.nil))))))) rfl) (h1 := by exact gV_one (OneL.one rfl (OneL.one rfl (OneL.one rfl (OneL.one rfl (OneL.one rfl (OneL.one rfl (OneL.arr OneL.nil)))))))) 0 S284 fun w288 S289 => ?_
     refine Pv (T_nil (W_ret ?_))
     refine ⟨_, ⟨_, _, _, rfl, rfl, run_loadVarA rfl rfl (gV_size (L := [[.slice a266 ((Go.Au.stepT (ownC seed sl (0 : Int) d i)).length) c267], [.slice a273 ((Go.Au.stepT (Go.Au.steps i (v.getD 0 []))).length) c274], [.bool false], [.int .i64 0], [.int .i64 0], [.int .i64 0], (List.replicate 32 0).map bV]) (ns := [1, 1, 1, 1, 1, 1, 32]) (Shp.cons rfl (Shp.cons rfl (Shp.cons rfl (Shp.cons rfl (Shp.cons rfl (Shp.cons rfl (Shp.cons (lenB List.length_replicate) Shp.nil))))))) rfl) (S289.cells 0 rfl), ⟨_, _, rfl, rfl, rfl⟩⟩, ?_⟩
     exact fg_end (f := fgO (expl seed (wasAt L sl) m h sh sl v p)) (b := (expl seed (wasAt L sl) m h sh sl v p).isSome) (f' := fgB (Go.Au.stepT (ownC seed sl (0 : Int) d i)) (Go.Au.stepT (Go.Au.steps i (v.getD 0 [])))) (hS5.trans (stepF_some (hinv.trans (lastF_ne (by first | exact h264 | simpa using h264))))) (by rw [hE]; rfl) (r283.mono hl286) r287 S289.fin S289.below
    refine W_skip (W_region (Pv ?_))
    refine Ar ?_
    refine Pv (T_nil ?_)
    have HEQ := hinv.trans (lastF_eq (f := ownC seed sl (0 : Int) d) (g := fun i => Go.Au.steps i (v.getD 0 [])) (by first | exact h264 | simpa using h264))
    exact ⟨1 + i, [(5, .pointer (some ⟨b1, 0, none⟩)), (9, .pointer (some ⟨b4, 0, none⟩)), (10, .pointer (some ⟨b7, 0, none⟩)), (27, .slice a197 67 c198), (28, .int .i64 0), (30, .int .i64 (((d + i : Nat) : Int) - 1))], by omega, ⟨rfl, rfl, rfl, rfl, ciI, ciI, trivial⟩, i, G261, rfl, (by omega), (by exact HEQ), rfl, (hl209.trans (hl252.trans (hl258.trans hl262))), S260⟩
   refine W_seq (W_tree (planF Tryz.prog G208 [182, 184, 190, 193, 198]) (.step 0 (.step 1 (.step 2 (.step 3 (.step 5 (.step 7 (.step 8 (.step 9 (.step 10 (.step 11 (.step 12 (.step 13 (.step 14 (.step 15 (.step 16 (.step 17 (.fork3 4 19 20 (.fork3 6 19 20 (.fork3 18 19 20 (.fork 19 20 (.step 20 (.step 21 (.step 22 .done))) (.step 19 (.step 21 (.step 22 .done)))) (.fork 18 20 (.step 20 (.step 21 (.step 22 .done))) (.step 18 (.step 21 (.step 22 .done)))) (.fork 18 19 (.step 19 (.step 21 (.step 22 .done))) (.step 18 (.step 21 (.step 22 .done))))) (.fork 6 20 (.fork 18 20 (.step 20 (.step 21 (.step 22 .done))) (.step 18 (.step 21 (.step 22 .done)))) (.step 6 (.step 18 (.step 21 (.step 22 .done))))) (.fork 6 19 (.fork 18 19 (.step 19 (.step 21 (.step 22 .done))) (.step 18 (.step 21 (.step 22 .done)))) (.step 6 (.step 18 (.step 21 (.step 22 .done)))))) (.fork 4 20 (.fork 6 20 (.fork 18 20 (.step 20 (.step 21 (.step 22 .done))) (.step 18 (.step 21 (.step 22 .done)))) (.step 6 (.step 18 (.step 21 (.step 22 .done))))) (.step 4 (.step 6 (.step 18 (.step 21 (.step 22 .done)))))) (.fork 4 19 (.fork 6 19 (.fork 18 19 (.step 19 (.step 21 (.step 22 .done))) (.step 18 (.step 21 (.step 22 .done)))) (.step 6 (.step 18 (.step 21 (.step 22 .done))))) (.step 4 (.step 6 (.step 18 (.step 21 (.step 22 .done))))))))))))))))))))))) rfl (by kernel_rfl) S211.le ?_)
   have S290 := S211.drew
   refine TT_step rfl (T_loadGAP _ (fun _ h => h) (still_cells (hl209 _ _ (hl206 _ _ (hl192 _ _ (hl188 _ _ (hl176 _ _ (hl164 _ _ (hl139 _ _ (hl97 _ _ (hl93 _ _ (hl74 _ _ (hl70 _ _ (hl40 _ _ (hl27 _ _ (hl16 _ _ r13))))))))))))))) rfl rfl rfl rfl rfl rfl rfl rfl (hVs hs) (Nt rfl (Fl 1 ?_)))
   refine Nt rfl (Ak (r := by exact still_cell (hl209 _ _ (hl206 _ _ (hl192 _ _ (hl188 _ _ (hl176 _ _ (hl164 _ _ (hl139 _ _ (hl97 _ _ (hl93 _ _ (hl74 _ _ (hl70 _ _ (hl40 _ _ (hl27 _ _ r17))))))))))))) rfl) ?_)
   iterate 2 (refine T_nil ?_; refine TT_step rfl ?_; refine Pv ?_)
   refine Nt rfl (Fl 2 ?_)
   refine Nt rfl (Ak (r := by exact still_cell (hl209 _ _ (hl206 _ _ (hl192 _ _ (hl188 _ _ (hl176 _ _ (hl164 _ _ (hl139 _ _ (hl97 _ _ (hl93 _ _ (hl74 _ _ (hl70 _ _ (hl40 _ _ (hl27 _ _ r17))))))))))))) rfl) ?_)
   refine Nt rfl (Pv ?_)
   refine Nt rfl (Af 0 (h1.mono (hl12.trans (hl16.trans (hl27.trans (hl40.trans (hl70.trans (hl74.trans (hl93.trans (hl97.trans (hl139.trans (hl164.trans (hl176.trans (hl188.trans (hl192.trans (hl206.trans hl209))))))))))))))).2 fun b291 o292 hc293 => ?_)
   have hc294 := cells_h (h1.mono (hl12.trans (hl16.trans (hl27.trans (hl40.trans (hl70.trans (hl74.trans (hl93.trans (hl97.trans (hl139.trans (hl164.trans (hl176.trans (hl188.trans (hl192.trans (hl206.trans hl209))))))))))))))).1 0 (by omega) hc293
   have hl295 := len_h (h1.mono (hl12.trans (hl16.trans (hl27.trans (hl40.trans (hl70.trans (hl74.trans (hl93.trans (hl97.trans (hl139.trans (hl164.trans (hl176.trans (hl188.trans (hl192.trans (hl206.trans hl209))))))))))))))).1 0 (by omega)
   refine Nt rfl (T_loadGAP _ (fun _ h => h) hc294 rfl rfl rfl rfl rfl rfl rfl rfl (hVs hl295) ?_)
   iterate 3 (refine T_nil ?_; refine TT_step rfl ?_; refine Pv ?_)
   refine Nt rfl (Af 0 (r207.mono hl209) fun b296 o297 hc298 => ?_)
   have hc299 := hc298 0 (.int .i64 ((Go.Au.digits m).getD 0 0)) (at_i (Go.Au.digits m) 0 (by omega))
   simp only [Nat.add_zero] at hc299
   refine Nt rfl (Ak (r := by exact hc299) ?_)
   refine T_re (v' := .int .i64 ((d : Nat) : Int)) (congrArg (Value.int .i64) hd) (Nt rfl (Ar (T_nil ?_)))
   refine TT_fork3 rfl rfl rfl ?_ ?_ ?_
   ·refine Cs g_aumbry_aumbryref07_Start ((startR_ok S290.le sl (0 : Int) hs (by omega) (by omega)).mono ?_)
    rintro e w301 ⟨rfl, hB300⟩
    have S302 := S290.call hB300
    refine ⟨_, rfl, (((Hp.le.refl _)).trans S302.le), ?_⟩
    refine T_nil (TT_fork3 rfl rfl rfl ?_ ?_ ?_)
    ·refine Cs g_aumbry_aumbryref07_Along ((alongR_ok S302.le (((d + (i + 1) : Nat) : Int) - 1) (start_len _ _ _)).mono ?_)
     rintro e w304 ⟨rfl, hB303⟩
     have S305 := S302.call hB303
     refine ⟨_, rfl, (((Hp.le.refl _)).trans S305.le), ?_⟩
     refine T_re (v' := hV (ownC seed sl (0 : Int) d i)) (congrArg (fun q => hV (Go.Au.steps q _)) (by omega)) (T_nil ?_)
     refine TT_fork3 rfl rfl rfl ?_ ?_ ?_
     ·refine Cs g_aumbry_aumbryref07_Along ((alongR_ok S305.le ((((d + (i + 1) : Nat) : Int) - 1) - ((d : Nat) : Int)) hl295).mono ?_)
      rintro e w307 ⟨rfl, hB306⟩
      have S308 := S305.call hB306
      refine ⟨_, rfl, (((Hp.le.refl _)).trans S308.le), ?_⟩
      refine T_re (v' := hV (Go.Au.steps i (v.getD 0 []))) (congrArg (fun q => hV (Go.Au.steps q _)) (by omega)) (T_nil ?_)
      refine TT_fork rfl rfl ?_ ?_
      ·refine Ac (hC := fun _ h => ((Hp.le.refl _)).trans h) S308 fun b309 w310 S311 => ?_
       refine Nt rfl (Ac (hC := fun _ h => ((Hp.le.refl _)).trans h) S311 fun b312 w313 S314 => ?_)
       refine Nt rfl (Ag (hC := fun _ h => ((Hp.le.refl _)).trans h) (hl := by exact hVs (steps_len _ (start_len _ _ _))) (hl2 := by exact hVs (steps_len _ (start_len _ _ _))) (h1 := by exact one_hA _) 1 S314 fun w315 S316 => ?_)
       refine Nt rfl (Ag (hC := fun _ h => ((Hp.le.refl _)).trans h) (hl := by exact hVs (steps_len _ hxl)) (hl2 := by exact hVs (steps_len _ hxl)) (h1 := by exact one_hA _) 0 S316 fun w317 S318 => (T_nil (TT_done ?_)))
       have S319 := S318.swap12
       have S320 := S319.swap01
       have S321 := S320.swap12
       exact Ws (J255 _ _ ⟨_, _, G208, rfl, (Hp.le.refl _), S321⟩)
      refine Ac (hC := fun _ h => ((Hp.le.refl _)).trans h) S308 fun b322 w323 S324 => ?_
      refine Nt rfl (Ac (hC := fun _ h => ((Hp.le.refl _)).trans h) S324 fun b325 w326 S327 => ?_)
      refine Nt rfl (Ag (hC := fun _ h => ((Hp.le.refl _)).trans h) (hl := by exact hVs (steps_len _ (start_len _ _ _))) (hl2 := by exact hVs (steps_len _ (start_len _ _ _))) (h1 := by exact one_hA _) 0 S327 fun w328 S329 => ?_)
      refine Nt rfl (Ag (hC := fun _ h => ((Hp.le.refl _)).trans h) (hl := by exact hVs (steps_len _ hxl)) (hl2 := by exact hVs (steps_len _ hxl)) (h1 := by exact one_hA _) 1 S329 fun w330 S331 => (T_nil (TT_done ?_)))
      have S332 := S331.swap12
      have S333 := S332.swap01
      exact Ws (J255 _ _ ⟨_, _, G208, rfl, (Hp.le.refl _), S333⟩)
     ·refine Ac (hC := fun _ h => ((Hp.le.refl _)).trans h) S305 fun b334 w335 S336 => (T_nil ?_)
      refine TT_fork rfl rfl ?_ ?_
      ·refine Cs g_aumbry_aumbryref07_Along ((alongR_ok S336.le ((((d + (i + 1) : Nat) : Int) - 1) - ((d : Nat) : Int)) hl295).mono ?_)
       rintro e w338 ⟨rfl, hB337⟩
       have S339 := S336.call hB337
       refine ⟨_, rfl, (((Hp.le.refl _)).trans S339.le), ?_⟩
       refine T_re (v' := hV (Go.Au.steps i (v.getD 0 []))) (congrArg (fun q => hV (Go.Au.steps q _)) (by omega)) ?_
       refine Nt rfl (Ac (hC := fun _ h => ((Hp.le.refl _)).trans h) S339 fun b340 w341 S342 => ?_)
       refine Nt rfl (Ag (hC := fun _ h => ((Hp.le.refl _)).trans h) (hl := by exact hVs (steps_len _ (start_len _ _ _))) (hl2 := by exact hVs (steps_len _ (start_len _ _ _))) (h1 := by exact one_hA _) 1 S342 fun w343 S344 => ?_)
       refine Nt rfl (Ag (hC := fun _ h => ((Hp.le.refl _)).trans h) (hl := by exact hVs (steps_len _ hxl)) (hl2 := by exact hVs (steps_len _ hxl)) (h1 := by exact one_hA _) 0 S344 fun w345 S346 => (T_nil (TT_done ?_)))
       have S347 := S346.swap12
       have S348 := S347.swap01
       have S349 := S348.swap12
       exact Ws (J255 _ _ ⟨_, _, G208, rfl, (Hp.le.refl _), S349⟩)
      refine Ac (hC := fun _ h => ((Hp.le.refl _)).trans h) S336 fun b350 w351 S352 => ?_
      refine Nt rfl (Cs g_aumbry_aumbryref07_Along ((alongR_ok S352.le ((((d + (i + 1) : Nat) : Int) - 1) - ((d : Nat) : Int)) hl295).mono ?_))
      rintro e w354 ⟨rfl, hB353⟩
      have S355 := S352.call hB353
      refine ⟨_, rfl, (((Hp.le.refl _)).trans S355.le), ?_⟩
      refine T_re (v' := hV (Go.Au.steps i (v.getD 0 []))) (congrArg (fun q => hV (Go.Au.steps q _)) (by omega)) ?_
      refine Nt rfl (Ag (hC := fun _ h => ((Hp.le.refl _)).trans h) (hl := by exact hVs (steps_len _ (start_len _ _ _))) (hl2 := by exact hVs (steps_len _ (start_len _ _ _))) (h1 := by exact one_hA _) 1 S355 fun w356 S357 => ?_)
      refine Nt rfl (Ag (hC := fun _ h => ((Hp.le.refl _)).trans h) (hl := by exact hVs (steps_len _ hxl)) (hl2 := by exact hVs (steps_len _ hxl)) (h1 := by exact one_hA _) 0 S357 fun w358 S359 => (T_nil (TT_done ?_)))
      have S360 := S359.swap12
      have S361 := S360.swap01
      have S362 := S361.swap12
      exact Ws (J255 _ _ ⟨_, _, G208, rfl, (Hp.le.refl _), S362⟩)
     refine Ac (hC := fun _ h => ((Hp.le.refl _)).trans h) S305 fun b363 w364 S365 => (T_nil ?_)
     refine TT_fork rfl rfl ?_ ?_
     ·refine Cs g_aumbry_aumbryref07_Along ((alongR_ok S365.le ((((d + (i + 1) : Nat) : Int) - 1) - ((d : Nat) : Int)) hl295).mono ?_)
      rintro e w367 ⟨rfl, hB366⟩
      have S368 := S365.call hB366
      refine ⟨_, rfl, (((Hp.le.refl _)).trans S368.le), ?_⟩
      refine T_re (v' := hV (Go.Au.steps i (v.getD 0 []))) (congrArg (fun q => hV (Go.Au.steps q _)) (by omega)) ?_
      refine Nt rfl (Ac (hC := fun _ h => ((Hp.le.refl _)).trans h) S368 fun b369 w370 S371 => ?_)
      refine Nt rfl (Ag (hC := fun _ h => ((Hp.le.refl _)).trans h) (hl := by exact hVs (steps_len _ (start_len _ _ _))) (hl2 := by exact hVs (steps_len _ (start_len _ _ _))) (h1 := by exact one_hA _) 0 S371 fun w372 S373 => ?_)
      refine Nt rfl (Ag (hC := fun _ h => ((Hp.le.refl _)).trans h) (hl := by exact hVs (steps_len _ hxl)) (hl2 := by exact hVs (steps_len _ hxl)) (h1 := by exact one_hA _) 1 S373 fun w374 S375 => (T_nil (TT_done ?_)))
      have S376 := S375.swap12
      have S377 := S376.swap01
      exact Ws (J255 _ _ ⟨_, _, G208, rfl, (Hp.le.refl _), S377⟩)
     refine Ac (hC := fun _ h => ((Hp.le.refl _)).trans h) S365 fun b378 w379 S380 => ?_
     refine Nt rfl (Cs g_aumbry_aumbryref07_Along ((alongR_ok S380.le ((((d + (i + 1) : Nat) : Int) - 1) - ((d : Nat) : Int)) hl295).mono ?_))
     rintro e w382 ⟨rfl, hB381⟩
     have S383 := S380.call hB381
     refine ⟨_, rfl, (((Hp.le.refl _)).trans S383.le), ?_⟩
     refine T_re (v' := hV (Go.Au.steps i (v.getD 0 []))) (congrArg (fun q => hV (Go.Au.steps q _)) (by omega)) ?_
     refine Nt rfl (Ag (hC := fun _ h => ((Hp.le.refl _)).trans h) (hl := by exact hVs (steps_len _ (start_len _ _ _))) (hl2 := by exact hVs (steps_len _ (start_len _ _ _))) (h1 := by exact one_hA _) 0 S383 fun w384 S385 => ?_)
     refine Nt rfl (Ag (hC := fun _ h => ((Hp.le.refl _)).trans h) (hl := by exact hVs (steps_len _ hxl)) (hl2 := by exact hVs (steps_len _ hxl)) (h1 := by exact one_hA _) 1 S385 fun w386 S387 => (T_nil (TT_done ?_)))
     have S388 := S387.swap12
     have S389 := S388.swap01
     exact Ws (J255 _ _ ⟨_, _, G208, rfl, (Hp.le.refl _), S389⟩)
    ·refine Ac (hC := fun _ h => ((Hp.le.refl _)).trans h) S302 fun b390 w391 S392 => (T_nil ?_)
     refine TT_fork rfl rfl ?_ ?_
     ·refine Cs g_aumbry_aumbryref07_Along ((alongR_ok S392.le (((d + (i + 1) : Nat) : Int) - 1) (start_len _ _ _)).mono ?_)
      rintro e w394 ⟨rfl, hB393⟩
      have S395 := S392.call hB393
      refine ⟨_, rfl, (((Hp.le.refl _)).trans S395.le), ?_⟩
      refine T_re (v' := hV (ownC seed sl (0 : Int) d i)) (congrArg (fun q => hV (Go.Au.steps q _)) (by omega)) (T_nil ?_)
      refine TT_fork rfl rfl ?_ ?_
      ·refine Cs g_aumbry_aumbryref07_Along ((alongR_ok S395.le ((((d + (i + 1) : Nat) : Int) - 1) - ((d : Nat) : Int)) hl295).mono ?_)
       rintro e w397 ⟨rfl, hB396⟩
       have S398 := S395.call hB396
       refine ⟨_, rfl, (((Hp.le.refl _)).trans S398.le), ?_⟩
       refine T_re (v' := hV (Go.Au.steps i (v.getD 0 []))) (congrArg (fun q => hV (Go.Au.steps q _)) (by omega)) ?_
       refine Nt rfl (Ac (hC := fun _ h => ((Hp.le.refl _)).trans h) S398 fun b399 w400 S401 => ?_)
       refine Nt rfl (Ag (hC := fun _ h => ((Hp.le.refl _)).trans h) (hl := by exact hVs (steps_len _ (start_len _ _ _))) (hl2 := by exact hVs (steps_len _ (start_len _ _ _))) (h1 := by exact one_hA _) 1 S401 fun w402 S403 => ?_)
       refine Nt rfl (Ag (hC := fun _ h => ((Hp.le.refl _)).trans h) (hl := by exact hVs (steps_len _ hxl)) (hl2 := by exact hVs (steps_len _ hxl)) (h1 := by exact one_hA _) 0 S403 fun w404 S405 => (T_nil (TT_done ?_)))
       have S406 := S405.swap12
       have S407 := S406.swap01
       have S408 := S407.swap12
       exact Ws (J255 _ _ ⟨_, _, G208, rfl, (Hp.le.refl _), S408⟩)
      refine Ac (hC := fun _ h => ((Hp.le.refl _)).trans h) S395 fun b409 w410 S411 => ?_
      refine Nt rfl (Cs g_aumbry_aumbryref07_Along ((alongR_ok S411.le ((((d + (i + 1) : Nat) : Int) - 1) - ((d : Nat) : Int)) hl295).mono ?_))
      rintro e w413 ⟨rfl, hB412⟩
      have S414 := S411.call hB412
      refine ⟨_, rfl, (((Hp.le.refl _)).trans S414.le), ?_⟩
      refine T_re (v' := hV (Go.Au.steps i (v.getD 0 []))) (congrArg (fun q => hV (Go.Au.steps q _)) (by omega)) ?_
      refine Nt rfl (Ag (hC := fun _ h => ((Hp.le.refl _)).trans h) (hl := by exact hVs (steps_len _ (start_len _ _ _))) (hl2 := by exact hVs (steps_len _ (start_len _ _ _))) (h1 := by exact one_hA _) 1 S414 fun w415 S416 => ?_)
      refine Nt rfl (Ag (hC := fun _ h => ((Hp.le.refl _)).trans h) (hl := by exact hVs (steps_len _ hxl)) (hl2 := by exact hVs (steps_len _ hxl)) (h1 := by exact one_hA _) 0 S416 fun w417 S418 => (T_nil (TT_done ?_)))
      have S419 := S418.swap12
      have S420 := S419.swap01
      have S421 := S420.swap12
      exact Ws (J255 _ _ ⟨_, _, G208, rfl, (Hp.le.refl _), S421⟩)
     refine Ac (hC := fun _ h => ((Hp.le.refl _)).trans h) S392 fun b422 w423 S424 => ?_
     refine Nt rfl (Cs g_aumbry_aumbryref07_Along ((alongR_ok S424.le (((d + (i + 1) : Nat) : Int) - 1) (start_len _ _ _)).mono ?_))
     rintro e w426 ⟨rfl, hB425⟩
     have S427 := S424.call hB425
     refine ⟨_, rfl, (((Hp.le.refl _)).trans S427.le), ?_⟩
     refine T_re (v' := hV (ownC seed sl (0 : Int) d i)) (congrArg (fun q => hV (Go.Au.steps q _)) (by omega)) ?_
     refine Nt rfl (Cs g_aumbry_aumbryref07_Along ((alongR_ok S427.le ((((d + (i + 1) : Nat) : Int) - 1) - ((d : Nat) : Int)) hl295).mono ?_))
     rintro e w429 ⟨rfl, hB428⟩
     have S430 := S427.call hB428
     refine ⟨_, rfl, (((Hp.le.refl _)).trans S430.le), ?_⟩
     refine T_re (v' := hV (Go.Au.steps i (v.getD 0 []))) (congrArg (fun q => hV (Go.Au.steps q _)) (by omega)) ?_
     refine Nt rfl (Ag (hC := fun _ h => ((Hp.le.refl _)).trans h) (hl := by exact hVs (steps_len _ (start_len _ _ _))) (hl2 := by exact hVs (steps_len _ (start_len _ _ _))) (h1 := by exact one_hA _) 1 S430 fun w431 S432 => ?_)
     refine Nt rfl (Ag (hC := fun _ h => ((Hp.le.refl _)).trans h) (hl := by exact hVs (steps_len _ hxl)) (hl2 := by exact hVs (steps_len _ hxl)) (h1 := by exact one_hA _) 0 S432 fun w433 S434 => (T_nil (TT_done ?_)))
     have S435 := S434.swap12
     have S436 := S435.swap01
     have S437 := S436.swap12
     exact Ws (J255 _ _ ⟨_, _, G208, rfl, (Hp.le.refl _), S437⟩)
    refine Ac (hC := fun _ h => ((Hp.le.refl _)).trans h) S302 fun b438 w439 S440 => (T_nil ?_)
    refine TT_fork rfl rfl ?_ ?_
    ·refine Cs g_aumbry_aumbryref07_Along ((alongR_ok S440.le (((d + (i + 1) : Nat) : Int) - 1) (start_len _ _ _)).mono ?_)
     rintro e w442 ⟨rfl, hB441⟩
     have S443 := S440.call hB441
     refine ⟨_, rfl, (((Hp.le.refl _)).trans S443.le), ?_⟩
     refine T_re (v' := hV (ownC seed sl (0 : Int) d i)) (congrArg (fun q => hV (Go.Au.steps q _)) (by omega)) (T_nil ?_)
     refine TT_fork rfl rfl ?_ ?_
     ·refine Cs g_aumbry_aumbryref07_Along ((alongR_ok S443.le ((((d + (i + 1) : Nat) : Int) - 1) - ((d : Nat) : Int)) hl295).mono ?_)
      rintro e w445 ⟨rfl, hB444⟩
      have S446 := S443.call hB444
      refine ⟨_, rfl, (((Hp.le.refl _)).trans S446.le), ?_⟩
      refine T_re (v' := hV (Go.Au.steps i (v.getD 0 []))) (congrArg (fun q => hV (Go.Au.steps q _)) (by omega)) ?_
      refine Nt rfl (Ac (hC := fun _ h => ((Hp.le.refl _)).trans h) S446 fun b447 w448 S449 => ?_)
      refine Nt rfl (Ag (hC := fun _ h => ((Hp.le.refl _)).trans h) (hl := by exact hVs (steps_len _ (start_len _ _ _))) (hl2 := by exact hVs (steps_len _ (start_len _ _ _))) (h1 := by exact one_hA _) 0 S449 fun w450 S451 => ?_)
      refine Nt rfl (Ag (hC := fun _ h => ((Hp.le.refl _)).trans h) (hl := by exact hVs (steps_len _ hxl)) (hl2 := by exact hVs (steps_len _ hxl)) (h1 := by exact one_hA _) 1 S451 fun w452 S453 => (T_nil (TT_done ?_)))
      have S454 := S453.swap12
      have S455 := S454.swap01
      exact Ws (J255 _ _ ⟨_, _, G208, rfl, (Hp.le.refl _), S455⟩)
     refine Ac (hC := fun _ h => ((Hp.le.refl _)).trans h) S443 fun b456 w457 S458 => ?_
     refine Nt rfl (Cs g_aumbry_aumbryref07_Along ((alongR_ok S458.le ((((d + (i + 1) : Nat) : Int) - 1) - ((d : Nat) : Int)) hl295).mono ?_))
     rintro e w460 ⟨rfl, hB459⟩
     have S461 := S458.call hB459
     refine ⟨_, rfl, (((Hp.le.refl _)).trans S461.le), ?_⟩
     refine T_re (v' := hV (Go.Au.steps i (v.getD 0 []))) (congrArg (fun q => hV (Go.Au.steps q _)) (by omega)) ?_
     refine Nt rfl (Ag (hC := fun _ h => ((Hp.le.refl _)).trans h) (hl := by exact hVs (steps_len _ (start_len _ _ _))) (hl2 := by exact hVs (steps_len _ (start_len _ _ _))) (h1 := by exact one_hA _) 0 S461 fun w462 S463 => ?_)
     refine Nt rfl (Ag (hC := fun _ h => ((Hp.le.refl _)).trans h) (hl := by exact hVs (steps_len _ hxl)) (hl2 := by exact hVs (steps_len _ hxl)) (h1 := by exact one_hA _) 1 S463 fun w464 S465 => (T_nil (TT_done ?_)))
     have S466 := S465.swap12
     have S467 := S466.swap01
     exact Ws (J255 _ _ ⟨_, _, G208, rfl, (Hp.le.refl _), S467⟩)
    refine Ac (hC := fun _ h => ((Hp.le.refl _)).trans h) S440 fun b468 w469 S470 => ?_
    refine Nt rfl (Cs g_aumbry_aumbryref07_Along ((alongR_ok S470.le (((d + (i + 1) : Nat) : Int) - 1) (start_len _ _ _)).mono ?_))
    rintro e w472 ⟨rfl, hB471⟩
    have S473 := S470.call hB471
    refine ⟨_, rfl, (((Hp.le.refl _)).trans S473.le), ?_⟩
    refine T_re (v' := hV (ownC seed sl (0 : Int) d i)) (congrArg (fun q => hV (Go.Au.steps q _)) (by omega)) ?_
    refine Nt rfl (Cs g_aumbry_aumbryref07_Along ((alongR_ok S473.le ((((d + (i + 1) : Nat) : Int) - 1) - ((d : Nat) : Int)) hl295).mono ?_))
    rintro e w475 ⟨rfl, hB474⟩
    have S476 := S473.call hB474
    refine ⟨_, rfl, (((Hp.le.refl _)).trans S476.le), ?_⟩
    refine T_re (v' := hV (Go.Au.steps i (v.getD 0 []))) (congrArg (fun q => hV (Go.Au.steps q _)) (by omega)) ?_
    refine Nt rfl (Ag (hC := fun _ h => ((Hp.le.refl _)).trans h) (hl := by exact hVs (steps_len _ (start_len _ _ _))) (hl2 := by exact hVs (steps_len _ (start_len _ _ _))) (h1 := by exact one_hA _) 0 S476 fun w477 S478 => ?_)
    refine Nt rfl (Ag (hC := fun _ h => ((Hp.le.refl _)).trans h) (hl := by exact hVs (steps_len _ hxl)) (hl2 := by exact hVs (steps_len _ hxl)) (h1 := by exact one_hA _) 1 S478 fun w479 S480 => (T_nil (TT_done ?_)))
    have S481 := S480.swap12
    have S482 := S481.swap01
    exact Ws (J255 _ _ ⟨_, _, G208, rfl, (Hp.le.refl _), S482⟩)
   ·refine Ac (hC := fun _ h => ((Hp.le.refl _)).trans h) S290 fun b483 w484 S485 => (T_nil ?_)
    refine TT_fork rfl rfl ?_ ?_
    ·refine Cs g_aumbry_aumbryref07_Start ((startR_ok S485.le sl (0 : Int) hs (by omega) (by omega)).mono ?_)
     rintro e w487 ⟨rfl, hB486⟩
     have S488 := S485.call hB486
     refine ⟨_, rfl, (((Hp.le.refl _)).trans S488.le), ?_⟩
     refine T_nil (TT_fork rfl rfl ?_ ?_)
     ·refine Cs g_aumbry_aumbryref07_Along ((alongR_ok S488.le (((d + (i + 1) : Nat) : Int) - 1) (start_len _ _ _)).mono ?_)
      rintro e w490 ⟨rfl, hB489⟩
      have S491 := S488.call hB489
      refine ⟨_, rfl, (((Hp.le.refl _)).trans S491.le), ?_⟩
      refine T_re (v' := hV (ownC seed sl (0 : Int) d i)) (congrArg (fun q => hV (Go.Au.steps q _)) (by omega)) (T_nil ?_)
      refine TT_fork rfl rfl ?_ ?_
      ·refine Cs g_aumbry_aumbryref07_Along ((alongR_ok S491.le ((((d + (i + 1) : Nat) : Int) - 1) - ((d : Nat) : Int)) hl295).mono ?_)
       rintro e w493 ⟨rfl, hB492⟩
       have S494 := S491.call hB492
       refine ⟨_, rfl, (((Hp.le.refl _)).trans S494.le), ?_⟩
       refine T_re (v' := hV (Go.Au.steps i (v.getD 0 []))) (congrArg (fun q => hV (Go.Au.steps q _)) (by omega)) ?_
       refine Nt rfl (Ac (hC := fun _ h => ((Hp.le.refl _)).trans h) S494 fun b495 w496 S497 => ?_)
       refine Nt rfl (Ag (hC := fun _ h => ((Hp.le.refl _)).trans h) (hl := by exact hVs (steps_len _ (start_len _ _ _))) (hl2 := by exact hVs (steps_len _ (start_len _ _ _))) (h1 := by exact one_hA _) 1 S497 fun w498 S499 => ?_)
       refine Nt rfl (Ag (hC := fun _ h => ((Hp.le.refl _)).trans h) (hl := by exact hVs (steps_len _ hxl)) (hl2 := by exact hVs (steps_len _ hxl)) (h1 := by exact one_hA _) 0 S499 fun w500 S501 => (T_nil (TT_done ?_)))
       have S502 := S501.swap12
       have S503 := S502.swap01
       have S504 := S503.swap12
       exact Ws (J255 _ _ ⟨_, _, G208, rfl, (Hp.le.refl _), S504⟩)
      refine Ac (hC := fun _ h => ((Hp.le.refl _)).trans h) S491 fun b505 w506 S507 => ?_
      refine Nt rfl (Cs g_aumbry_aumbryref07_Along ((alongR_ok S507.le ((((d + (i + 1) : Nat) : Int) - 1) - ((d : Nat) : Int)) hl295).mono ?_))
      rintro e w509 ⟨rfl, hB508⟩
      have S510 := S507.call hB508
      refine ⟨_, rfl, (((Hp.le.refl _)).trans S510.le), ?_⟩
      refine T_re (v' := hV (Go.Au.steps i (v.getD 0 []))) (congrArg (fun q => hV (Go.Au.steps q _)) (by omega)) ?_
      refine Nt rfl (Ag (hC := fun _ h => ((Hp.le.refl _)).trans h) (hl := by exact hVs (steps_len _ (start_len _ _ _))) (hl2 := by exact hVs (steps_len _ (start_len _ _ _))) (h1 := by exact one_hA _) 1 S510 fun w511 S512 => ?_)
      refine Nt rfl (Ag (hC := fun _ h => ((Hp.le.refl _)).trans h) (hl := by exact hVs (steps_len _ hxl)) (hl2 := by exact hVs (steps_len _ hxl)) (h1 := by exact one_hA _) 0 S512 fun w513 S514 => (T_nil (TT_done ?_)))
      have S515 := S514.swap12
      have S516 := S515.swap01
      have S517 := S516.swap12
      exact Ws (J255 _ _ ⟨_, _, G208, rfl, (Hp.le.refl _), S517⟩)
     refine Ac (hC := fun _ h => ((Hp.le.refl _)).trans h) S488 fun b518 w519 S520 => ?_
     refine Nt rfl (Cs g_aumbry_aumbryref07_Along ((alongR_ok S520.le (((d + (i + 1) : Nat) : Int) - 1) (start_len _ _ _)).mono ?_))
     rintro e w522 ⟨rfl, hB521⟩
     have S523 := S520.call hB521
     refine ⟨_, rfl, (((Hp.le.refl _)).trans S523.le), ?_⟩
     refine T_re (v' := hV (ownC seed sl (0 : Int) d i)) (congrArg (fun q => hV (Go.Au.steps q _)) (by omega)) ?_
     refine Nt rfl (Cs g_aumbry_aumbryref07_Along ((alongR_ok S523.le ((((d + (i + 1) : Nat) : Int) - 1) - ((d : Nat) : Int)) hl295).mono ?_))
     rintro e w525 ⟨rfl, hB524⟩
     have S526 := S523.call hB524
     refine ⟨_, rfl, (((Hp.le.refl _)).trans S526.le), ?_⟩
     refine T_re (v' := hV (Go.Au.steps i (v.getD 0 []))) (congrArg (fun q => hV (Go.Au.steps q _)) (by omega)) ?_
     refine Nt rfl (Ag (hC := fun _ h => ((Hp.le.refl _)).trans h) (hl := by exact hVs (steps_len _ (start_len _ _ _))) (hl2 := by exact hVs (steps_len _ (start_len _ _ _))) (h1 := by exact one_hA _) 1 S526 fun w527 S528 => ?_)
     refine Nt rfl (Ag (hC := fun _ h => ((Hp.le.refl _)).trans h) (hl := by exact hVs (steps_len _ hxl)) (hl2 := by exact hVs (steps_len _ hxl)) (h1 := by exact one_hA _) 0 S528 fun w529 S530 => (T_nil (TT_done ?_)))
     have S531 := S530.swap12
     have S532 := S531.swap01
     have S533 := S532.swap12
     exact Ws (J255 _ _ ⟨_, _, G208, rfl, (Hp.le.refl _), S533⟩)
    refine Ac (hC := fun _ h => ((Hp.le.refl _)).trans h) S485 fun b534 w535 S536 => ?_
    refine Nt rfl (Cs g_aumbry_aumbryref07_Start ((startR_ok S536.le sl (0 : Int) hs (by omega) (by omega)).mono ?_))
    rintro e w538 ⟨rfl, hB537⟩
    have S539 := S536.call hB537
    refine ⟨_, rfl, (((Hp.le.refl _)).trans S539.le), ?_⟩
    refine Nt rfl (Cs g_aumbry_aumbryref07_Along ((alongR_ok S539.le (((d + (i + 1) : Nat) : Int) - 1) (start_len _ _ _)).mono ?_))
    rintro e w541 ⟨rfl, hB540⟩
    have S542 := S539.call hB540
    refine ⟨_, rfl, (((Hp.le.refl _)).trans S542.le), ?_⟩
    refine T_re (v' := hV (ownC seed sl (0 : Int) d i)) (congrArg (fun q => hV (Go.Au.steps q _)) (by omega)) ?_
    refine Nt rfl (Cs g_aumbry_aumbryref07_Along ((alongR_ok S542.le ((((d + (i + 1) : Nat) : Int) - 1) - ((d : Nat) : Int)) hl295).mono ?_))
    rintro e w544 ⟨rfl, hB543⟩
    have S545 := S542.call hB543
    refine ⟨_, rfl, (((Hp.le.refl _)).trans S545.le), ?_⟩
    refine T_re (v' := hV (Go.Au.steps i (v.getD 0 []))) (congrArg (fun q => hV (Go.Au.steps q _)) (by omega)) ?_
    refine Nt rfl (Ag (hC := fun _ h => ((Hp.le.refl _)).trans h) (hl := by exact hVs (steps_len _ (start_len _ _ _))) (hl2 := by exact hVs (steps_len _ (start_len _ _ _))) (h1 := by exact one_hA _) 1 S545 fun w546 S547 => ?_)
    refine Nt rfl (Ag (hC := fun _ h => ((Hp.le.refl _)).trans h) (hl := by exact hVs (steps_len _ hxl)) (hl2 := by exact hVs (steps_len _ hxl)) (h1 := by exact one_hA _) 0 S547 fun w548 S549 => (T_nil (TT_done ?_)))
    have S550 := S549.swap12
    have S551 := S550.swap01
    have S552 := S551.swap12
    exact Ws (J255 _ _ ⟨_, _, G208, rfl, (Hp.le.refl _), S552⟩)
   refine Ac (hC := fun _ h => ((Hp.le.refl _)).trans h) S290 fun b553 w554 S555 => (T_nil ?_)
   refine TT_fork rfl rfl ?_ ?_
   ·refine Cs g_aumbry_aumbryref07_Start ((startR_ok S555.le sl (0 : Int) hs (by omega) (by omega)).mono ?_)
    rintro e w557 ⟨rfl, hB556⟩
    have S558 := S555.call hB556
    refine ⟨_, rfl, (((Hp.le.refl _)).trans S558.le), ?_⟩
    refine T_nil (TT_fork rfl rfl ?_ ?_)
    ·refine Cs g_aumbry_aumbryref07_Along ((alongR_ok S558.le (((d + (i + 1) : Nat) : Int) - 1) (start_len _ _ _)).mono ?_)
     rintro e w560 ⟨rfl, hB559⟩
     have S561 := S558.call hB559
     refine ⟨_, rfl, (((Hp.le.refl _)).trans S561.le), ?_⟩
     refine T_re (v' := hV (ownC seed sl (0 : Int) d i)) (congrArg (fun q => hV (Go.Au.steps q _)) (by omega)) (T_nil ?_)
     refine TT_fork rfl rfl ?_ ?_
     ·refine Cs g_aumbry_aumbryref07_Along ((alongR_ok S561.le ((((d + (i + 1) : Nat) : Int) - 1) - ((d : Nat) : Int)) hl295).mono ?_)
      rintro e w563 ⟨rfl, hB562⟩
      have S564 := S561.call hB562
      refine ⟨_, rfl, (((Hp.le.refl _)).trans S564.le), ?_⟩
      refine T_re (v' := hV (Go.Au.steps i (v.getD 0 []))) (congrArg (fun q => hV (Go.Au.steps q _)) (by omega)) ?_
      refine Nt rfl (Ac (hC := fun _ h => ((Hp.le.refl _)).trans h) S564 fun b565 w566 S567 => ?_)
      refine Nt rfl (Ag (hC := fun _ h => ((Hp.le.refl _)).trans h) (hl := by exact hVs (steps_len _ (start_len _ _ _))) (hl2 := by exact hVs (steps_len _ (start_len _ _ _))) (h1 := by exact one_hA _) 0 S567 fun w568 S569 => ?_)
      refine Nt rfl (Ag (hC := fun _ h => ((Hp.le.refl _)).trans h) (hl := by exact hVs (steps_len _ hxl)) (hl2 := by exact hVs (steps_len _ hxl)) (h1 := by exact one_hA _) 1 S569 fun w570 S571 => (T_nil (TT_done ?_)))
      have S572 := S571.swap12
      have S573 := S572.swap01
      exact Ws (J255 _ _ ⟨_, _, G208, rfl, (Hp.le.refl _), S573⟩)
     refine Ac (hC := fun _ h => ((Hp.le.refl _)).trans h) S561 fun b574 w575 S576 => ?_
     refine Nt rfl (Cs g_aumbry_aumbryref07_Along ((alongR_ok S576.le ((((d + (i + 1) : Nat) : Int) - 1) - ((d : Nat) : Int)) hl295).mono ?_))
     rintro e w578 ⟨rfl, hB577⟩
     have S579 := S576.call hB577
     refine ⟨_, rfl, (((Hp.le.refl _)).trans S579.le), ?_⟩
     refine T_re (v' := hV (Go.Au.steps i (v.getD 0 []))) (congrArg (fun q => hV (Go.Au.steps q _)) (by omega)) ?_
     refine Nt rfl (Ag (hC := fun _ h => ((Hp.le.refl _)).trans h) (hl := by exact hVs (steps_len _ (start_len _ _ _))) (hl2 := by exact hVs (steps_len _ (start_len _ _ _))) (h1 := by exact one_hA _) 0 S579 fun w580 S581 => ?_)
     refine Nt rfl (Ag (hC := fun _ h => ((Hp.le.refl _)).trans h) (hl := by exact hVs (steps_len _ hxl)) (hl2 := by exact hVs (steps_len _ hxl)) (h1 := by exact one_hA _) 1 S581 fun w582 S583 => (T_nil (TT_done ?_)))
     have S584 := S583.swap12
     have S585 := S584.swap01
     exact Ws (J255 _ _ ⟨_, _, G208, rfl, (Hp.le.refl _), S585⟩)
    refine Ac (hC := fun _ h => ((Hp.le.refl _)).trans h) S558 fun b586 w587 S588 => ?_
    refine Nt rfl (Cs g_aumbry_aumbryref07_Along ((alongR_ok S588.le (((d + (i + 1) : Nat) : Int) - 1) (start_len _ _ _)).mono ?_))
    rintro e w590 ⟨rfl, hB589⟩
    have S591 := S588.call hB589
    refine ⟨_, rfl, (((Hp.le.refl _)).trans S591.le), ?_⟩
    refine T_re (v' := hV (ownC seed sl (0 : Int) d i)) (congrArg (fun q => hV (Go.Au.steps q _)) (by omega)) ?_
    refine Nt rfl (Cs g_aumbry_aumbryref07_Along ((alongR_ok S591.le ((((d + (i + 1) : Nat) : Int) - 1) - ((d : Nat) : Int)) hl295).mono ?_))
    rintro e w593 ⟨rfl, hB592⟩
    have S594 := S591.call hB592
    refine ⟨_, rfl, (((Hp.le.refl _)).trans S594.le), ?_⟩
    refine T_re (v' := hV (Go.Au.steps i (v.getD 0 []))) (congrArg (fun q => hV (Go.Au.steps q _)) (by omega)) ?_
    refine Nt rfl (Ag (hC := fun _ h => ((Hp.le.refl _)).trans h) (hl := by exact hVs (steps_len _ (start_len _ _ _))) (hl2 := by exact hVs (steps_len _ (start_len _ _ _))) (h1 := by exact one_hA _) 0 S594 fun w595 S596 => ?_)
    refine Nt rfl (Ag (hC := fun _ h => ((Hp.le.refl _)).trans h) (hl := by exact hVs (steps_len _ hxl)) (hl2 := by exact hVs (steps_len _ hxl)) (h1 := by exact one_hA _) 1 S596 fun w597 S598 => (T_nil (TT_done ?_)))
    have S599 := S598.swap12
    have S600 := S599.swap01
    exact Ws (J255 _ _ ⟨_, _, G208, rfl, (Hp.le.refl _), S600⟩)
   refine Ac (hC := fun _ h => ((Hp.le.refl _)).trans h) S555 fun b601 w602 S603 => ?_
   refine Nt rfl (Cs g_aumbry_aumbryref07_Start ((startR_ok S603.le sl (0 : Int) hs (by omega) (by omega)).mono ?_))
   rintro e w605 ⟨rfl, hB604⟩
   have S606 := S603.call hB604
   refine ⟨_, rfl, (((Hp.le.refl _)).trans S606.le), ?_⟩
   refine Nt rfl (Cs g_aumbry_aumbryref07_Along ((alongR_ok S606.le (((d + (i + 1) : Nat) : Int) - 1) (start_len _ _ _)).mono ?_))
   rintro e w608 ⟨rfl, hB607⟩
   have S609 := S606.call hB607
   refine ⟨_, rfl, (((Hp.le.refl _)).trans S609.le), ?_⟩
   refine T_re (v' := hV (ownC seed sl (0 : Int) d i)) (congrArg (fun q => hV (Go.Au.steps q _)) (by omega)) ?_
   refine Nt rfl (Cs g_aumbry_aumbryref07_Along ((alongR_ok S609.le ((((d + (i + 1) : Nat) : Int) - 1) - ((d : Nat) : Int)) hl295).mono ?_))
   rintro e w611 ⟨rfl, hB610⟩
   have S612 := S609.call hB610
   refine ⟨_, rfl, (((Hp.le.refl _)).trans S612.le), ?_⟩
   refine T_re (v' := hV (Go.Au.steps i (v.getD 0 []))) (congrArg (fun q => hV (Go.Au.steps q _)) (by omega)) ?_
   refine Nt rfl (Ag (hC := fun _ h => ((Hp.le.refl _)).trans h) (hl := by exact hVs (steps_len _ (start_len _ _ _))) (hl2 := by exact hVs (steps_len _ (start_len _ _ _))) (h1 := by exact one_hA _) 0 S612 fun w613 S614 => ?_)
   refine Nt rfl (Ag (hC := fun _ h => ((Hp.le.refl _)).trans h) (hl := by exact hVs (steps_len _ hxl)) (hl2 := by exact hVs (steps_len _ hxl)) (h1 := by exact one_hA _) 1 S614 fun w615 S616 => (T_nil (TT_done ?_)))
   have S617 := S616.swap12
   have S618 := S617.swap01
   exact Ws (J255 _ _ ⟨_, _, G208, rfl, (Hp.le.refl _), S618⟩)
  refine W_exit (W_seq (W_draw rfl (by kernel_rfl) ?_))
  have S619 := S211.drew
  refine Fl 1 ?_
  refine Ab (r := by exact still_cell (hl209 _ _ (hl206 _ _ (hl192 _ _ (hl188 _ _ (hl176 _ _ (hl164 _ _ (hl139 _ _ (hl97 _ _ (hl93 _ _ (hl74 _ _ (hl70 _ _ (hl40 _ _ (hl27 _ _ r17))))))))))))) rfl) S619 ?_
  refine P3 ?_
  refine Af 0 (r207.mono hl209) fun b620 o621 hc622 => ?_
  have hc623 := hc622 0 (.int .i64 ((Go.Au.digits m).getD 0 0)) (at_i (Go.Au.digits m) 0 (by omega))
  simp only [Nat.add_zero] at hc623
  refine Ab (r := by exact hc623) S619 ?_
  refine T_re (v' := .int .i64 ((d : Nat) : Int)) (congrArg (Value.int .i64) hd) (Fl 2 ?_)
  refine Ab (r := by exact still_cell (hl209 _ _ (hl206 _ _ (hl192 _ _ (hl188 _ _ (hl176 _ _ (hl164 _ _ (hl139 _ _ (hl97 _ _ (hl93 _ _ (hl74 _ _ (hl70 _ _ (hl40 _ _ (hl27 _ _ r17))))))))))))) rfl) S619 ?_
  refine Pv ?_
  refine Af 0 (h1.mono (hl12.trans (hl16.trans (hl27.trans (hl40.trans (hl70.trans (hl74.trans (hl93.trans (hl97.trans (hl139.trans (hl164.trans (hl176.trans (hl188.trans (hl192.trans (hl206.trans hl209))))))))))))))).2 fun b624 o625 hc626 => ?_
  have hc627 := cells_h (h1.mono (hl12.trans (hl16.trans (hl27.trans (hl40.trans (hl70.trans (hl74.trans (hl93.trans (hl97.trans (hl139.trans (hl164.trans (hl176.trans (hl188.trans (hl192.trans (hl206.trans hl209))))))))))))))).1 0 (by omega) hc626
  have hl628 := len_h (h1.mono (hl12.trans (hl16.trans (hl27.trans (hl40.trans (hl70.trans (hl74.trans (hl93.trans (hl97.trans (hl139.trans (hl164.trans (hl176.trans (hl188.trans (hl192.trans (hl206.trans hl209))))))))))))))).1 0 (by omega)
  refine T_loadGA _ S619 hc627 rfl rfl rfl rfl rfl rfl rfl rfl (hVs hl628) (T_buildS (cells := (gV [[.slice none 0 0], [.slice none 0 0], [.bool true], [.int .i64 sl], [.int .i64 0], [.int .i64 ((d : Nat) : Int)], (v.getD 0 []).map bV] : Value).cells) rfl rfl rfl rfl rfl rfl (fill_g (L := [[.slice none 0 0], [.slice none 0 0], [.bool false], [.int .i64 0], [.int .i64 0], [.int .i64 0], (List.replicate 32 0).map bV]) (ns := [1, 1, 1, 1, 1, 1, 32]) (v := .bool true) (off := 2) (k := 1) rfl (Shp.cons rfl (Shp.cons rfl (Shp.cons rfl (Shp.cons rfl (Shp.cons rfl (Shp.cons rfl (Shp.cons (lenB List.length_replicate) Shp.nil))))))) 2 1 [[.bool true]] rfl (by first | rfl | simp [hVs, *]) rfl rfl (fill_g (L := [[.slice none 0 0], [.slice none 0 0], [.bool true], [.int .i64 0], [.int .i64 0], [.int .i64 0], (List.replicate 32 0).map bV]) (ns := [1, 1, 1, 1, 1, 1, 32]) (v := .int .i64 sl) (off := 3) (k := 1) rfl (Shp.cons rfl (Shp.cons rfl (Shp.cons rfl (Shp.cons rfl (Shp.cons rfl (Shp.cons rfl (Shp.cons (lenB List.length_replicate) Shp.nil))))))) 3 1 [[.int .i64 sl]] rfl (by first | rfl | simp [hVs, *]) rfl rfl (fill_g (L := [[.slice none 0 0], [.slice none 0 0], [.bool true], [.int .i64 sl], [.int .i64 0], [.int .i64 0], (List.replicate 32 0).map bV]) (ns := [1, 1, 1, 1, 1, 1, 32]) (v := .int .i64 0) (off := 4) (k := 1) rfl (Shp.cons rfl (Shp.cons rfl (Shp.cons rfl (Shp.cons rfl (Shp.cons rfl (Shp.cons rfl (Shp.cons (lenB List.length_replicate) Shp.nil))))))) 4 1 [[.int .i64 0]] rfl (by first | rfl | simp [hVs, *]) rfl rfl (fill_g (L := [[.slice none 0 0], [.slice none 0 0], [.bool true], [.int .i64 sl], [.int .i64 0], [.int .i64 0], (List.replicate 32 0).map bV]) (ns := [1, 1, 1, 1, 1, 1, 32]) (v := .int .i64 ((d : Nat) : Int)) (off := 5) (k := 1) rfl (Shp.cons rfl (Shp.cons rfl (Shp.cons rfl (Shp.cons rfl (Shp.cons rfl (Shp.cons rfl (Shp.cons (lenB List.length_replicate) Shp.nil))))))) 5 1 [[.int .i64 ((d : Nat) : Int)]] rfl (by first | rfl | simp [hVs, *]) rfl rfl (fill_g (L := [[.slice none 0 0], [.slice none 0 0], [.bool true], [.int .i64 sl], [.int .i64 0], [.int .i64 ((d : Nat) : Int)], (List.replicate 32 0).map bV]) (ns := [1, 1, 1, 1, 1, 1, 32]) (v := hV (v.getD 0 [])) (off := 6) (k := 32) rfl (Shp.cons rfl (Shp.cons rfl (Shp.cons rfl (Shp.cons rfl (Shp.cons rfl (Shp.cons rfl (Shp.cons (lenB List.length_replicate) Shp.nil))))))) 6 1 [(v.getD 0 []).map bV] flat1 (hVs hl628) rfl rfl fill_gnil))))) rfl rfl rfl ?_)
  refine Ag (hl := by exact gV_size (L := [[.slice none 0 0], [.slice none 0 0], [.bool true], [.int .i64 sl], [.int .i64 0], [.int .i64 ((d : Nat) : Int)], (v.getD 0 []).map bV]) (ns := [1, 1, 1, 1, 1, 1, 32]) (Shp.cons rfl (Shp.cons rfl (Shp.cons rfl (Shp.cons rfl (Shp.cons rfl (Shp.cons rfl (Shp.cons (lenB hl628) Shp.nil))))))) rfl) (hl2 := by exact gV_size (L := [[.slice none 0 0], [.slice none 0 0], [.bool true], [.int .i64 sl], [.int .i64 0], [.int .i64 ((d : Nat) : Int)], (v.getD 0 []).map bV]) (ns := [1, 1, 1, 1, 1, 1, 32]) (Shp.cons rfl (Shp.cons rfl (Shp.cons rfl (Shp.cons rfl (Shp.cons rfl (Shp.cons rfl (Shp.cons (lenB hl628) Shp.nil))))))) rfl) (h1 := by exact gV_one (OneL.one rfl (OneL.one rfl (OneL.one rfl (OneL.one rfl (OneL.one rfl (OneL.one rfl (OneL.arr OneL.nil)))))))) 0 S619 fun w629 S630 => ?_
  refine Pv (T_nil (W_ret ?_))
  refine ⟨_, ⟨_, _, _, rfl, rfl, run_loadVarA rfl rfl (gV_size (L := [[.slice none 0 0], [.slice none 0 0], [.bool true], [.int .i64 sl], [.int .i64 0], [.int .i64 ((d : Nat) : Int)], (v.getD 0 []).map bV]) (ns := [1, 1, 1, 1, 1, 1, 32]) (Shp.cons rfl (Shp.cons rfl (Shp.cons rfl (Shp.cons rfl (Shp.cons rfl (Shp.cons rfl (Shp.cons (lenB hl628) Shp.nil))))))) rfl) (S630.cells 0 rfl), ⟨_, _, rfl, rfl, rfl⟩⟩, ?_⟩
  exact fg_end (f := fgO (expl seed (wasAt L sl) m h sh sl v p)) (b := (expl seed (wasAt L sl) m h sh sl v p).isSome) (f' := fgL sl (0 : Int) (d : Int) (v.getD 0 [])) (hS5.trans (stepF_none (hinv.trans (by obtain rfl : j = 0 := (by omega); rfl)))) (by rw [hE]; rfl) (nilB _) (nilB _) S630.fin S630.below
 refine W_seq (W_tree (planF Tryz.prog G96 [101, 104, 106, 107, 109, 113]) (.step 0 (.step 1 (.step 2 (.step 3 (.step 4 (.step 5 (.step 6 (.step 7 (.step 8 (.step 9 (.step 10 (.step 11 (.step 12 (.step 14 (.step 15 (.fork 13 20 (.fork 16 20 (.step 17 (.step 18 (.step 19 (.step 20 (.step 21 (.step 22 .done)))))) (.step 16 (.step 17 (.step 18 (.step 19 (.step 21 (.step 22 .done))))))) (.step 13 (.step 16 (.step 17 (.step 18 (.step 19 (.step 21 (.step 22 .done))))))))))))))))))))))) rfl (by kernel_rfl) S95.le ?_)
 have S631 := S95.drew
 iterate 2 (refine TT_step rfl ?_; refine Pv ?_; refine T_nil ?_)
 refine TT_step rfl (Fl 1 ?_)
 refine Nt rfl (Ak (r := by exact still_cell (hl97 _ _ (hl93 _ _ (hl74 _ _ (hl70 _ _ (hl40 _ _ (hl27 _ _ r17)))))) rfl) ?_)
 refine Nt rfl (Pv ?_)
 refine Nt rfl (Fl 1 ?_)
 refine Nt rfl (Ak (r := by exact still_cell (hl97 _ _ (hl93 _ _ (hl74 _ _ (hl70 _ _ (hl40 _ _ (hl27 _ _ r17)))))) rfl) ?_)
 refine Nt rfl (Af sl.toNat (r29.mono (hl40.trans (hl70.trans (hl74.trans (hl93.trans hl97))))).2 fun b632 o633 hc634 => ?_)
 have hc635 := cells_h (r29.mono (hl40.trans (hl70.trans (hl74.trans (hl93.trans hl97))))).1 sl.toNat (by omega) hc634
 have hl636 := len_h (r29.mono (hl40.trans (hl70.trans (hl74.trans (hl93.trans hl97))))).1 sl.toNat (by omega)
 refine Nt rfl (T_loadGAP _ (fun _ h => h) hc635 rfl rfl rfl rfl rfl rfl rfl rfl (hVs hl636) (T_re (v' := hV (pub seed sl)) (congrArg (fun q => hV q) (by rw [mleaves_at (by omega), show ((sl.toNat : Nat) : Int) = sl by omega])) ?_))
 refine Nt rfl (T_loadGAP _ (fun _ h => h) (still_cells (hl97 _ _ (hl93 _ _ (hl74 _ _ r71)))) rfl rfl rfl rfl rfl rfl rfl rfl (hVs (pubH_len _)) (Nt rfl (Fl 1 ?_)))
 refine Nt rfl (Ak (r := by exact still_cell (hl97 _ _ (hl93 _ _ (hl74 _ _ (hl70 _ _ (hl40 _ _ (hl27 _ _ r17)))))) rfl) ?_)
 refine Nt rfl (Pv ?_)
 refine Nt rfl (Fl 3 ?_)
 refine Nt rfl (Ak (r := by exact still_cell (hl97 _ _ (hl93 _ _ (hl74 _ _ (hl70 _ _ (hl40 _ _ (hl27 _ _ r17)))))) rfl) (T_nil ?_))
 refine TT_fork rfl rfl ?_ ?_
 ·refine Cs g_aumbry_aumbryref07_Proof ((proofR_ok S631.le sl (r29.mono (hl40.trans (hl70.trans (hl74.trans (hl93.trans hl97))))) (by omega) (by omega)).mono ?_)
  rintro e w642 ⟨a637, c638, hc639, rfl, ho640, hB641⟩
  have S643 := S631.own hB641 ho640
  refine ⟨_, rfl, (((Hp.le.refl _)).trans S643.le), ?_⟩
  refine T_nil (TT_fork rfl rfl ?_ ?_)
  ·obtain ⟨G645, hl646, S644, r647⟩ := S643.stillRow 0 rfl
   have r648 := RdH.mk (beside_all (r29.mono (hl40.trans (hl70.trans (hl74.trans (hl93.trans hl97))))).1 (by omega) (Nat.le_refl _)) (by decide) r647
   refine Cs g_aumbry_aumbryref07_Break ((breakR_ok S644.le (((2 ^ h.toNat) : Nat) : Int) sl (pub_len _ _) (pubH_len _) r648 (h2.mono (hl12.trans (hl16.trans (hl27.trans (hl40.trans (hl70.trans (hl74.trans (hl93.trans (hl97.trans hl646)))))))))).mono ?_)
   rintro e w656 ⟨a649, c650, a651, c652, rfl, r653, r654, hB655⟩
   obtain ⟨G658, eG660⟩ : ∃ G, G = F.ext G645 w642.heap.size w656 := ⟨_, rfl⟩
   obtain ⟨hl659, S657⟩ := S644.ext hB655
   rw [← eG660] at hl659 S657 r653 r654
   refine ⟨_, rfl, (((hl646.trans hl659)).trans S657.le), ?_⟩
   iterate 3 (refine T_nil ?_; refine TT_step rfl ?_; refine Pv ?_)
   refine Nt rfl (Ac (hC := fun _ h => ((hl646.trans hl659)).trans h) S657 fun b661 w662 S663 => ?_)
   refine Nt rfl (Ag (hC := fun _ h => ((hl646.trans hl659)).trans h) (hl := by first | rfl | simp [hVs, *]) (hl2 := by first | rfl | simp [hVs, *]) (h1 := by exact one_all rfl) 0 S663 fun w664 S665 => ?_)
   refine Nt rfl (Pv (T_nil (TT_done ?_)))
   have S666 := S665.swap01
   exact Ws (J142 _ _ ⟨_, _, _, _, _, G658, rfl, (hl646.trans hl659), S666, r653, r654⟩)
  refine Ac (hC := fun _ h => ((Hp.le.refl _)).trans h) S643 fun b667 w668 S669 => ?_
  refine Nt rfl ?_
  obtain ⟨G671, hl672, S670, r673⟩ := S669.stillRow 1 rfl
  have r674 := RdH.mk (beside_all (r29.mono (hl40.trans (hl70.trans (hl74.trans (hl93.trans hl97))))).1 (by omega) (Nat.le_refl _)) (by decide) r673
  refine Cs g_aumbry_aumbryref07_Break ((breakR_ok S670.le (((2 ^ h.toNat) : Nat) : Int) sl (pub_len _ _) (pubH_len _) r674 (h2.mono (hl12.trans (hl16.trans (hl27.trans (hl40.trans (hl70.trans (hl74.trans (hl93.trans (hl97.trans hl672)))))))))).mono ?_)
  rintro e w682 ⟨a675, c676, a677, c678, rfl, r679, r680, hB681⟩
  obtain ⟨G684, eG686⟩ : ∃ G, G = F.ext G671 w668.heap.size w682 := ⟨_, rfl⟩
  obtain ⟨hl685, S683⟩ := S670.ext hB681
  rw [← eG686] at hl685 S683 r679 r680
  refine ⟨_, rfl, (((hl672.trans hl685)).trans S683.le), ?_⟩
  iterate 3 (refine T_nil ?_; refine TT_step rfl ?_; refine Pv ?_)
  refine Nt rfl (Ag (hC := fun _ h => ((hl672.trans hl685)).trans h) (hl := by first | rfl | simp [hVs, *]) (hl2 := by first | rfl | simp [hVs, *]) (h1 := by exact one_all rfl) 0 S683 fun w687 S688 => ?_)
  refine Nt rfl (Pv (T_nil (TT_done ?_)))
  have S689 := S688.swap01
  exact Ws (J142 _ _ ⟨_, _, _, _, _, G684, rfl, (hl672.trans hl685), S689, r679, r680⟩)
 refine Ac (hC := fun _ h => ((Hp.le.refl _)).trans h) S631 fun b690 w691 S692 => ?_
 refine Nt rfl (Cs g_aumbry_aumbryref07_Proof ((proofR_ok S692.le sl (r29.mono (hl40.trans (hl70.trans (hl74.trans (hl93.trans hl97))))) (by omega) (by omega)).mono ?_))
 rintro e w698 ⟨a693, c694, hc695, rfl, ho696, hB697⟩
 have S699 := S692.own hB697 ho696
 refine ⟨_, rfl, (((Hp.le.refl _)).trans S699.le), ?_⟩
 refine Nt rfl ?_
 obtain ⟨G701, hl702, S700, r703⟩ := S699.stillRow 0 rfl
 have r704 := RdH.mk (beside_all (r29.mono (hl40.trans (hl70.trans (hl74.trans (hl93.trans hl97))))).1 (by omega) (Nat.le_refl _)) (by decide) r703
 refine Cs g_aumbry_aumbryref07_Break ((breakR_ok S700.le (((2 ^ h.toNat) : Nat) : Int) sl (pub_len _ _) (pubH_len _) r704 (h2.mono (hl12.trans (hl16.trans (hl27.trans (hl40.trans (hl70.trans (hl74.trans (hl93.trans (hl97.trans hl702)))))))))).mono ?_)
 rintro e w712 ⟨a705, c706, a707, c708, rfl, r709, r710, hB711⟩
 obtain ⟨G714, eG716⟩ : ∃ G, G = F.ext G701 w698.heap.size w712 := ⟨_, rfl⟩
 obtain ⟨hl715, S713⟩ := S700.ext hB711
 rw [← eG716] at hl715 S713 r709 r710
 refine ⟨_, rfl, (((hl702.trans hl715)).trans S713.le), ?_⟩
 iterate 3 (refine T_nil ?_; refine TT_step rfl ?_; refine Pv ?_)
 refine Nt rfl (Ag (hC := fun _ h => ((hl702.trans hl715)).trans h) (hl := by first | rfl | simp [hVs, *]) (hl2 := by first | rfl | simp [hVs, *]) (h1 := by exact one_all rfl) 0 S713 fun w717 S718 => ?_)
 refine Nt rfl (Pv (T_nil (TT_done ?_)))
 have S719 := S718.swap01
 exact Ws (J142 _ _ ⟨_, _, _, _, _, G714, rfl, (hl702.trans hl715), S719, r709, r710⟩)


set_option maxHeartbeats 2000000 in
theorem exprE1 {H : Hp} {w : World} (hH : H.le (hw w)) (h : Int) {seed : List UInt8} (hs : seed.length = 16) {L : List (List UInt8)} {aa2 : Option Addr} {nn2 cc2 : Nat} (hL : RdL H (.slice aa2 nn2 cc2) L) {m : List UInt8} {aa3 : Option Addr} {nn3 cc3 : Nat} (hv : Rd H (.slice aa3 nn3 cc3) nn3 1 (m.map bV)) (sh sl : Int) {v p : List (List UInt8)} {a1 a2 : Option Addr} {n1 n2 c1 c2 : Nat} (h1 : RdH H (.slice a1 n1 c1) 32 v) (h2 : RdH H (.slice a2 n2 c2) 32 p) (hm : 0 ≤ h ∧ h ≤ 4) (hml : m.length < 1000) (hLb : (wasAt L sl).length < 1000) (hvt : vrf (mprint seed h) m sh sl v p = true) (hW0 : 0 < (wasAt L sl).length) (hWm : ¬ (wasAt L sl) = m) :
  Calls Tryz.prog 9 #[hV seed, .int .i64 h, .slice aa2 nn2 cc2, .slice aa3 nn3 cc3, .agg #[.int .i64 sh, .int .i64 sl, .slice a1 n1 c1, .slice a2 n2 c2]] w fun e w' => ∃ a1 c1 a2 c2, e = .returned (.tuple #[gV [[.slice a1 (fgO (expl seed (wasAt L sl) m h sh sl v p)).A.length c1], [.slice a2 (fgO (expl seed (wasAt L sl) m h sh sl v p)).B.length c2], [.bool (fgO (expl seed (wasAt L sl) m h sh sl v p)).k], [.int .i64 (fgO (expl seed (wasAt L sl) m h sh sl v p)).a], [.int .i64 (fgO (expl seed (wasAt L sl) m h sh sl v p)).c], [.int .i64 (fgO (expl seed (wasAt L sl) m h sh sl v p)).q], (fgO (expl seed (wasAt L sl) m h sh sl v p)).x.map bV], .bool (expl seed (wasAt L sl) m h sh sl v p).isSome]) ∧ Rd (F.ext H w.heap.size w') (.slice a1 (fgO (expl seed (wasAt L sl) m h sh sl v p)).A.length c1) (fgO (expl seed (wasAt L sl) m h sh sl v p)).A.length 1 ((fgO (expl seed (wasAt L sl) m h sh sl v p)).A.map bV) ∧ Rd (F.ext H w.heap.size w') (.slice a2 (fgO (expl seed (wasAt L sl) m h sh sl v p)).B.length c2) (fgO (expl seed (wasAt L sl) m h sh sl v p)).B.length 1 ((fgO (expl seed (wasAt L sl) m h sh sl v p)).B.map bV) ∧ Below w.heap.size w w' := by
 have hnw : ¬ (0 < (wasAt L sl).length ∧ (wasAt L sl) = m) := fun x => hWm x.2
 have h0 : ¬ (wasAt L sl).length = 0 := by omega
 obtain rfl : nn2 = L.length := hL.len
 obtain rfl : nn3 = m.length := hv.lenB
 have hvcap : m.length ≤ cc3 := hv.capOf
 obtain rfl : n1 = v.length := h1.len
 obtain rfl : n2 = p.length := h2.len
 have hll := mleaves_len seed h.toNat
 have hp16 := pow16 (h := h) (by omega) (by omega)
 have ho := vrf_ok hvt
 obtain ⟨hs4, h67, hk⟩ := okS_may ho
 have hk2 := okW_of hk
 have hsp16 := pow16 (h := sh) hs4.1 hs4.2
 have hE : (expl seed (wasAt L sl) m h sh sl v p) = some _ := expl_yes hvt hnw
 have hdl := digits_len m
 have hdw := digits_len (wasAt L sl)
 have het := trueEnds_len seed sl 67
 have hev := ends_len m v 67
 refine enter5 _ Tryz.func9 rfl Tryz.ntmps9 Tryz.results9 rfl ?_
 have S0 := St.start w hH
 refine Wr (Ah S0 fun b1 w2 S3 => ?_)
 refine Ah S3 fun b4 w5 S6 => ?_
 refine Ac S6 fun b7 w8 S9 => ?_
 refine Pv (T_nil (W_seq ?_))
 obtain ⟨G11, hl12, S10, r13⟩ := S9.stillBlk 2 rfl
 obtain ⟨G15, hl16, S14, r17⟩ := S10.stillBlk 1 rfl
 refine W_region (T_loadGA _ S14 (still_cells (hl16 _ _ r13)) rfl rfl rfl rfl rfl rfl rfl rfl (hVs hs) (Pv ?_))
 refine Cs g_aumbry_aumbryref07_Leaves ((mssLeavesR_ok S14.le h hs (by omega)).mono ?_)
 rintro e w23 ⟨a18, c19, hc20, rfl, ho21, hB22⟩
 have S24 := S14.own hB22 ho21
 refine ⟨_, rfl, trivial, ?_⟩
 refine Pv (Nr ?_)
 refine Pv ?_
 obtain ⟨G26, hl27, S25, r28⟩ := S24.stillRow 0 rfl
 have r29 := RdH.mk (mleaves_all _ _) (by decide) r28
 refine Cs g_aumbry_aumbryref07_Root ((rootR_ok S25.le r29 (by omega)).mono ?_)
 rintro e w31 ⟨rfl, hB30⟩
 have S32 := S25.call hB30
 refine ⟨_, rfl, trivial, ?_⟩
 refine Ac S32 fun b33 w34 S35 => ?_
 refine Ag (hl := by exact hVs (root_len r29.1)) (hl2 := by exact hVs (root_len r29.1)) (h1 := by exact one_hA _) 0 S35 fun w36 S37 => (T_nil (W_seq ?_))
 obtain ⟨G39, hl40, S38, r41⟩ := S37.stillBlk 0 rfl
 refine W_region (Pv ?_)
 refine Fl 1 ?_
 refine Ab (r := by exact still_cell (hl40 _ _ (hl27 _ _ r17)) rfl) S38 ?_
 refine Cs g_aumbry_aumbryref07_signedBy ((signedYes_ok S38.le (hL.mono (hl12.trans (hl16.trans (hl27.trans hl40)))) sl h0).mono ?_)
 rintro e w47 ⟨a42, c43, hc44, rfl, hr45, hB46⟩
 have S48 := S38.call hB46
 refine ⟨_, rfl, trivial, ?_⟩
 have hnn := isNone_no hr45 (by omega)
 refine Pv (T_nil ?_)
 iterate 2 refine W_seq ?_
 refine W_plan (planF Tryz.prog G39 [46]) rfl (by kernel_rfl) S48.le ?_
 have S49 := S48.drew
 refine T_loadGA _ S49 (still_cells (hl40 _ _ (hl27 _ _ (hl16 _ _ r13)))) rfl rfl rfl rfl rfl rfl rfl rfl (hVs hs) (Pv ?_)
 refine Cs g_aumbry_aumbryref07_Print ((mssPrintR_ok S49.le h hs (by omega)).mono ?_)
 rintro e w51 ⟨rfl, hB50⟩
 have S52 := S49.call hB50
 refine ⟨_, rfl, (((Hp.le.refl _)).trans S52.le), ?_⟩
 refine Pv ?_
 refine T_loadGAP _ (fun _ h => h) (still_cells (hl40 _ _ (hl27 _ _ r17))) rfl rfl rfl rfl rfl rfl rfl rfl (by first | rfl | simp [hVs, *]) ?_
 refine Cs g_aumbry_aumbryref07_Verify ((verifyR_ok S52.le (mprint_len _ _) sh sl (h1.mono (hl12.trans (hl16.trans (hl27.trans hl40)))) (h2.mono (hl12.trans (hl16.trans (hl27.trans hl40)))) (hv.mono (hl12.trans (hl16.trans (hl27.trans hl40)))) (by omega)).mono ?_)
 rintro e w54 ⟨rfl, hB53⟩
 have S55 := S52.call hB53
 refine ⟨_, rfl, (((Hp.le.refl _)).trans S55.le), ?_⟩
 refine P2 ?_
 refine T_bool 49 false rfl (by rw [hvt]; rfl) ?_
 refine Ys ?_
 refine Pv ?_
 refine Ys ?_
 refine T_snilN rfl rfl rfl rfl rfl rfl rfl (Ys ?_)
 refine Pv ?_
 refine T_bool 52 true rfl (by rw [hnn]; rfl) ?_
 refine Ys ?_
 refine Pv ?_
 refine Ys ?_
 refine T_convG S55 hr45 rfl rfl rfl rfl rfl rfl rfl rfl rfl (Ys ?_)
 refine Pv ?_
 refine Ys ?_
 refine T_convG S55 (hv.mono (hl12.trans (hl16.trans (hl27.trans hl40)))) rfl rfl rfl rfl rfl rfl rfl rfl rfl (Ys ?_)
 refine T_streq rfl rfl rfl rfl rfl rfl (Ys ?_)
 refine P2 (T_nil ?_)
 refine W_bool 59 false rfl (decide_eq_false hWm) (W_cond_false rfl (W_skip (Wr (Pv ?_))))
 refine Fl 2 ?_
 refine Ab (r := by exact still_cell (hl40 _ _ (hl27 _ _ r17)) rfl) S55 ?_
 refine Cs g_aumbry_aumbryref07_Recover ((recoverR_ok S55.le (hv.mono (hl12.trans (hl16.trans (hl27.trans hl40)))) (h1.mono (hl12.trans (hl16.trans (hl27.trans hl40)))) (by omega) (by omega)).mono ?_)
 rintro e w57 ⟨rfl, hB56⟩
 have S58 := S55.call hB56
 refine ⟨_, rfl, trivial, ?_⟩
 refine P3 ?_
 refine Ac S58 fun b59 w60 S61 => ?_
 refine Ag (hl := by exact hVs (pubH_len _)) (hl2 := by exact hVs (pubH_len _)) (h1 := by exact one_hA _) 0 S61 fun w62 S63 => ?_
 refine Pv (Nr ?_)
 refine Fl 0 ?_
 refine Ab (r := by exact still_cell (hl40 _ _ (hl27 _ _ r17)) rfl) S63 ?_
 refine Pv ?_
 refine T_re (v' := .int .u64 sh) (congrArg (Value.int .u64) (by rw [IntKind.wrap_u64]; omega)) ?_
 refine T_shl rfl rfl rfl rfl rfl rfl (by omega) ?_
 refine T_re (v' := .int .i64 ((2 ^ sh.toNat : Nat) : Int)) (congrArg (Value.int .i64) (shlI (by omega) (by omega))) ?_
 refine Fl 1 ?_
 refine Ab (r := by exact still_cell (hl40 _ _ (hl27 _ _ r17)) rfl) S63 ?_
 refine Ai (hl := by exact hVs (pubH_len _)) 0 S63 ?_
 refine Fl 3 ?_
 refine Ab (r := by exact still_cell (hl40 _ _ (hl27 _ _ r17)) rfl) S63 ?_
 refine Cs g_aumbry_aumbryref07_Climb ((climbR_ok S63.le ((2 ^ sh.toNat : Nat) : Int) sl (pubH_len _) (h2.mono (hl12.trans (hl16.trans (hl27.trans hl40))))).mono ?_)
 rintro e w65 ⟨rfl, hB64⟩
 have S66 := S63.call hB64
 refine ⟨_, rfl, trivial, ?_⟩
 refine P2 ?_
 refine T_re (v' := hV (climbS m sh sl v p)) (congrArg (fun q => hV q) (climbS_c hs4 h67).symm) (Pv ?_)
 refine Ac S66 fun b67 w68 S69 => ?_
 refine Ag (hl := by exact hVs (climbS_len _ _ _ _ _)) (hl2 := by exact hVs (climbS_len _ _ _ _ _)) (h1 := by exact one_hA _) 0 S69 fun w70 S71 => ?_
 refine Pv (T_nil ?_)
 iterate 2 refine W_seq ?_
 obtain ⟨G73, hl74, S72, r75⟩ := S71.stillBlk 1 rfl
 obtain ⟨G77, hl78, S76, r79⟩ := S72.stillBlk 0 rfl
 refine W_plan (planF Tryz.prog G77 [85, 86]) rfl (by kernel_rfl) S76.le ?_
 have S80 := S76.drew
 refine Pv ?_
 refine T_loadGA _ S80 (still_cells (hl78 _ _ (hl74 _ _ r41))) rfl rfl rfl rfl rfl rfl rfl rfl (hVs (root_len r29.1)) (Cs g_aumbry_aumbryref07_printText ((printTR_ok S80.le h (by omega) (root_len r29.1)).mono ?_))
 rintro e w86 ⟨a81, c82, hc83, rfl, ho84, hB85⟩
 have S87 := S80.own hB85 ho84
 refine ⟨_, rfl, (((Hp.le.refl _)).trans S87.le), ?_⟩
 refine Fl 0 ?_
 refine Ak (r := by exact still_cell (hl78 _ _ (hl74 _ _ (hl40 _ _ (hl27 _ _ r17)))) rfl) ?_
 refine T_loadGAP _ (fun _ h => h) (still_cells r79) rfl rfl rfl rfl rfl rfl rfl rfl (hVs (climbS_len _ _ _ _ _)) (Cs g_aumbry_aumbryref07_printText ((printTR_ok S87.le sh (by omega) (climbS_len _ _ _ _ _)).mono ?_))
 rintro e w93 ⟨a88, c89, hc90, rfl, ho91, hB92⟩
 have S94 := S87.own hB92 ho91
 refine ⟨_, rfl, (((Hp.le.refl _)).trans S94.le), ?_⟩
 refine P2 (Nr ?_)
 refine Pv ?_
 obtain ⟨G96, hl97, S95, r98⟩ := S94.stillRow 1 rfl
 refine T_convG S95 r98 rfl rfl rfl rfl rfl rfl rfl rfl rfl (Pv ?_)
 obtain ⟨G100, hl101, S99, r102⟩ := S95.stillRow 0 rfl
 refine T_convG S99 r102 rfl rfl rfl rfl rfl rfl rfl rfl rfl (T_strne rfl rfl rfl rfl rfl rfl (T_nil (W_cond_not rfl (fun h103 => ?_) (fun h103 => ?_))))
 ·refine W_seq ?_
  have hn1 : ¬ printT h (Go.Au.root (mleaves seed h.toNat)) = printT sh (climbS m sh sl v p) := (by first | exact h103 | simpa using h103)
  refine W_region (P2 ?_)
  refine T_buildS (cells := #[.slice a81 ((printT h (Go.Au.root (mleaves seed h.toNat))).length) c82, .slice a88 ((printT sh (climbS m sh sl v p)).length) c89]) rfl rfl rfl rfl rfl rfl rfl rfl rfl rfl (T_buildS (cells := (gV [[.slice a81 ((printT h (Go.Au.root (mleaves seed h.toNat))).length) c82], [.slice a88 ((printT sh (climbS m sh sl v p)).length) c89], [.bool false], [.int .i64 0], [.int .i64 0], [.int .i64 0], (List.replicate 32 0).map bV] : Value).cells) rfl rfl rfl rfl rfl rfl (fill_g (L := [[.slice none 0 0], [.slice none 0 0], [.bool false], [.int .i64 0], [.int .i64 0], [.int .i64 0], (List.replicate 32 0).map bV]) (ns := [1, 1, 1, 1, 1, 1, 32]) (v := .agg #[.slice a81 ((printT h (Go.Au.root (mleaves seed h.toNat))).length) c82, .slice a88 ((printT sh (climbS m sh sl v p)).length) c89]) (off := 0) (k := 2) rfl (Shp.cons rfl (Shp.cons rfl (Shp.cons rfl (Shp.cons rfl (Shp.cons rfl (Shp.cons rfl (Shp.cons (lenB List.length_replicate) Shp.nil))))))) 0 2 [[.slice a81 ((printT h (Go.Au.root (mleaves seed h.toNat))).length) c82], [.slice a88 ((printT sh (climbS m sh sl v p)).length) c89]] rfl (by first | rfl | simp [hVs, *]) rfl rfl fill_gnil) rfl rfl rfl ?_)
  refine Ag (hl := by exact gV_size (L := [[.slice a81 ((printT h (Go.Au.root (mleaves seed h.toNat))).length) c82], [.slice a88 ((printT sh (climbS m sh sl v p)).length) c89], [.bool false], [.int .i64 0], [.int .i64 0], [.int .i64 0], (List.replicate 32 0).map bV]) (ns := [1, 1, 1, 1, 1, 1, 32]) (Shp.cons rfl (Shp.cons rfl (Shp.cons rfl (Shp.cons rfl (Shp.cons rfl (Shp.cons rfl (Shp.cons (lenB List.length_replicate) Shp.nil))))))) rfl) (hl2 := by exact gV_size (L := [[.slice a81 ((printT h (Go.Au.root (mleaves seed h.toNat))).length) c82], [.slice a88 ((printT sh (climbS m sh sl v p)).length) c89], [.bool false], [.int .i64 0], [.int .i64 0], [.int .i64 0], (List.replicate 32 0).map bV]) (ns := [1, 1, 1, 1, 1, 1, 32]) (Shp.cons rfl (Shp.cons rfl (Shp.cons rfl (Shp.cons rfl (Shp.cons rfl (Shp.cons rfl (Shp.cons (lenB List.length_replicate) Shp.nil))))))) rfl) (h1 := by exact gV_one (OneL.one rfl (OneL.one rfl (OneL.one rfl (OneL.one rfl (OneL.one rfl (OneL.one rfl (OneL.arr OneL.nil)))))))) 0 S99 fun w104 S105 => ?_
  refine Pv (T_nil (W_ret ?_))
  refine ⟨_, ⟨_, _, _, rfl, rfl, run_loadVarA rfl rfl (gV_size (L := [[.slice a81 ((printT h (Go.Au.root (mleaves seed h.toNat))).length) c82], [.slice a88 ((printT sh (climbS m sh sl v p)).length) c89], [.bool false], [.int .i64 0], [.int .i64 0], [.int .i64 0], (List.replicate 32 0).map bV]) (ns := [1, 1, 1, 1, 1, 1, 32]) (Shp.cons rfl (Shp.cons rfl (Shp.cons rfl (Shp.cons rfl (Shp.cons rfl (Shp.cons rfl (Shp.cons (lenB List.length_replicate) Shp.nil))))))) rfl) (S105.cells 0 rfl), ⟨_, _, rfl, rfl, rfl⟩⟩, ?_⟩
  exact fg_end (f := fgO (expl seed (wasAt L sl) m h sh sl v p)) (b := (expl seed (wasAt L sl) m h sh sl v p).isSome) (f' := fgB (printT h (Go.Au.root (mleaves seed h.toNat))) (printT sh (climbS m sh sl v p))) (by rw [hE]; exact explS_1 hn1) (by rw [hE]; rfl) (r98.mono hl101) r102 S105.fin S105.below
 refine W_skip (W_seq ?_)
 have hp1 : printT h (Go.Au.root (mleaves seed h.toNat)) = printT sh (climbS m sh sl v p) := (by first | exact h103 | simpa using h103)
 have hhs := (printT_inj hm hs4 hp1).1
 have hsl2 : 0 ≤ sl ∧ sl < ((2 ^ h.toNat : Nat) : Int) := by rw [hhs]; exact ⟨hk2.1, hk2.2.1⟩
 refine W_j1 (fun ρ w' => ∃ (b136 : Nat) (a124 : Option Addr) (c125 : Nat) (a126 : Option Addr) (c127 : Nat) (G142 : Hp), ρ = [(3, .slice aa3 m.length cc3), (5, .pointer (some ⟨b1, 0, none⟩)), (9, .pointer (some ⟨b4, 0, none⟩)), (10, .pointer (some ⟨b7, 0, none⟩)), (11, .bool false), (14, .slice a42 (wasAt L sl).length c43), (21, .pointer (some ⟨b136, 0, none⟩)), (22, .bool ((brk (((2 ^ h.toNat) : Nat) : Int) sl (pub seed sl) (pubH (ends m v 67)) (Go.Au.beside (rowP (mleaves seed h.toNat)) sl.toNat (lg (mleaves seed h.toNat).length)) p).isSome))] ∧ G100.le G142 ∧ St w H G142 [.blk b7 (gV [[.slice none 0 0], [.slice none 0 0], [.bool false], [.int .i64 0], [.int .i64 0], [.int .i64 0], (List.replicate 32 0).map bV] : Value).cells 42, .blk b136 (.agg #[.slice a124 (brA (brk (((2 ^ h.toNat) : Nat) : Int) sl (pub seed sl) (pubH (ends m v 67)) (Go.Au.beside (rowP (mleaves seed h.toNat)) sl.toNat (lg (mleaves seed h.toNat).length)) p)).length c125, .slice a126 (brB (brk (((2 ^ h.toNat) : Nat) : Int) sl (pub seed sl) (pubH (ends m v 67)) (Go.Au.beside (rowP (mleaves seed h.toNat)) sl.toNat (lg (mleaves seed h.toNat).length)) p)).length c127] : Value).cells 35] w' ∧ Rd G142 (.slice a124 (brA (brk (((2 ^ h.toNat) : Nat) : Int) sl (pub seed sl) (pubH (ends m v 67)) (Go.Au.beside (rowP (mleaves seed h.toNat)) sl.toNat (lg (mleaves seed h.toNat).length)) p)).length c125) ((brA (brk (((2 ^ h.toNat) : Nat) : Int) sl (pub seed sl) (pubH (ends m v 67)) (Go.Au.beside (rowP (mleaves seed h.toNat)) sl.toNat (lg (mleaves seed h.toNat).length)) p)).length) 1 ((brA (brk (((2 ^ h.toNat) : Nat) : Int) sl (pub seed sl) (pubH (ends m v 67)) (Go.Au.beside (rowP (mleaves seed h.toNat)) sl.toNat (lg (mleaves seed h.toNat).length)) p)).map bV) ∧ Rd G142 (.slice a126 (brB (brk (((2 ^ h.toNat) : Nat) : Int) sl (pub seed sl) (pubH (ends m v 67)) (Go.Au.beside (rowP (mleaves seed h.toNat)) sl.toNat (lg (mleaves seed h.toNat).length)) p)).length c127) ((brB (brk (((2 ^ h.toNat) : Nat) : Int) sl (pub seed sl) (pubH (ends m v 67)) (Go.Au.beside (rowP (mleaves seed h.toNat)) sl.toNat (lg (mleaves seed h.toNat).length)) p)).length) 1 ((brB (brk (((2 ^ h.toNat) : Nat) : Int) sl (pub seed sl) (pubH (ends m v 67)) (Go.Au.beside (rowP (mleaves seed h.toNat)) sl.toNat (lg (mleaves seed h.toNat).length)) p)).map bV)) ?_ (fun J146 => ?_)
 ·rintro ρ w145 ⟨b136, a124, c125, a126, c127, G142, rfl, hl143, S144, r147, r148⟩
  refine Wr (Pv (T_nil ?_))
  refine W_cond rfl (fun h149 => ?_) (fun h149 => ?_)
  ·refine W_seq ?_
   have hb2 : (brkS seed m h sl v p).isSome = true := h149
   refine W_region (Ai (hl := by first | rfl | simp [hVs, *]) 1 S144 ?_)
   refine T_buildS (cells := (gV [[.slice a124 (brA (brk (((2 ^ h.toNat) : Nat) : Int) sl (pub seed sl) (pubH (ends m v 67)) (Go.Au.beside (rowP (mleaves seed h.toNat)) sl.toNat (lg (mleaves seed h.toNat).length)) p)).length c125], [.slice a126 (brB (brk (((2 ^ h.toNat) : Nat) : Int) sl (pub seed sl) (pubH (ends m v 67)) (Go.Au.beside (rowP (mleaves seed h.toNat)) sl.toNat (lg (mleaves seed h.toNat).length)) p)).length c127], [.bool false], [.int .i64 0], [.int .i64 0], [.int .i64 0], (List.replicate 32 0).map bV] : Value).cells) rfl rfl rfl rfl rfl rfl (fill_g (L := [[.slice none 0 0], [.slice none 0 0], [.bool false], [.int .i64 0], [.int .i64 0], [.int .i64 0], (List.replicate 32 0).map bV]) (ns := [1, 1, 1, 1, 1, 1, 32]) (v := .agg #[.slice a124 (brA (brk (((2 ^ h.toNat) : Nat) : Int) sl (pub seed sl) (pubH (ends m v 67)) (Go.Au.beside (rowP (mleaves seed h.toNat)) sl.toNat (lg (mleaves seed h.toNat).length)) p)).length c125, .slice a126 (brB (brk (((2 ^ h.toNat) : Nat) : Int) sl (pub seed sl) (pubH (ends m v 67)) (Go.Au.beside (rowP (mleaves seed h.toNat)) sl.toNat (lg (mleaves seed h.toNat).length)) p)).length c127]) (off := 0) (k := 2) rfl (Shp.cons rfl (Shp.cons rfl (Shp.cons rfl (Shp.cons rfl (Shp.cons rfl (Shp.cons rfl (Shp.cons (lenB List.length_replicate) Shp.nil))))))) 0 2 [[.slice a124 (brA (brk (((2 ^ h.toNat) : Nat) : Int) sl (pub seed sl) (pubH (ends m v 67)) (Go.Au.beside (rowP (mleaves seed h.toNat)) sl.toNat (lg (mleaves seed h.toNat).length)) p)).length c125], [.slice a126 (brB (brk (((2 ^ h.toNat) : Nat) : Int) sl (pub seed sl) (pubH (ends m v 67)) (Go.Au.beside (rowP (mleaves seed h.toNat)) sl.toNat (lg (mleaves seed h.toNat).length)) p)).length c127]] rfl (by first | rfl | simp [hVs, *]) rfl rfl fill_gnil) rfl rfl rfl ?_
   refine Ag (hl := by exact gV_size (L := [[.slice a124 (brA (brk (((2 ^ h.toNat) : Nat) : Int) sl (pub seed sl) (pubH (ends m v 67)) (Go.Au.beside (rowP (mleaves seed h.toNat)) sl.toNat (lg (mleaves seed h.toNat).length)) p)).length c125], [.slice a126 (brB (brk (((2 ^ h.toNat) : Nat) : Int) sl (pub seed sl) (pubH (ends m v 67)) (Go.Au.beside (rowP (mleaves seed h.toNat)) sl.toNat (lg (mleaves seed h.toNat).length)) p)).length c127], [.bool false], [.int .i64 0], [.int .i64 0], [.int .i64 0], (List.replicate 32 0).map bV]) (ns := [1, 1, 1, 1, 1, 1, 32]) (Shp.cons rfl (Shp.cons rfl (Shp.cons rfl (Shp.cons rfl (Shp.cons rfl (Shp.cons rfl (Shp.cons (lenB List.length_replicate) Shp.nil))))))) rfl) (hl2 := by exact gV_size (L := [[.slice a124 (brA (brk (((2 ^ h.toNat) : Nat) : Int) sl (pub seed sl) (pubH (ends m v 67)) (Go.Au.beside (rowP (mleaves seed h.toNat)) sl.toNat (lg (mleaves seed h.toNat).length)) p)).length c125], [.slice a126 (brB (brk (((2 ^ h.toNat) : Nat) : Int) sl (pub seed sl) (pubH (ends m v 67)) (Go.Au.beside (rowP (mleaves seed h.toNat)) sl.toNat (lg (mleaves seed h.toNat).length)) p)).length c127], [.bool false], [.int .i64 0], [.int .i64 0], [.int .i64 0], (List.replicate 32 0).map bV]) (ns := [1, 1, 1, 1, 1, 1, 32]) (Shp.cons rfl (Shp.cons rfl (Shp.cons rfl (Shp.cons rfl (Shp.cons rfl (Shp.cons rfl (Shp.cons (lenB List.length_replicate) Shp.nil))))))) rfl) (h1 := by exact gV_one (OneL.one rfl (OneL.one rfl (OneL.one rfl (OneL.one rfl (OneL.one rfl (OneL.one rfl (OneL.arr OneL.nil)))))))) 0 S144 fun w150 S151 => ?_
   refine Pv (T_nil (W_ret ?_))
   refine ⟨_, ⟨_, _, _, rfl, rfl, run_loadVarA rfl rfl (gV_size (L := [[.slice a124 (brA (brk (((2 ^ h.toNat) : Nat) : Int) sl (pub seed sl) (pubH (ends m v 67)) (Go.Au.beside (rowP (mleaves seed h.toNat)) sl.toNat (lg (mleaves seed h.toNat).length)) p)).length c125], [.slice a126 (brB (brk (((2 ^ h.toNat) : Nat) : Int) sl (pub seed sl) (pubH (ends m v 67)) (Go.Au.beside (rowP (mleaves seed h.toNat)) sl.toNat (lg (mleaves seed h.toNat).length)) p)).length c127], [.bool false], [.int .i64 0], [.int .i64 0], [.int .i64 0], (List.replicate 32 0).map bV]) (ns := [1, 1, 1, 1, 1, 1, 32]) (Shp.cons rfl (Shp.cons rfl (Shp.cons rfl (Shp.cons rfl (Shp.cons rfl (Shp.cons rfl (Shp.cons (lenB List.length_replicate) Shp.nil))))))) rfl) (S151.cells 0 rfl), ⟨_, _, rfl, rfl, rfl⟩⟩, ?_⟩
   exact fg_end (f := fgO (expl seed (wasAt L sl) m h sh sl v p)) (b := (expl seed (wasAt L sl) m h sh sl v p).isSome) (f' := fgB (brA (brkS seed m h sl v p)) (brB (brkS seed m h sl v p))) (by rw [hE]; exact explS_2 hp1 hb2) (by rw [hE]; rfl) r147 r148 S151.fin S151.below
  refine W_skip (W_seq ?_)
  have hb2 : (brkS seed m h sl v p).isSome = false := h149
  refine W_region (Pv ?_)
  refine Fl 2 ?_
  refine Ab (r := by exact still_cell (hl143 _ _ (hl101 _ _ (hl97 _ _ (hl78 _ _ (hl74 _ _ (hl40 _ _ (hl27 _ _ r17))))))) rfl) S144 ?_
  refine Cs g_aumbry_aumbryref07_Ends ((endsVR_ok S144.le (hv.mono (hl12.trans (hl16.trans (hl27.trans (hl40.trans (hl74.trans (hl78.trans (hl97.trans (hl101.trans hl143))))))))) (h1.mono (hl12.trans (hl16.trans (hl27.trans (hl40.trans (hl74.trans (hl78.trans (hl97.trans (hl101.trans hl143))))))))) (by omega) (by omega)).mono ?_)
  rintro e w157 ⟨a152, c153, hc154, rfl, ho155, hB156⟩
  have S158 := S144.own hB156 ho155
  refine ⟨_, rfl, trivial, ?_⟩
  iterate 5 refine Pv ?_
  refine T_nil (W_seq (Wr (T_loadGA _ S158 (still_cells (hl143 _ _ (hl101 _ _ (hl97 _ _ (hl78 _ _ (hl74 _ _ (hl40 _ _ (hl27 _ _ (hl16 _ _ r13))))))))) rfl rfl rfl rfl rfl rfl rfl rfl (hVs hs) (Fl 1 ?_))))
  refine Ab (r := by exact still_cell (hl143 _ _ (hl101 _ _ (hl97 _ _ (hl78 _ _ (hl74 _ _ (hl40 _ _ (hl27 _ _ r17))))))) rfl) S158 ?_
  refine Cs g_aumbry_aumbryref07_ends ((endsR_ok S158.le sl hs (by omega)).mono ?_)
  rintro e w164 ⟨a159, c160, hc161, rfl, ho162, hB163⟩
  have S165 := S158.own hB163 ho162
  refine ⟨_, rfl, trivial, ?_⟩
  obtain ⟨G167, hl168, S166, r169⟩ := S165.stillRow 0 rfl
  have r170 := RdH.mk (trueEnds_all _ _ _) (by decide) r169
  refine Cs g_aumbry_aumbryref07_publicText ((pubTextR_ok S166.le r170 (by omega)).mono ?_)
  rintro e w176 ⟨a171, c172, hc173, rfl, ho174, hB175⟩
  have S177 := S166.own hB175 ho174
  refine ⟨_, rfl, trivial, ?_⟩
  refine Pv ?_
  obtain ⟨G179, hl180, S178, r181⟩ := S177.stillRow 1 rfl
  have r182 := RdH.mk (ends_all (h1.mono (hl12.trans (hl16.trans (hl27.trans (hl40.trans (hl74.trans (hl78.trans (hl97.trans (hl101.trans hl143))))))))).1 (by omega)) (by decide) r181
  refine Cs g_aumbry_aumbryref07_publicText ((pubTextR_ok S178.le r182 (by omega)).mono ?_)
  rintro e w188 ⟨a183, c184, hc185, rfl, ho186, hB187⟩
  have S189 := S178.own hB187 ho186
  refine ⟨_, rfl, trivial, ?_⟩
  refine P2 (Nr ?_)
  refine Pv ?_
  obtain ⟨G191, hl192, S190, r193⟩ := S189.stillRow 1 rfl
  refine T_convG S190 r193 rfl rfl rfl rfl rfl rfl rfl rfl rfl (Pv ?_)
  obtain ⟨G195, hl196, S194, r197⟩ := S190.stillRow 0 rfl
  refine T_convG S194 r197 rfl rfl rfl rfl rfl rfl rfl rfl rfl (T_strne rfl rfl rfl rfl rfl rfl (T_nil (W_cond_not rfl (fun h198 => ?_) (fun h198 => ?_))))
  ·refine W_seq ?_
   have hn3 : ¬ pubT (trueEnds seed sl 67) = pubT (ends m v 67) := (by first | exact h198 | simpa using h198)
   refine W_region (P2 ?_)
   refine T_buildS (cells := #[.slice a171 ((Go.Au.text [112, 117, 98, 108, 105, 99] (trueEnds seed sl 67)).length) c172, .slice a183 ((Go.Au.text [112, 117, 98, 108, 105, 99] (ends m v 67)).length) c184]) rfl rfl rfl rfl rfl rfl rfl rfl rfl rfl (T_buildS (cells := (gV [[.slice a171 ((Go.Au.text [112, 117, 98, 108, 105, 99] (trueEnds seed sl 67)).length) c172], [.slice a183 ((Go.Au.text [112, 117, 98, 108, 105, 99] (ends m v 67)).length) c184], [.bool false], [.int .i64 0], [.int .i64 0], [.int .i64 0], (List.replicate 32 0).map bV] : Value).cells) rfl rfl rfl rfl rfl rfl (fill_g (L := [[.slice none 0 0], [.slice none 0 0], [.bool false], [.int .i64 0], [.int .i64 0], [.int .i64 0], (List.replicate 32 0).map bV]) (ns := [1, 1, 1, 1, 1, 1, 32]) (v := .agg #[.slice a171 ((Go.Au.text [112, 117, 98, 108, 105, 99] (trueEnds seed sl 67)).length) c172, .slice a183 ((Go.Au.text [112, 117, 98, 108, 105, 99] (ends m v 67)).length) c184]) (off := 0) (k := 2) rfl (Shp.cons rfl (Shp.cons rfl (Shp.cons rfl (Shp.cons rfl (Shp.cons rfl (Shp.cons rfl (Shp.cons (lenB List.length_replicate) Shp.nil))))))) 0 2 [[.slice a171 ((Go.Au.text [112, 117, 98, 108, 105, 99] (trueEnds seed sl 67)).length) c172], [.slice a183 ((Go.Au.text [112, 117, 98, 108, 105, 99] (ends m v 67)).length) c184]] rfl (by first | rfl | simp [hVs, *]) rfl rfl fill_gnil) rfl rfl rfl ?_)
   refine Ag (hl := by exact gV_size (L := [[.slice a171 ((Go.Au.text [112, 117, 98, 108, 105, 99] (trueEnds seed sl 67)).length) c172], [.slice a183 ((Go.Au.text [112, 117, 98, 108, 105, 99] (ends m v 67)).length) c184], [.bool false], [.int .i64 0], [.int .i64 0], [.int .i64 0], (List.replicate 32 0).map bV]) (ns := [1, 1, 1, 1, 1, 1, 32]) (Shp.cons rfl (Shp.cons rfl (Shp.cons rfl (Shp.cons rfl (Shp.cons rfl (Shp.cons rfl (Shp.cons (lenB List.length_replicate) Shp.nil))))))) rfl) (hl2 := by exact gV_size (L := [[.slice a171 ((Go.Au.text [112, 117, 98, 108, 105, 99] (trueEnds seed sl 67)).length) c172], [.slice a183 ((Go.Au.text [112, 117, 98, 108, 105, 99] (ends m v 67)).length) c184], [.bool false], [.int .i64 0], [.int .i64 0], [.int .i64 0], (List.replicate 32 0).map bV]) (ns := [1, 1, 1, 1, 1, 1, 32]) (Shp.cons rfl (Shp.cons rfl (Shp.cons rfl (Shp.cons rfl (Shp.cons rfl (Shp.cons rfl (Shp.cons (lenB List.length_replicate) Shp.nil))))))) rfl) (h1 := by exact gV_one (OneL.one rfl (OneL.one rfl (OneL.one rfl (OneL.one rfl (OneL.one rfl (OneL.one rfl (OneL.arr OneL.nil)))))))) 0 S194 fun w199 S200 => ?_
   refine Pv (T_nil (W_ret ?_))
   refine ⟨_, ⟨_, _, _, rfl, rfl, run_loadVarA rfl rfl (gV_size (L := [[.slice a171 ((Go.Au.text [112, 117, 98, 108, 105, 99] (trueEnds seed sl 67)).length) c172], [.slice a183 ((Go.Au.text [112, 117, 98, 108, 105, 99] (ends m v 67)).length) c184], [.bool false], [.int .i64 0], [.int .i64 0], [.int .i64 0], (List.replicate 32 0).map bV]) (ns := [1, 1, 1, 1, 1, 1, 32]) (Shp.cons rfl (Shp.cons rfl (Shp.cons rfl (Shp.cons rfl (Shp.cons rfl (Shp.cons rfl (Shp.cons (lenB List.length_replicate) Shp.nil))))))) rfl) (S200.cells 0 rfl), ⟨_, _, rfl, rfl, rfl⟩⟩, ?_⟩
   exact fg_end (f := fgO (expl seed (wasAt L sl) m h sh sl v p)) (b := (expl seed (wasAt L sl) m h sh sl v p).isSome) (f' := fgB (pubT (trueEnds seed sl 67)) (pubT (ends m v 67))) (by rw [hE]; exact explS_3 hp1 hb2 hn3) (by rw [hE]; rfl) (r193.mono hl196) r197 S200.fin S200.below
  refine W_skip (W_seq ?_)
  have hp3 : pubT (trueEnds seed sl 67) = pubT (ends m v 67) := (by first | exact h198 | simpa using h198)
  refine W_region (Pv ?_)
  refine Cs g_aumbry_aumbryref07_Digits ((digitsR_w_ok S194.le (hv.mono (hl12.trans (hl16.trans (hl27.trans (hl40.trans (hl74.trans (hl78.trans (hl97.trans (hl101.trans (hl143.trans (hl168.trans (hl180.trans (hl192.trans hl196))))))))))))) (by omega)).mono ?_)
  rintro e w206 ⟨a201, c202, hc203, rfl, ho204, hB205⟩
  have S207 := S194.own hB205 ho204
  refine ⟨_, rfl, trivial, ?_⟩
  refine Pv (Nr ?_)
  refine Pv (T_nil (W_seq (Wr ?_)))
  refine Pv ?_
  refine T_snilN rfl rfl rfl rfl rfl rfl rfl (T_nil (W_bool 146 true rfl (by rw [hnn]; rfl) ?_))
  refine W_cond_true rfl (Wr (Pv ?_))
  refine Cs g_aumbry_aumbryref07_Digits ((digitsR_w_ok S207.le (hr45.mono (hl74.trans (hl78.trans (hl97.trans (hl101.trans (hl143.trans (hl168.trans (hl180.trans (hl192.trans hl196))))))))) (by omega)).mono ?_)
  rintro e w213 ⟨a208, c209, hc210, rfl, ho211, hB212⟩
  have S214 := S207.own hB212 ho211
  refine ⟨_, rfl, trivial, ?_⟩
  refine Pv (T_nil (W_seq (W_block ?_)))
  obtain ⟨G216, hl217, S215, r218⟩ := S214.stillRow 1 rfl
  obtain ⟨G220, hl221, S219, r222⟩ := S215.stillRow 0 rfl
  refine W_loop (fun M ρ w' => ∃ (k : Nat) (G223 : Hp), M = 67 - k ∧ k ≤ 67 ∧ fch (Go.Au.digits m) (Go.Au.digits (wasAt L sl)) (67 - k) k = fch (Go.Au.digits m) (Go.Au.digits (wasAt L sl)) 67 0 ∧ ρ = [(3, .slice aa3 m.length cc3), (5, .pointer (some ⟨b1, 0, none⟩)), (9, .pointer (some ⟨b4, 0, none⟩)), (10, .pointer (some ⟨b7, 0, none⟩)), (14, .slice a42 (wasAt L sl).length c43), (27, .slice a201 67 c202), (28, .int .i64 (k : Int)), (29, .slice a208 67 c209)] ∧ G220.le G223 ∧ St w H G223 [.blk b7 (gV [[.slice none 0 0], [.slice none 0 0], [.bool false], [.int .i64 0], [.int .i64 0], [.int .i64 0], (List.replicate 32 0).map bV] : Value).cells 42, .blk b136 (.agg #[.slice a124 (brA (brk (((2 ^ h.toNat) : Nat) : Int) sl (pub seed sl) (pubH (ends m v 67)) (Go.Au.beside (rowP (mleaves seed h.toNat)) sl.toNat (lg (mleaves seed h.toNat).length)) p)).length c125, .slice a126 (brB (brk (((2 ^ h.toNat) : Nat) : Int) sl (pub seed sl) (pubH (ends m v 67)) (Go.Au.beside (rowP (mleaves seed h.toNat)) sl.toNat (lg (mleaves seed h.toNat).length)) p)).length c127] : Value).cells 35] w')
   (67 - 0) [(3, .slice aa3 m.length cc3), (5, .pointer (some ⟨b1, 0, none⟩)), (9, .pointer (some ⟨b4, 0, none⟩)), (10, .pointer (some ⟨b7, 0, none⟩)), (14, .slice a42 (wasAt L sl).length c43), (27, .slice a201 67 c202), (28, .int .i64 ((0 : Nat) : Int)), (29, .slice a208 67 c209)] ⟨rfl, rfl, rfl, rfl, rfl, rfl, ciI, rfl, trivial⟩ ⟨0, G220, rfl, (by omega), (by rfl), rfl, Hp.le.refl _, S219⟩ ?_
  rintro M ρ w225 ⟨k, G223, rfl, hk67, hfq, rfl, hl224, S226⟩
  iterate 2 refine W_seq ?_
  refine W_draw rfl (by kernel_rfl) ?_
  have S229 := S226.drew
  refine P3 ?_
  refine Td 151 (fun h230 => ?_) (fun h230 => ?_)
  ·iterate 2 (refine Ys ?_; refine Pv ?_)
   refine Ys ?_
   refine Af k (r218.mono (hl221.trans hl224)) fun b231 o232 hc233 => ?_
   have hc234 := hc233 0 (.int .i64 ((Go.Au.digits m).getD k 0)) (at_i (Go.Au.digits m) k (by omega))
   simp only [Nat.add_zero] at hc234
   refine Ys ?_
   refine Ab (r := by exact hc234) S229 ?_
   iterate 2 (refine Ys ?_; refine Pv ?_)
   refine Ys ?_
   refine Af k (r222.mono hl224) fun b235 o236 hc237 => ?_
   have hc238 := hc237 0 (.int .i64 ((Go.Au.digits (wasAt L sl)).getD k 0)) (at_i (Go.Au.digits (wasAt L sl)) k (by omega))
   simp only [Nat.add_zero] at hc238
   refine Ys ?_
   refine Ab (r := by exact hc238) S229 ?_
   refine Ys ?_
   refine P2 (T_nil ?_)
   refine Aa (fun h239 => ?_) (fun h239 => ?_)
   ·refine W_skip (W_block (W_region (Pv ?_)))
    refine Ar ?_
    refine Pv (T_nil ?_)
    have HQ := (fch_go (d := (Go.Au.digits m)) (e := (Go.Au.digits (wasAt L sl))) (c := k) (n := 67) (by omega) (by omega)).symm.trans hfq
    exact ⟨67 - (k + 1), [(3, .slice aa3 m.length cc3), (5, .pointer (some ⟨b1, 0, none⟩)), (9, .pointer (some ⟨b4, 0, none⟩)), (10, .pointer (some ⟨b7, 0, none⟩)), (14, .slice a42 (wasAt L sl).length c43), (27, .slice a201 67 c202), (28, .int .i64 ((k + 1 : Nat) : Int)), (29, .slice a208 67 c209)], by omega, ⟨rfl, rfl, rfl, rfl, rfl, rfl, ciI, rfl, trivial⟩, k + 1, G223, rfl, (by omega), (by exact HQ), rfl, hl224, S229⟩
   refine W_exit (Wr (P2 (T_nil ?_)))
   refine W_bool 165 false rfl (decide_eq_false (by omega)) ?_
   refine W_cond_false rfl (W_skip ?_)
   iterate 2 refine W_seq ?_
   have hkn : ¬ (Go.Au.digits (wasAt L sl)) = (Go.Au.digits m) := fun e => by have := fch_none e; have h9 := (fch_stop (d := (Go.Au.digits m)) (e := (Go.Au.digits (wasAt L sl))) (c := k) (n := 67) (by omega) (by omega)).symm.trans hfq; omega
   have hkW : k = chW (wasAt L sl) m := by rw [chW_n (by omega), ← hfq]; exact (fch_stop (by omega) (by omega)).symm
   have hdk := digits_at m k (by omega)
   obtain ⟨d, hd⟩ : ∃ d : Nat, ((Go.Au.digits m).getD k 0) = (d : Int) := ⟨((Go.Au.digits m).getD k 0).toNat, by omega⟩
   have hd15 : d ≤ 15 := by omega
   have hxl : (v.getD k []).length = 32 := len_h h1.1 k (by omega)
   have hS5 : fgO (expl seed (wasAt L sl) m h sh sl v p) = stepF seed sl ((k : Nat) : Int) d (v.getD k []) := by rw [hE]; exact (explS_5 hp1 hb2 hp3 (fun x => hkn x.2)).trans (by rw [← hkW, hd, Int.toNat_natCast])
   refine W_region (Pv (T_nil (W_block ?_)))
   refine W_loop (fun M ρ w' => ∃ (j : Nat) (G240 : Hp), M = 1 + j ∧ j ≤ 15 - d ∧ lastF (ownC seed sl ((k : Nat) : Int) d) (fun i => Go.Au.steps i (v.getD k [])) (15 - d) = lastF (ownC seed sl ((k : Nat) : Int) d) (fun i => Go.Au.steps i (v.getD k [])) j ∧ ρ = [(5, .pointer (some ⟨b1, 0, none⟩)), (9, .pointer (some ⟨b4, 0, none⟩)), (10, .pointer (some ⟨b7, 0, none⟩)), (27, .slice a201 67 c202), (28, .int .i64 (k : Int)), (30, .int .i64 (((d + j : Nat) : Int) - 1))] ∧ G223.le G240 ∧ St w H G240 [.blk b7 (gV [[.slice none 0 0], [.slice none 0 0], [.bool false], [.int .i64 0], [.int .i64 0], [.int .i64 0], (List.replicate 32 0).map bV] : Value).cells 42, .blk b136 (.agg #[.slice a124 (brA (brk (((2 ^ h.toNat) : Nat) : Int) sl (pub seed sl) (pubH (ends m v 67)) (Go.Au.beside (rowP (mleaves seed h.toNat)) sl.toNat (lg (mleaves seed h.toNat).length)) p)).length c125, .slice a126 (brB (brk (((2 ^ h.toNat) : Nat) : Int) sl (pub seed sl) (pubH (ends m v 67)) (Go.Au.beside (rowP (mleaves seed h.toNat)) sl.toNat (lg (mleaves seed h.toNat).length)) p)).length c127] : Value).cells 35] w')
    (1 + (15 - d)) [(5, .pointer (some ⟨b1, 0, none⟩)), (9, .pointer (some ⟨b4, 0, none⟩)), (10, .pointer (some ⟨b7, 0, none⟩)), (27, .slice a201 67 c202), (28, .int .i64 (k : Int)), (30, .int .i64 (((d + (15 - d) : Nat) : Int) - 1))] ⟨rfl, rfl, rfl, rfl, ciI, ciI, trivial⟩ ⟨15 - d, G223, rfl, (by omega), (by rfl), rfl, Hp.le.refl _, S229⟩ ?_
   rintro M ρ w242 ⟨j, G240, rfl, hp244, hinv, rfl, hl241, S243⟩
   refine W_seq (Wr (P3 ?_))
   refine Af k (r218.mono (hl221.trans (hl224.trans hl241))) fun b246 o247 hc248 => ?_
   have hc249 := hc248 0 (.int .i64 ((Go.Au.digits m).getD k 0)) (at_i (Go.Au.digits m) k (by omega))
   simp only [Nat.add_zero] at hc249
   refine Ab (r := by exact hc249) S243 ?_
   refine T_re (v' := .int .i64 ((d : Nat) : Int)) (congrArg (Value.int .i64) hd) (Pv (T_nil ?_))
   refine Aa (fun h250 => ?_) (fun h250 => ?_)
   ·refine W_skip (W_seq (W_block ?_))
    obtain ⟨i, rfl⟩ : ∃ i, j = i + 1 := ⟨j - 1, by omega⟩
    refine W_j1 (fun ρ w' => ∃ (b270 : Nat) (b273 : Nat) (G283 : Hp), ρ = [(5, .pointer (some ⟨b1, 0, none⟩)), (9, .pointer (some ⟨b4, 0, none⟩)), (10, .pointer (some ⟨b7, 0, none⟩)), (27, .slice a201 67 c202), (28, .int .i64 (k : Int)), (30, .int .i64 (((d + (i + 1) : Nat) : Int) - 1)), (31, .pointer (some ⟨b270, 0, none⟩)), (32, .pointer (some ⟨b273, 0, none⟩))] ∧ G240.le G283 ∧ St w H G283 [.blk b7 (gV [[.slice none 0 0], [.slice none 0 0], [.bool false], [.int .i64 0], [.int .i64 0], [.int .i64 0], (List.replicate 32 0).map bV] : Value).cells 42, .blk b270 (hV (ownC seed sl ((k : Nat) : Int) d i) : Value).cells 37, .blk b273 (hV (Go.Au.steps i (v.getD k [])) : Value).cells 37, .blk b136 (.agg #[.slice a124 (brA (brk (((2 ^ h.toNat) : Nat) : Int) sl (pub seed sl) (pubH (ends m v 67)) (Go.Au.beside (rowP (mleaves seed h.toNat)) sl.toNat (lg (mleaves seed h.toNat).length)) p)).length c125, .slice a126 (brB (brk (((2 ^ h.toNat) : Nat) : Int) sl (pub seed sl) (pubH (ends m v 67)) (Go.Au.beside (rowP (mleaves seed h.toNat)) sl.toNat (lg (mleaves seed h.toNat).length)) p)).length c127] : Value).cells 35] w') ?_ (fun J287 => ?_)
    ·rintro ρ w286 ⟨b270, b273, G283, rfl, hl284, S285⟩
     refine W_seq ?_
     obtain ⟨G289, hl290, S288, r291⟩ := S285.stillBlk 1 rfl
     obtain ⟨G293, hl294, S292, r295⟩ := S288.stillBlk 1 rfl
     refine W_region (T_loadGA _ S292 (still_cells (hl294 _ _ r291)) rfl rfl rfl rfl rfl rfl rfl rfl (hVs (steps_len _ (start_len _ _ _))) (T_loadGA _ S292 (still_cells r295) rfl rfl rfl rfl rfl rfl rfl rfl (hVs (steps_len _ hxl)) (T_neB (xs := ownC seed sl ((k : Nat) : Int) d i) (ys := Go.Au.steps i (v.getD k [])) rfl rfl rfl rfl rfl rfl rfl rfl rfl rfl rfl (steps_len _ (start_len _ _ _)) (steps_len _ hxl) (T_nil (W_cond_not rfl (fun h296 => ?_) (fun h296 => ?_))))))
     ·refine W_seq (W_plan (planF Tryz.prog G293 [206]) rfl (by kernel_rfl) S292.le ?_)
      have S297 := S292.drew
      refine T_loadGA _ S297 (still_cells (hl294 _ _ r291)) rfl rfl rfl rfl rfl rfl rfl rfl (hVs (steps_len _ (start_len _ _ _))) (Cs g_aumbry_aumbryref07_stepText ((stepT_ok S297.le (steps_len _ (start_len _ _ _))).mono ?_))
      rintro e w303 ⟨a298, c299, hc300, rfl, ho301, hB302⟩
      have S304 := S297.own hB302 ho301
      refine ⟨_, rfl, (((Hp.le.refl _)).trans S304.le), ?_⟩
      refine T_loadGAP _ (fun _ h => h) (still_cells r295) rfl rfl rfl rfl rfl rfl rfl rfl (hVs (steps_len _ hxl)) (Cs g_aumbry_aumbryref07_stepText ((stepT_ok S304.le (steps_len _ hxl)).mono ?_))
      rintro e w310 ⟨a305, c306, hc307, rfl, ho308, hB309⟩
      have S311 := S304.own hB309 ho308
      refine ⟨_, rfl, (((Hp.le.refl _)).trans S311.le), ?_⟩
      obtain ⟨G313, hl314, S312, r315⟩ := S311.stillRow 1 rfl
      obtain ⟨G317, hl318, S316, r319⟩ := S312.stillRow 0 rfl
      refine T_buildS (cells := #[.slice a298 ((Go.Au.stepT (ownC seed sl ((k : Nat) : Int) d i)).length) c299, .slice a305 ((Go.Au.stepT (Go.Au.steps i (v.getD k []))).length) c306]) rfl rfl rfl rfl rfl rfl rfl rfl rfl rfl (T_buildS (cells := (gV [[.slice a298 ((Go.Au.stepT (ownC seed sl ((k : Nat) : Int) d i)).length) c299], [.slice a305 ((Go.Au.stepT (Go.Au.steps i (v.getD k []))).length) c306], [.bool false], [.int .i64 0], [.int .i64 0], [.int .i64 0], (List.replicate 32 0).map bV] : Value).cells) rfl rfl rfl rfl rfl rfl (fill_g (L := [[.slice none 0 0], [.slice none 0 0], [.bool false], [.int .i64 0], [.int .i64 0], [.int .i64 0], (List.replicate 32 0).map bV]) (ns := [1, 1, 1, 1, 1, 1, 32]) (v := .agg #[.slice a298 ((Go.Au.stepT (ownC seed sl ((k : Nat) : Int) d i)).length) c299, .slice a305 ((Go.Au.stepT (Go.Au.steps i (v.getD k []))).length) c306]) (off := 0) (k := 2) rfl (Shp.cons rfl (Shp.cons rfl (Shp.cons rfl (Shp.cons rfl (Shp.cons rfl (Shp.cons rfl (Shp.cons (lenB List.length_replicate) Shp.nil))))))) 0 2 [[.slice a298 ((Go.Au.stepT (ownC seed sl ((k : Nat) : Int) d i)).length) c299], [.slice a305 ((Go.Au.stepT (Go.Au.steps i (v.getD k []))).length) c306]] rfl (by first | rfl | simp [hVs, *]) rfl rfl fill_gnil) rfl rfl rfl ?_)
      refine Ag (hC := fun _ h => ((hl314.trans hl318)).trans h) (hl := by exact gV_size (L := [[.slice a298 ((Go.Au.stepT (ownC seed sl ((k : Nat) : Int) d i)).length) c299], [.slice a305 ((Go.Au.stepT (Go.Au.steps i (v.getD k []))).length) c306], [.bool false], [.int .i64 0], [.int .i64 0], [.int .i64 0], (List.replicate 32 0).map bV]) (ns := [1, 1, 1, 1, 1, 1, 32]) (Shp.cons rfl (Shp.cons rfl (Shp.cons rfl (Shp.cons rfl (Shp.cons rfl (Shp.cons rfl (Shp.cons (lenB List.length_replicate) Shp.nil))))))) rfl) (hl2 := by exact gV_size (L := [[.slice a298 ((Go.Au.stepT (ownC seed sl ((k : Nat) : Int) d i)).length) c299], [.slice a305 ((Go.Au.stepT (Go.Au.steps i (v.getD k []))).length) c306], [.bool false], [.int .i64 0], [.int .i64 0], [.int .i64 0], (List.replicate 32 0).map bV]) (ns := [1, 1, 1, 1, 1, 1, 32]) (Shp.cons rfl (Shp.cons rfl (Shp.cons rfl (Shp.cons rfl (Shp.cons rfl (Shp.cons rfl (Shp.cons (lenB List.length_replicate) Shp.nil))))))) rfl) (h1 := by exact gV_one (OneL.one rfl (OneL.one rfl (OneL.one rfl (OneL.one rfl (OneL.one rfl (OneL.one rfl (OneL.arr OneL.nil)))))))) 0 S316 fun w320 S321 => ?_
      refine Pv (T_nil (W_ret ?_))
      refine ⟨_, ⟨_, _, _, rfl, rfl, run_loadVarA rfl rfl (gV_size (L := [[.slice a298 ((Go.Au.stepT (ownC seed sl ((k : Nat) : Int) d i)).length) c299], [.slice a305 ((Go.Au.stepT (Go.Au.steps i (v.getD k []))).length) c306], [.bool false], [.int .i64 0], [.int .i64 0], [.int .i64 0], (List.replicate 32 0).map bV]) (ns := [1, 1, 1, 1, 1, 1, 32]) (Shp.cons rfl (Shp.cons rfl (Shp.cons rfl (Shp.cons rfl (Shp.cons rfl (Shp.cons rfl (Shp.cons (lenB List.length_replicate) Shp.nil))))))) rfl) (S321.cells 0 rfl), ⟨_, _, rfl, rfl, rfl⟩⟩, ?_⟩
      exact fg_end (f := fgO (expl seed (wasAt L sl) m h sh sl v p)) (b := (expl seed (wasAt L sl) m h sh sl v p).isSome) (f' := fgB (Go.Au.stepT (ownC seed sl ((k : Nat) : Int) d i)) (Go.Au.stepT (Go.Au.steps i (v.getD k [])))) (hS5.trans (stepF_some (hinv.trans (lastF_ne (by first | exact h296 | simpa using h296))))) (by rw [hE]; rfl) (r315.mono hl318) r319 S321.fin S321.below
     refine W_skip (W_region (Pv ?_))
     refine Ar ?_
     refine Pv (T_nil ?_)
     have HEQ := hinv.trans (lastF_eq (f := ownC seed sl ((k : Nat) : Int) d) (g := fun i => Go.Au.steps i (v.getD k [])) (by first | exact h296 | simpa using h296))
     exact ⟨1 + i, [(5, .pointer (some ⟨b1, 0, none⟩)), (9, .pointer (some ⟨b4, 0, none⟩)), (10, .pointer (some ⟨b7, 0, none⟩)), (27, .slice a201 67 c202), (28, .int .i64 (k : Int)), (30, .int .i64 (((d + i : Nat) : Int) - 1))], by omega, ⟨rfl, rfl, rfl, rfl, ciI, ciI, trivial⟩, i, G293, rfl, (by omega), (by exact HEQ), rfl, (hl241.trans (hl284.trans (hl290.trans hl294))), S292⟩
    refine W_seq (W_tree (planF Tryz.prog G240 [182, 184, 190, 193, 198]) (.step 0 (.step 1 (.step 2 (.step 3 (.step 5 (.step 7 (.step 8 (.step 9 (.step 10 (.step 11 (.step 12 (.step 13 (.step 14 (.step 15 (.step 16 (.step 17 (.fork3 4 19 20 (.fork3 6 19 20 (.fork3 18 19 20 (.fork 19 20 (.step 20 (.step 21 (.step 22 .done))) (.step 19 (.step 21 (.step 22 .done)))) (.fork 18 20 (.step 20 (.step 21 (.step 22 .done))) (.step 18 (.step 21 (.step 22 .done)))) (.fork 18 19 (.step 19 (.step 21 (.step 22 .done))) (.step 18 (.step 21 (.step 22 .done))))) (.fork 6 20 (.fork 18 20 (.step 20 (.step 21 (.step 22 .done))) (.step 18 (.step 21 (.step 22 .done)))) (.step 6 (.step 18 (.step 21 (.step 22 .done))))) (.fork 6 19 (.fork 18 19 (.step 19 (.step 21 (.step 22 .done))) (.step 18 (.step 21 (.step 22 .done)))) (.step 6 (.step 18 (.step 21 (.step 22 .done)))))) (.fork 4 20 (.fork 6 20 (.fork 18 20 (.step 20 (.step 21 (.step 22 .done))) (.step 18 (.step 21 (.step 22 .done)))) (.step 6 (.step 18 (.step 21 (.step 22 .done))))) (.step 4 (.step 6 (.step 18 (.step 21 (.step 22 .done)))))) (.fork 4 19 (.fork 6 19 (.fork 18 19 (.step 19 (.step 21 (.step 22 .done))) (.step 18 (.step 21 (.step 22 .done)))) (.step 6 (.step 18 (.step 21 (.step 22 .done))))) (.step 4 (.step 6 (.step 18 (.step 21 (.step 22 .done))))))))))))))))))))))) rfl (by kernel_rfl) S243.le ?_)
    have S322 := S243.drew
    refine TT_step rfl (T_loadGAP _ (fun _ h => h) (still_cells (hl241 _ _ (hl224 _ _ (hl221 _ _ (hl217 _ _ (hl196 _ _ (hl192 _ _ (hl180 _ _ (hl168 _ _ (hl143 _ _ (hl101 _ _ (hl97 _ _ (hl78 _ _ (hl74 _ _ (hl40 _ _ (hl27 _ _ (hl16 _ _ r13))))))))))))))))) rfl rfl rfl rfl rfl rfl rfl rfl (hVs hs) (Nt rfl (Fl 1 ?_)))
    refine Nt rfl (Ak (r := by exact still_cell (hl241 _ _ (hl224 _ _ (hl221 _ _ (hl217 _ _ (hl196 _ _ (hl192 _ _ (hl180 _ _ (hl168 _ _ (hl143 _ _ (hl101 _ _ (hl97 _ _ (hl78 _ _ (hl74 _ _ (hl40 _ _ (hl27 _ _ r17))))))))))))))) rfl) ?_)
    iterate 2 (refine T_nil ?_; refine TT_step rfl ?_; refine Pv ?_)
    refine Nt rfl (Fl 2 ?_)
    refine Nt rfl (Ak (r := by exact still_cell (hl241 _ _ (hl224 _ _ (hl221 _ _ (hl217 _ _ (hl196 _ _ (hl192 _ _ (hl180 _ _ (hl168 _ _ (hl143 _ _ (hl101 _ _ (hl97 _ _ (hl78 _ _ (hl74 _ _ (hl40 _ _ (hl27 _ _ r17))))))))))))))) rfl) ?_)
    refine Nt rfl (Pv ?_)
    refine Nt rfl (Af k (h1.mono (hl12.trans (hl16.trans (hl27.trans (hl40.trans (hl74.trans (hl78.trans (hl97.trans (hl101.trans (hl143.trans (hl168.trans (hl180.trans (hl192.trans (hl196.trans (hl217.trans (hl221.trans (hl224.trans hl241))))))))))))))))).2 fun b323 o324 hc325 => ?_)
    have hc326 := cells_h (h1.mono (hl12.trans (hl16.trans (hl27.trans (hl40.trans (hl74.trans (hl78.trans (hl97.trans (hl101.trans (hl143.trans (hl168.trans (hl180.trans (hl192.trans (hl196.trans (hl217.trans (hl221.trans (hl224.trans hl241))))))))))))))))).1 k (by omega) hc325
    have hl327 := len_h (h1.mono (hl12.trans (hl16.trans (hl27.trans (hl40.trans (hl74.trans (hl78.trans (hl97.trans (hl101.trans (hl143.trans (hl168.trans (hl180.trans (hl192.trans (hl196.trans (hl217.trans (hl221.trans (hl224.trans hl241))))))))))))))))).1 k (by omega)
    refine Nt rfl (T_loadGAP _ (fun _ h => h) hc326 rfl rfl rfl rfl rfl rfl rfl rfl (hVs hl327) ?_)
    iterate 3 (refine T_nil ?_; refine TT_step rfl ?_; refine Pv ?_)
    refine Nt rfl (Af k (r218.mono (hl221.trans (hl224.trans hl241))) fun b328 o329 hc330 => ?_)
    have hc331 := hc330 0 (.int .i64 ((Go.Au.digits m).getD k 0)) (at_i (Go.Au.digits m) k (by omega))
    simp only [Nat.add_zero] at hc331
    refine Nt rfl (Ak (r := by exact hc331) ?_)
    refine T_re (v' := .int .i64 ((d : Nat) : Int)) (congrArg (Value.int .i64) hd) (Nt rfl (Ar (T_nil ?_)))
    refine TT_fork3 rfl rfl rfl ?_ ?_ ?_
    ·refine Cs g_aumbry_aumbryref07_Start ((startR_ok S322.le sl (k : Int) hs (by omega) (by omega)).mono ?_)
     rintro e w333 ⟨rfl, hB332⟩
     have S334 := S322.call hB332
     refine ⟨_, rfl, (((Hp.le.refl _)).trans S334.le), ?_⟩
     refine T_nil (TT_fork3 rfl rfl rfl ?_ ?_ ?_)
     ·refine Cs g_aumbry_aumbryref07_Along ((alongR_ok S334.le (((d + (i + 1) : Nat) : Int) - 1) (start_len _ _ _)).mono ?_)
      rintro e w336 ⟨rfl, hB335⟩
      have S337 := S334.call hB335
      refine ⟨_, rfl, (((Hp.le.refl _)).trans S337.le), ?_⟩
      refine T_re (v' := hV (ownC seed sl ((k : Nat) : Int) d i)) (congrArg (fun q => hV (Go.Au.steps q _)) (by omega)) (T_nil ?_)
      refine TT_fork3 rfl rfl rfl ?_ ?_ ?_
      ·refine Cs g_aumbry_aumbryref07_Along ((alongR_ok S337.le ((((d + (i + 1) : Nat) : Int) - 1) - ((d : Nat) : Int)) hl327).mono ?_)
       rintro e w339 ⟨rfl, hB338⟩
       have S340 := S337.call hB338
       refine ⟨_, rfl, (((Hp.le.refl _)).trans S340.le), ?_⟩
       refine T_re (v' := hV (Go.Au.steps i (v.getD k []))) (congrArg (fun q => hV (Go.Au.steps q _)) (by omega)) (T_nil ?_)
       refine TT_fork rfl rfl ?_ ?_
       ·refine Ac (hC := fun _ h => ((Hp.le.refl _)).trans h) S340 fun b341 w342 S343 => ?_
        refine Nt rfl (Ac (hC := fun _ h => ((Hp.le.refl _)).trans h) S343 fun b344 w345 S346 => ?_)
        refine Nt rfl (Ag (hC := fun _ h => ((Hp.le.refl _)).trans h) (hl := by exact hVs (steps_len _ (start_len _ _ _))) (hl2 := by exact hVs (steps_len _ (start_len _ _ _))) (h1 := by exact one_hA _) 1 S346 fun w347 S348 => ?_)
        refine Nt rfl (Ag (hC := fun _ h => ((Hp.le.refl _)).trans h) (hl := by exact hVs (steps_len _ hxl)) (hl2 := by exact hVs (steps_len _ hxl)) (h1 := by exact one_hA _) 0 S348 fun w349 S350 => (T_nil (TT_done ?_)))
        have S351 := S350.swap12
        have S352 := S351.swap01
        have S353 := S352.swap12
        exact Ws (J287 _ _ ⟨_, _, G240, rfl, (Hp.le.refl _), S353⟩)
       refine Ac (hC := fun _ h => ((Hp.le.refl _)).trans h) S340 fun b354 w355 S356 => ?_
       refine Nt rfl (Ac (hC := fun _ h => ((Hp.le.refl _)).trans h) S356 fun b357 w358 S359 => ?_)
       refine Nt rfl (Ag (hC := fun _ h => ((Hp.le.refl _)).trans h) (hl := by exact hVs (steps_len _ (start_len _ _ _))) (hl2 := by exact hVs (steps_len _ (start_len _ _ _))) (h1 := by exact one_hA _) 0 S359 fun w360 S361 => ?_)
       refine Nt rfl (Ag (hC := fun _ h => ((Hp.le.refl _)).trans h) (hl := by exact hVs (steps_len _ hxl)) (hl2 := by exact hVs (steps_len _ hxl)) (h1 := by exact one_hA _) 1 S361 fun w362 S363 => (T_nil (TT_done ?_)))
       have S364 := S363.swap12
       have S365 := S364.swap01
       exact Ws (J287 _ _ ⟨_, _, G240, rfl, (Hp.le.refl _), S365⟩)
      ·refine Ac (hC := fun _ h => ((Hp.le.refl _)).trans h) S337 fun b366 w367 S368 => (T_nil ?_)
       refine TT_fork rfl rfl ?_ ?_
       ·refine Cs g_aumbry_aumbryref07_Along ((alongR_ok S368.le ((((d + (i + 1) : Nat) : Int) - 1) - ((d : Nat) : Int)) hl327).mono ?_)
        rintro e w370 ⟨rfl, hB369⟩
        have S371 := S368.call hB369
        refine ⟨_, rfl, (((Hp.le.refl _)).trans S371.le), ?_⟩
        refine T_re (v' := hV (Go.Au.steps i (v.getD k []))) (congrArg (fun q => hV (Go.Au.steps q _)) (by omega)) ?_
        refine Nt rfl (Ac (hC := fun _ h => ((Hp.le.refl _)).trans h) S371 fun b372 w373 S374 => ?_)
        refine Nt rfl (Ag (hC := fun _ h => ((Hp.le.refl _)).trans h) (hl := by exact hVs (steps_len _ (start_len _ _ _))) (hl2 := by exact hVs (steps_len _ (start_len _ _ _))) (h1 := by exact one_hA _) 1 S374 fun w375 S376 => ?_)
        refine Nt rfl (Ag (hC := fun _ h => ((Hp.le.refl _)).trans h) (hl := by exact hVs (steps_len _ hxl)) (hl2 := by exact hVs (steps_len _ hxl)) (h1 := by exact one_hA _) 0 S376 fun w377 S378 => (T_nil (TT_done ?_)))
        have S379 := S378.swap12
        have S380 := S379.swap01
        have S381 := S380.swap12
        exact Ws (J287 _ _ ⟨_, _, G240, rfl, (Hp.le.refl _), S381⟩)
       refine Ac (hC := fun _ h => ((Hp.le.refl _)).trans h) S368 fun b382 w383 S384 => ?_
       refine Nt rfl (Cs g_aumbry_aumbryref07_Along ((alongR_ok S384.le ((((d + (i + 1) : Nat) : Int) - 1) - ((d : Nat) : Int)) hl327).mono ?_))
       rintro e w386 ⟨rfl, hB385⟩
       have S387 := S384.call hB385
       refine ⟨_, rfl, (((Hp.le.refl _)).trans S387.le), ?_⟩
       refine T_re (v' := hV (Go.Au.steps i (v.getD k []))) (congrArg (fun q => hV (Go.Au.steps q _)) (by omega)) ?_
       refine Nt rfl (Ag (hC := fun _ h => ((Hp.le.refl _)).trans h) (hl := by exact hVs (steps_len _ (start_len _ _ _))) (hl2 := by exact hVs (steps_len _ (start_len _ _ _))) (h1 := by exact one_hA _) 1 S387 fun w388 S389 => ?_)
       refine Nt rfl (Ag (hC := fun _ h => ((Hp.le.refl _)).trans h) (hl := by exact hVs (steps_len _ hxl)) (hl2 := by exact hVs (steps_len _ hxl)) (h1 := by exact one_hA _) 0 S389 fun w390 S391 => (T_nil (TT_done ?_)))
       have S392 := S391.swap12
       have S393 := S392.swap01
       have S394 := S393.swap12
       exact Ws (J287 _ _ ⟨_, _, G240, rfl, (Hp.le.refl _), S394⟩)
      refine Ac (hC := fun _ h => ((Hp.le.refl _)).trans h) S337 fun b395 w396 S397 => (T_nil ?_)
      refine TT_fork rfl rfl ?_ ?_
      ·refine Cs g_aumbry_aumbryref07_Along ((alongR_ok S397.le ((((d + (i + 1) : Nat) : Int) - 1) - ((d : Nat) : Int)) hl327).mono ?_)
       rintro e w399 ⟨rfl, hB398⟩
       have S400 := S397.call hB398
       refine ⟨_, rfl, (((Hp.le.refl _)).trans S400.le), ?_⟩
       refine T_re (v' := hV (Go.Au.steps i (v.getD k []))) (congrArg (fun q => hV (Go.Au.steps q _)) (by omega)) ?_
       refine Nt rfl (Ac (hC := fun _ h => ((Hp.le.refl _)).trans h) S400 fun b401 w402 S403 => ?_)
       refine Nt rfl (Ag (hC := fun _ h => ((Hp.le.refl _)).trans h) (hl := by exact hVs (steps_len _ (start_len _ _ _))) (hl2 := by exact hVs (steps_len _ (start_len _ _ _))) (h1 := by exact one_hA _) 0 S403 fun w404 S405 => ?_)
       refine Nt rfl (Ag (hC := fun _ h => ((Hp.le.refl _)).trans h) (hl := by exact hVs (steps_len _ hxl)) (hl2 := by exact hVs (steps_len _ hxl)) (h1 := by exact one_hA _) 1 S405 fun w406 S407 => (T_nil (TT_done ?_)))
       have S408 := S407.swap12
       have S409 := S408.swap01
       exact Ws (J287 _ _ ⟨_, _, G240, rfl, (Hp.le.refl _), S409⟩)
      refine Ac (hC := fun _ h => ((Hp.le.refl _)).trans h) S397 fun b410 w411 S412 => ?_
      refine Nt rfl (Cs g_aumbry_aumbryref07_Along ((alongR_ok S412.le ((((d + (i + 1) : Nat) : Int) - 1) - ((d : Nat) : Int)) hl327).mono ?_))
      rintro e w414 ⟨rfl, hB413⟩
      have S415 := S412.call hB413
      refine ⟨_, rfl, (((Hp.le.refl _)).trans S415.le), ?_⟩
      refine T_re (v' := hV (Go.Au.steps i (v.getD k []))) (congrArg (fun q => hV (Go.Au.steps q _)) (by omega)) ?_
      refine Nt rfl (Ag (hC := fun _ h => ((Hp.le.refl _)).trans h) (hl := by exact hVs (steps_len _ (start_len _ _ _))) (hl2 := by exact hVs (steps_len _ (start_len _ _ _))) (h1 := by exact one_hA _) 0 S415 fun w416 S417 => ?_)
      refine Nt rfl (Ag (hC := fun _ h => ((Hp.le.refl _)).trans h) (hl := by exact hVs (steps_len _ hxl)) (hl2 := by exact hVs (steps_len _ hxl)) (h1 := by exact one_hA _) 1 S417 fun w418 S419 => (T_nil (TT_done ?_)))
      have S420 := S419.swap12
      have S421 := S420.swap01
      exact Ws (J287 _ _ ⟨_, _, G240, rfl, (Hp.le.refl _), S421⟩)
     ·refine Ac (hC := fun _ h => ((Hp.le.refl _)).trans h) S334 fun b422 w423 S424 => (T_nil ?_)
      refine TT_fork rfl rfl ?_ ?_
      ·refine Cs g_aumbry_aumbryref07_Along ((alongR_ok S424.le (((d + (i + 1) : Nat) : Int) - 1) (start_len _ _ _)).mono ?_)
       rintro e w426 ⟨rfl, hB425⟩
       have S427 := S424.call hB425
       refine ⟨_, rfl, (((Hp.le.refl _)).trans S427.le), ?_⟩
       refine T_re (v' := hV (ownC seed sl ((k : Nat) : Int) d i)) (congrArg (fun q => hV (Go.Au.steps q _)) (by omega)) (T_nil ?_)
       refine TT_fork rfl rfl ?_ ?_
       ·refine Cs g_aumbry_aumbryref07_Along ((alongR_ok S427.le ((((d + (i + 1) : Nat) : Int) - 1) - ((d : Nat) : Int)) hl327).mono ?_)
        rintro e w429 ⟨rfl, hB428⟩
        have S430 := S427.call hB428
        refine ⟨_, rfl, (((Hp.le.refl _)).trans S430.le), ?_⟩
        refine T_re (v' := hV (Go.Au.steps i (v.getD k []))) (congrArg (fun q => hV (Go.Au.steps q _)) (by omega)) ?_
        refine Nt rfl (Ac (hC := fun _ h => ((Hp.le.refl _)).trans h) S430 fun b431 w432 S433 => ?_)
        refine Nt rfl (Ag (hC := fun _ h => ((Hp.le.refl _)).trans h) (hl := by exact hVs (steps_len _ (start_len _ _ _))) (hl2 := by exact hVs (steps_len _ (start_len _ _ _))) (h1 := by exact one_hA _) 1 S433 fun w434 S435 => ?_)
        refine Nt rfl (Ag (hC := fun _ h => ((Hp.le.refl _)).trans h) (hl := by exact hVs (steps_len _ hxl)) (hl2 := by exact hVs (steps_len _ hxl)) (h1 := by exact one_hA _) 0 S435 fun w436 S437 => (T_nil (TT_done ?_)))
        have S438 := S437.swap12
        have S439 := S438.swap01
        have S440 := S439.swap12
        exact Ws (J287 _ _ ⟨_, _, G240, rfl, (Hp.le.refl _), S440⟩)
       refine Ac (hC := fun _ h => ((Hp.le.refl _)).trans h) S427 fun b441 w442 S443 => ?_
       refine Nt rfl (Cs g_aumbry_aumbryref07_Along ((alongR_ok S443.le ((((d + (i + 1) : Nat) : Int) - 1) - ((d : Nat) : Int)) hl327).mono ?_))
       rintro e w445 ⟨rfl, hB444⟩
       have S446 := S443.call hB444
       refine ⟨_, rfl, (((Hp.le.refl _)).trans S446.le), ?_⟩
       refine T_re (v' := hV (Go.Au.steps i (v.getD k []))) (congrArg (fun q => hV (Go.Au.steps q _)) (by omega)) ?_
       refine Nt rfl (Ag (hC := fun _ h => ((Hp.le.refl _)).trans h) (hl := by exact hVs (steps_len _ (start_len _ _ _))) (hl2 := by exact hVs (steps_len _ (start_len _ _ _))) (h1 := by exact one_hA _) 1 S446 fun w447 S448 => ?_)
       refine Nt rfl (Ag (hC := fun _ h => ((Hp.le.refl _)).trans h) (hl := by exact hVs (steps_len _ hxl)) (hl2 := by exact hVs (steps_len _ hxl)) (h1 := by exact one_hA _) 0 S448 fun w449 S450 => (T_nil (TT_done ?_)))
       have S451 := S450.swap12
       have S452 := S451.swap01
       have S453 := S452.swap12
       exact Ws (J287 _ _ ⟨_, _, G240, rfl, (Hp.le.refl _), S453⟩)
      refine Ac (hC := fun _ h => ((Hp.le.refl _)).trans h) S424 fun b454 w455 S456 => ?_
      refine Nt rfl (Cs g_aumbry_aumbryref07_Along ((alongR_ok S456.le (((d + (i + 1) : Nat) : Int) - 1) (start_len _ _ _)).mono ?_))
      rintro e w458 ⟨rfl, hB457⟩
      have S459 := S456.call hB457
      refine ⟨_, rfl, (((Hp.le.refl _)).trans S459.le), ?_⟩
      refine T_re (v' := hV (ownC seed sl ((k : Nat) : Int) d i)) (congrArg (fun q => hV (Go.Au.steps q _)) (by omega)) ?_
      refine Nt rfl (Cs g_aumbry_aumbryref07_Along ((alongR_ok S459.le ((((d + (i + 1) : Nat) : Int) - 1) - ((d : Nat) : Int)) hl327).mono ?_))
      rintro e w461 ⟨rfl, hB460⟩
      have S462 := S459.call hB460
      refine ⟨_, rfl, (((Hp.le.refl _)).trans S462.le), ?_⟩
      refine T_re (v' := hV (Go.Au.steps i (v.getD k []))) (congrArg (fun q => hV (Go.Au.steps q _)) (by omega)) ?_
      refine Nt rfl (Ag (hC := fun _ h => ((Hp.le.refl _)).trans h) (hl := by exact hVs (steps_len _ (start_len _ _ _))) (hl2 := by exact hVs (steps_len _ (start_len _ _ _))) (h1 := by exact one_hA _) 1 S462 fun w463 S464 => ?_)
      refine Nt rfl (Ag (hC := fun _ h => ((Hp.le.refl _)).trans h) (hl := by exact hVs (steps_len _ hxl)) (hl2 := by exact hVs (steps_len _ hxl)) (h1 := by exact one_hA _) 0 S464 fun w465 S466 => (T_nil (TT_done ?_)))
      have S467 := S466.swap12
      have S468 := S467.swap01
      have S469 := S468.swap12
      exact Ws (J287 _ _ ⟨_, _, G240, rfl, (Hp.le.refl _), S469⟩)
     refine Ac (hC := fun _ h => ((Hp.le.refl _)).trans h) S334 fun b470 w471 S472 => (T_nil ?_)
     refine TT_fork rfl rfl ?_ ?_
     ·refine Cs g_aumbry_aumbryref07_Along ((alongR_ok S472.le (((d + (i + 1) : Nat) : Int) - 1) (start_len _ _ _)).mono ?_)
      rintro e w474 ⟨rfl, hB473⟩
      have S475 := S472.call hB473
      refine ⟨_, rfl, (((Hp.le.refl _)).trans S475.le), ?_⟩
      refine T_re (v' := hV (ownC seed sl ((k : Nat) : Int) d i)) (congrArg (fun q => hV (Go.Au.steps q _)) (by omega)) (T_nil ?_)
      refine TT_fork rfl rfl ?_ ?_
      ·refine Cs g_aumbry_aumbryref07_Along ((alongR_ok S475.le ((((d + (i + 1) : Nat) : Int) - 1) - ((d : Nat) : Int)) hl327).mono ?_)
       rintro e w477 ⟨rfl, hB476⟩
       have S478 := S475.call hB476
       refine ⟨_, rfl, (((Hp.le.refl _)).trans S478.le), ?_⟩
       refine T_re (v' := hV (Go.Au.steps i (v.getD k []))) (congrArg (fun q => hV (Go.Au.steps q _)) (by omega)) ?_
       refine Nt rfl (Ac (hC := fun _ h => ((Hp.le.refl _)).trans h) S478 fun b479 w480 S481 => ?_)
       refine Nt rfl (Ag (hC := fun _ h => ((Hp.le.refl _)).trans h) (hl := by exact hVs (steps_len _ (start_len _ _ _))) (hl2 := by exact hVs (steps_len _ (start_len _ _ _))) (h1 := by exact one_hA _) 0 S481 fun w482 S483 => ?_)
       refine Nt rfl (Ag (hC := fun _ h => ((Hp.le.refl _)).trans h) (hl := by exact hVs (steps_len _ hxl)) (hl2 := by exact hVs (steps_len _ hxl)) (h1 := by exact one_hA _) 1 S483 fun w484 S485 => (T_nil (TT_done ?_)))
       have S486 := S485.swap12
       have S487 := S486.swap01
       exact Ws (J287 _ _ ⟨_, _, G240, rfl, (Hp.le.refl _), S487⟩)
      refine Ac (hC := fun _ h => ((Hp.le.refl _)).trans h) S475 fun b488 w489 S490 => ?_
      refine Nt rfl (Cs g_aumbry_aumbryref07_Along ((alongR_ok S490.le ((((d + (i + 1) : Nat) : Int) - 1) - ((d : Nat) : Int)) hl327).mono ?_))
      rintro e w492 ⟨rfl, hB491⟩
      have S493 := S490.call hB491
      refine ⟨_, rfl, (((Hp.le.refl _)).trans S493.le), ?_⟩
      refine T_re (v' := hV (Go.Au.steps i (v.getD k []))) (congrArg (fun q => hV (Go.Au.steps q _)) (by omega)) ?_
      refine Nt rfl (Ag (hC := fun _ h => ((Hp.le.refl _)).trans h) (hl := by exact hVs (steps_len _ (start_len _ _ _))) (hl2 := by exact hVs (steps_len _ (start_len _ _ _))) (h1 := by exact one_hA _) 0 S493 fun w494 S495 => ?_)
      refine Nt rfl (Ag (hC := fun _ h => ((Hp.le.refl _)).trans h) (hl := by exact hVs (steps_len _ hxl)) (hl2 := by exact hVs (steps_len _ hxl)) (h1 := by exact one_hA _) 1 S495 fun w496 S497 => (T_nil (TT_done ?_)))
      have S498 := S497.swap12
      have S499 := S498.swap01
      exact Ws (J287 _ _ ⟨_, _, G240, rfl, (Hp.le.refl _), S499⟩)
     refine Ac (hC := fun _ h => ((Hp.le.refl _)).trans h) S472 fun b500 w501 S502 => ?_
     refine Nt rfl (Cs g_aumbry_aumbryref07_Along ((alongR_ok S502.le (((d + (i + 1) : Nat) : Int) - 1) (start_len _ _ _)).mono ?_))
     rintro e w504 ⟨rfl, hB503⟩
     have S505 := S502.call hB503
     refine ⟨_, rfl, (((Hp.le.refl _)).trans S505.le), ?_⟩
     refine T_re (v' := hV (ownC seed sl ((k : Nat) : Int) d i)) (congrArg (fun q => hV (Go.Au.steps q _)) (by omega)) ?_
     refine Nt rfl (Cs g_aumbry_aumbryref07_Along ((alongR_ok S505.le ((((d + (i + 1) : Nat) : Int) - 1) - ((d : Nat) : Int)) hl327).mono ?_))
     rintro e w507 ⟨rfl, hB506⟩
     have S508 := S505.call hB506
     refine ⟨_, rfl, (((Hp.le.refl _)).trans S508.le), ?_⟩
     refine T_re (v' := hV (Go.Au.steps i (v.getD k []))) (congrArg (fun q => hV (Go.Au.steps q _)) (by omega)) ?_
     refine Nt rfl (Ag (hC := fun _ h => ((Hp.le.refl _)).trans h) (hl := by exact hVs (steps_len _ (start_len _ _ _))) (hl2 := by exact hVs (steps_len _ (start_len _ _ _))) (h1 := by exact one_hA _) 0 S508 fun w509 S510 => ?_)
     refine Nt rfl (Ag (hC := fun _ h => ((Hp.le.refl _)).trans h) (hl := by exact hVs (steps_len _ hxl)) (hl2 := by exact hVs (steps_len _ hxl)) (h1 := by exact one_hA _) 1 S510 fun w511 S512 => (T_nil (TT_done ?_)))
     have S513 := S512.swap12
     have S514 := S513.swap01
     exact Ws (J287 _ _ ⟨_, _, G240, rfl, (Hp.le.refl _), S514⟩)
    ·refine Ac (hC := fun _ h => ((Hp.le.refl _)).trans h) S322 fun b515 w516 S517 => (T_nil ?_)
     refine TT_fork rfl rfl ?_ ?_
     ·refine Cs g_aumbry_aumbryref07_Start ((startR_ok S517.le sl (k : Int) hs (by omega) (by omega)).mono ?_)
      rintro e w519 ⟨rfl, hB518⟩
      have S520 := S517.call hB518
      refine ⟨_, rfl, (((Hp.le.refl _)).trans S520.le), ?_⟩
      refine T_nil (TT_fork rfl rfl ?_ ?_)
      ·refine Cs g_aumbry_aumbryref07_Along ((alongR_ok S520.le (((d + (i + 1) : Nat) : Int) - 1) (start_len _ _ _)).mono ?_)
       rintro e w522 ⟨rfl, hB521⟩
       have S523 := S520.call hB521
       refine ⟨_, rfl, (((Hp.le.refl _)).trans S523.le), ?_⟩
       refine T_re (v' := hV (ownC seed sl ((k : Nat) : Int) d i)) (congrArg (fun q => hV (Go.Au.steps q _)) (by omega)) (T_nil ?_)
       refine TT_fork rfl rfl ?_ ?_
       ·refine Cs g_aumbry_aumbryref07_Along ((alongR_ok S523.le ((((d + (i + 1) : Nat) : Int) - 1) - ((d : Nat) : Int)) hl327).mono ?_)
        rintro e w525 ⟨rfl, hB524⟩
        have S526 := S523.call hB524
        refine ⟨_, rfl, (((Hp.le.refl _)).trans S526.le), ?_⟩
        refine T_re (v' := hV (Go.Au.steps i (v.getD k []))) (congrArg (fun q => hV (Go.Au.steps q _)) (by omega)) ?_
        refine Nt rfl (Ac (hC := fun _ h => ((Hp.le.refl _)).trans h) S526 fun b527 w528 S529 => ?_)
        refine Nt rfl (Ag (hC := fun _ h => ((Hp.le.refl _)).trans h) (hl := by exact hVs (steps_len _ (start_len _ _ _))) (hl2 := by exact hVs (steps_len _ (start_len _ _ _))) (h1 := by exact one_hA _) 1 S529 fun w530 S531 => ?_)
        refine Nt rfl (Ag (hC := fun _ h => ((Hp.le.refl _)).trans h) (hl := by exact hVs (steps_len _ hxl)) (hl2 := by exact hVs (steps_len _ hxl)) (h1 := by exact one_hA _) 0 S531 fun w532 S533 => (T_nil (TT_done ?_)))
        have S534 := S533.swap12
        have S535 := S534.swap01
        have S536 := S535.swap12
        exact Ws (J287 _ _ ⟨_, _, G240, rfl, (Hp.le.refl _), S536⟩)
       refine Ac (hC := fun _ h => ((Hp.le.refl _)).trans h) S523 fun b537 w538 S539 => ?_
       refine Nt rfl (Cs g_aumbry_aumbryref07_Along ((alongR_ok S539.le ((((d + (i + 1) : Nat) : Int) - 1) - ((d : Nat) : Int)) hl327).mono ?_))
       rintro e w541 ⟨rfl, hB540⟩
       have S542 := S539.call hB540
       refine ⟨_, rfl, (((Hp.le.refl _)).trans S542.le), ?_⟩
       refine T_re (v' := hV (Go.Au.steps i (v.getD k []))) (congrArg (fun q => hV (Go.Au.steps q _)) (by omega)) ?_
       refine Nt rfl (Ag (hC := fun _ h => ((Hp.le.refl _)).trans h) (hl := by exact hVs (steps_len _ (start_len _ _ _))) (hl2 := by exact hVs (steps_len _ (start_len _ _ _))) (h1 := by exact one_hA _) 1 S542 fun w543 S544 => ?_)
       refine Nt rfl (Ag (hC := fun _ h => ((Hp.le.refl _)).trans h) (hl := by exact hVs (steps_len _ hxl)) (hl2 := by exact hVs (steps_len _ hxl)) (h1 := by exact one_hA _) 0 S544 fun w545 S546 => (T_nil (TT_done ?_)))
       have S547 := S546.swap12
       have S548 := S547.swap01
       have S549 := S548.swap12
       exact Ws (J287 _ _ ⟨_, _, G240, rfl, (Hp.le.refl _), S549⟩)
      refine Ac (hC := fun _ h => ((Hp.le.refl _)).trans h) S520 fun b550 w551 S552 => ?_
      refine Nt rfl (Cs g_aumbry_aumbryref07_Along ((alongR_ok S552.le (((d + (i + 1) : Nat) : Int) - 1) (start_len _ _ _)).mono ?_))
      rintro e w554 ⟨rfl, hB553⟩
      have S555 := S552.call hB553
      refine ⟨_, rfl, (((Hp.le.refl _)).trans S555.le), ?_⟩
      refine T_re (v' := hV (ownC seed sl ((k : Nat) : Int) d i)) (congrArg (fun q => hV (Go.Au.steps q _)) (by omega)) ?_
      refine Nt rfl (Cs g_aumbry_aumbryref07_Along ((alongR_ok S555.le ((((d + (i + 1) : Nat) : Int) - 1) - ((d : Nat) : Int)) hl327).mono ?_))
      rintro e w557 ⟨rfl, hB556⟩
      have S558 := S555.call hB556
      refine ⟨_, rfl, (((Hp.le.refl _)).trans S558.le), ?_⟩
      refine T_re (v' := hV (Go.Au.steps i (v.getD k []))) (congrArg (fun q => hV (Go.Au.steps q _)) (by omega)) ?_
      refine Nt rfl (Ag (hC := fun _ h => ((Hp.le.refl _)).trans h) (hl := by exact hVs (steps_len _ (start_len _ _ _))) (hl2 := by exact hVs (steps_len _ (start_len _ _ _))) (h1 := by exact one_hA _) 1 S558 fun w559 S560 => ?_)
      refine Nt rfl (Ag (hC := fun _ h => ((Hp.le.refl _)).trans h) (hl := by exact hVs (steps_len _ hxl)) (hl2 := by exact hVs (steps_len _ hxl)) (h1 := by exact one_hA _) 0 S560 fun w561 S562 => (T_nil (TT_done ?_)))
      have S563 := S562.swap12
      have S564 := S563.swap01
      have S565 := S564.swap12
      exact Ws (J287 _ _ ⟨_, _, G240, rfl, (Hp.le.refl _), S565⟩)
     refine Ac (hC := fun _ h => ((Hp.le.refl _)).trans h) S517 fun b566 w567 S568 => ?_
     refine Nt rfl (Cs g_aumbry_aumbryref07_Start ((startR_ok S568.le sl (k : Int) hs (by omega) (by omega)).mono ?_))
     rintro e w570 ⟨rfl, hB569⟩
     have S571 := S568.call hB569
     refine ⟨_, rfl, (((Hp.le.refl _)).trans S571.le), ?_⟩
     refine Nt rfl (Cs g_aumbry_aumbryref07_Along ((alongR_ok S571.le (((d + (i + 1) : Nat) : Int) - 1) (start_len _ _ _)).mono ?_))
     rintro e w573 ⟨rfl, hB572⟩
     have S574 := S571.call hB572
     refine ⟨_, rfl, (((Hp.le.refl _)).trans S574.le), ?_⟩
     refine T_re (v' := hV (ownC seed sl ((k : Nat) : Int) d i)) (congrArg (fun q => hV (Go.Au.steps q _)) (by omega)) ?_
     refine Nt rfl (Cs g_aumbry_aumbryref07_Along ((alongR_ok S574.le ((((d + (i + 1) : Nat) : Int) - 1) - ((d : Nat) : Int)) hl327).mono ?_))
     rintro e w576 ⟨rfl, hB575⟩
     have S577 := S574.call hB575
     refine ⟨_, rfl, (((Hp.le.refl _)).trans S577.le), ?_⟩
     refine T_re (v' := hV (Go.Au.steps i (v.getD k []))) (congrArg (fun q => hV (Go.Au.steps q _)) (by omega)) ?_
     refine Nt rfl (Ag (hC := fun _ h => ((Hp.le.refl _)).trans h) (hl := by exact hVs (steps_len _ (start_len _ _ _))) (hl2 := by exact hVs (steps_len _ (start_len _ _ _))) (h1 := by exact one_hA _) 1 S577 fun w578 S579 => ?_)
     refine Nt rfl (Ag (hC := fun _ h => ((Hp.le.refl _)).trans h) (hl := by exact hVs (steps_len _ hxl)) (hl2 := by exact hVs (steps_len _ hxl)) (h1 := by exact one_hA _) 0 S579 fun w580 S581 => (T_nil (TT_done ?_)))
     have S582 := S581.swap12
     have S583 := S582.swap01
     have S584 := S583.swap12
     exact Ws (J287 _ _ ⟨_, _, G240, rfl, (Hp.le.refl _), S584⟩)
    refine Ac (hC := fun _ h => ((Hp.le.refl _)).trans h) S322 fun b585 w586 S587 => (T_nil ?_)
    refine TT_fork rfl rfl ?_ ?_
    ·refine Cs g_aumbry_aumbryref07_Start ((startR_ok S587.le sl (k : Int) hs (by omega) (by omega)).mono ?_)
     rintro e w589 ⟨rfl, hB588⟩
     have S590 := S587.call hB588
     refine ⟨_, rfl, (((Hp.le.refl _)).trans S590.le), ?_⟩
     refine T_nil (TT_fork rfl rfl ?_ ?_)
     ·refine Cs g_aumbry_aumbryref07_Along ((alongR_ok S590.le (((d + (i + 1) : Nat) : Int) - 1) (start_len _ _ _)).mono ?_)
      rintro e w592 ⟨rfl, hB591⟩
      have S593 := S590.call hB591
      refine ⟨_, rfl, (((Hp.le.refl _)).trans S593.le), ?_⟩
      refine T_re (v' := hV (ownC seed sl ((k : Nat) : Int) d i)) (congrArg (fun q => hV (Go.Au.steps q _)) (by omega)) (T_nil ?_)
      refine TT_fork rfl rfl ?_ ?_
      ·refine Cs g_aumbry_aumbryref07_Along ((alongR_ok S593.le ((((d + (i + 1) : Nat) : Int) - 1) - ((d : Nat) : Int)) hl327).mono ?_)
       rintro e w595 ⟨rfl, hB594⟩
       have S596 := S593.call hB594
       refine ⟨_, rfl, (((Hp.le.refl _)).trans S596.le), ?_⟩
       refine T_re (v' := hV (Go.Au.steps i (v.getD k []))) (congrArg (fun q => hV (Go.Au.steps q _)) (by omega)) ?_
       refine Nt rfl (Ac (hC := fun _ h => ((Hp.le.refl _)).trans h) S596 fun b597 w598 S599 => ?_)
       refine Nt rfl (Ag (hC := fun _ h => ((Hp.le.refl _)).trans h) (hl := by exact hVs (steps_len _ (start_len _ _ _))) (hl2 := by exact hVs (steps_len _ (start_len _ _ _))) (h1 := by exact one_hA _) 0 S599 fun w600 S601 => ?_)
       refine Nt rfl (Ag (hC := fun _ h => ((Hp.le.refl _)).trans h) (hl := by exact hVs (steps_len _ hxl)) (hl2 := by exact hVs (steps_len _ hxl)) (h1 := by exact one_hA _) 1 S601 fun w602 S603 => (T_nil (TT_done ?_)))
       have S604 := S603.swap12
       have S605 := S604.swap01
       exact Ws (J287 _ _ ⟨_, _, G240, rfl, (Hp.le.refl _), S605⟩)
      refine Ac (hC := fun _ h => ((Hp.le.refl _)).trans h) S593 fun b606 w607 S608 => ?_
      refine Nt rfl (Cs g_aumbry_aumbryref07_Along ((alongR_ok S608.le ((((d + (i + 1) : Nat) : Int) - 1) - ((d : Nat) : Int)) hl327).mono ?_))
      rintro e w610 ⟨rfl, hB609⟩
      have S611 := S608.call hB609
      refine ⟨_, rfl, (((Hp.le.refl _)).trans S611.le), ?_⟩
      refine T_re (v' := hV (Go.Au.steps i (v.getD k []))) (congrArg (fun q => hV (Go.Au.steps q _)) (by omega)) ?_
      refine Nt rfl (Ag (hC := fun _ h => ((Hp.le.refl _)).trans h) (hl := by exact hVs (steps_len _ (start_len _ _ _))) (hl2 := by exact hVs (steps_len _ (start_len _ _ _))) (h1 := by exact one_hA _) 0 S611 fun w612 S613 => ?_)
      refine Nt rfl (Ag (hC := fun _ h => ((Hp.le.refl _)).trans h) (hl := by exact hVs (steps_len _ hxl)) (hl2 := by exact hVs (steps_len _ hxl)) (h1 := by exact one_hA _) 1 S613 fun w614 S615 => (T_nil (TT_done ?_)))
      have S616 := S615.swap12
      have S617 := S616.swap01
      exact Ws (J287 _ _ ⟨_, _, G240, rfl, (Hp.le.refl _), S617⟩)
     refine Ac (hC := fun _ h => ((Hp.le.refl _)).trans h) S590 fun b618 w619 S620 => ?_
     refine Nt rfl (Cs g_aumbry_aumbryref07_Along ((alongR_ok S620.le (((d + (i + 1) : Nat) : Int) - 1) (start_len _ _ _)).mono ?_))
     rintro e w622 ⟨rfl, hB621⟩
     have S623 := S620.call hB621
     refine ⟨_, rfl, (((Hp.le.refl _)).trans S623.le), ?_⟩
     refine T_re (v' := hV (ownC seed sl ((k : Nat) : Int) d i)) (congrArg (fun q => hV (Go.Au.steps q _)) (by omega)) ?_
     refine Nt rfl (Cs g_aumbry_aumbryref07_Along ((alongR_ok S623.le ((((d + (i + 1) : Nat) : Int) - 1) - ((d : Nat) : Int)) hl327).mono ?_))
     rintro e w625 ⟨rfl, hB624⟩
     have S626 := S623.call hB624
     refine ⟨_, rfl, (((Hp.le.refl _)).trans S626.le), ?_⟩
     refine T_re (v' := hV (Go.Au.steps i (v.getD k []))) (congrArg (fun q => hV (Go.Au.steps q _)) (by omega)) ?_
     refine Nt rfl (Ag (hC := fun _ h => ((Hp.le.refl _)).trans h) (hl := by exact hVs (steps_len _ (start_len _ _ _))) (hl2 := by exact hVs (steps_len _ (start_len _ _ _))) (h1 := by exact one_hA _) 0 S626 fun w627 S628 => ?_)
     refine Nt rfl (Ag (hC := fun _ h => ((Hp.le.refl _)).trans h) (hl := by exact hVs (steps_len _ hxl)) (hl2 := by exact hVs (steps_len _ hxl)) (h1 := by exact one_hA _) 1 S628 fun w629 S630 => (T_nil (TT_done ?_)))
     have S631 := S630.swap12
     have S632 := S631.swap01
     exact Ws (J287 _ _ ⟨_, _, G240, rfl, (Hp.le.refl _), S632⟩)
    refine Ac (hC := fun _ h => ((Hp.le.refl _)).trans h) S587 fun b633 w634 S635 => ?_
    refine Nt rfl (Cs g_aumbry_aumbryref07_Start ((startR_ok S635.le sl (k : Int) hs (by omega) (by omega)).mono ?_))
    rintro e w637 ⟨rfl, hB636⟩
    have S638 := S635.call hB636
    refine ⟨_, rfl, (((Hp.le.refl _)).trans S638.le), ?_⟩
    refine Nt rfl (Cs g_aumbry_aumbryref07_Along ((alongR_ok S638.le (((d + (i + 1) : Nat) : Int) - 1) (start_len _ _ _)).mono ?_))
    rintro e w640 ⟨rfl, hB639⟩
    have S641 := S638.call hB639
    refine ⟨_, rfl, (((Hp.le.refl _)).trans S641.le), ?_⟩
    refine T_re (v' := hV (ownC seed sl ((k : Nat) : Int) d i)) (congrArg (fun q => hV (Go.Au.steps q _)) (by omega)) ?_
    refine Nt rfl (Cs g_aumbry_aumbryref07_Along ((alongR_ok S641.le ((((d + (i + 1) : Nat) : Int) - 1) - ((d : Nat) : Int)) hl327).mono ?_))
    rintro e w643 ⟨rfl, hB642⟩
    have S644 := S641.call hB642
    refine ⟨_, rfl, (((Hp.le.refl _)).trans S644.le), ?_⟩
    refine T_re (v' := hV (Go.Au.steps i (v.getD k []))) (congrArg (fun q => hV (Go.Au.steps q _)) (by omega)) ?_
    refine Nt rfl (Ag (hC := fun _ h => ((Hp.le.refl _)).trans h) (hl := by exact hVs (steps_len _ (start_len _ _ _))) (hl2 := by exact hVs (steps_len _ (start_len _ _ _))) (h1 := by exact one_hA _) 0 S644 fun w645 S646 => ?_)
    refine Nt rfl (Ag (hC := fun _ h => ((Hp.le.refl _)).trans h) (hl := by exact hVs (steps_len _ hxl)) (hl2 := by exact hVs (steps_len _ hxl)) (h1 := by exact one_hA _) 1 S646 fun w647 S648 => (T_nil (TT_done ?_)))
    have S649 := S648.swap12
    have S650 := S649.swap01
    exact Ws (J287 _ _ ⟨_, _, G240, rfl, (Hp.le.refl _), S650⟩)
   refine W_exit (W_seq (W_draw rfl (by kernel_rfl) ?_))
   have S651 := S243.drew
   refine Fl 1 ?_
   refine Ab (r := by exact still_cell (hl241 _ _ (hl224 _ _ (hl221 _ _ (hl217 _ _ (hl196 _ _ (hl192 _ _ (hl180 _ _ (hl168 _ _ (hl143 _ _ (hl101 _ _ (hl97 _ _ (hl78 _ _ (hl74 _ _ (hl40 _ _ (hl27 _ _ r17))))))))))))))) rfl) S651 ?_
   refine P3 ?_
   refine Af k (r218.mono (hl221.trans (hl224.trans hl241))) fun b652 o653 hc654 => ?_
   have hc655 := hc654 0 (.int .i64 ((Go.Au.digits m).getD k 0)) (at_i (Go.Au.digits m) k (by omega))
   simp only [Nat.add_zero] at hc655
   refine Ab (r := by exact hc655) S651 ?_
   refine T_re (v' := .int .i64 ((d : Nat) : Int)) (congrArg (Value.int .i64) hd) (Fl 2 ?_)
   refine Ab (r := by exact still_cell (hl241 _ _ (hl224 _ _ (hl221 _ _ (hl217 _ _ (hl196 _ _ (hl192 _ _ (hl180 _ _ (hl168 _ _ (hl143 _ _ (hl101 _ _ (hl97 _ _ (hl78 _ _ (hl74 _ _ (hl40 _ _ (hl27 _ _ r17))))))))))))))) rfl) S651 ?_
   refine Pv ?_
   refine Af k (h1.mono (hl12.trans (hl16.trans (hl27.trans (hl40.trans (hl74.trans (hl78.trans (hl97.trans (hl101.trans (hl143.trans (hl168.trans (hl180.trans (hl192.trans (hl196.trans (hl217.trans (hl221.trans (hl224.trans hl241))))))))))))))))).2 fun b656 o657 hc658 => ?_
   have hc659 := cells_h (h1.mono (hl12.trans (hl16.trans (hl27.trans (hl40.trans (hl74.trans (hl78.trans (hl97.trans (hl101.trans (hl143.trans (hl168.trans (hl180.trans (hl192.trans (hl196.trans (hl217.trans (hl221.trans (hl224.trans hl241))))))))))))))))).1 k (by omega) hc658
   have hl660 := len_h (h1.mono (hl12.trans (hl16.trans (hl27.trans (hl40.trans (hl74.trans (hl78.trans (hl97.trans (hl101.trans (hl143.trans (hl168.trans (hl180.trans (hl192.trans (hl196.trans (hl217.trans (hl221.trans (hl224.trans hl241))))))))))))))))).1 k (by omega)
   refine T_loadGA _ S651 hc659 rfl rfl rfl rfl rfl rfl rfl rfl (hVs hl660) (T_buildS (cells := (gV [[.slice none 0 0], [.slice none 0 0], [.bool true], [.int .i64 sl], [.int .i64 (k : Int)], [.int .i64 ((d : Nat) : Int)], (v.getD k []).map bV] : Value).cells) rfl rfl rfl rfl rfl rfl (fill_g (L := [[.slice none 0 0], [.slice none 0 0], [.bool false], [.int .i64 0], [.int .i64 0], [.int .i64 0], (List.replicate 32 0).map bV]) (ns := [1, 1, 1, 1, 1, 1, 32]) (v := .bool true) (off := 2) (k := 1) rfl (Shp.cons rfl (Shp.cons rfl (Shp.cons rfl (Shp.cons rfl (Shp.cons rfl (Shp.cons rfl (Shp.cons (lenB List.length_replicate) Shp.nil))))))) 2 1 [[.bool true]] rfl (by first | rfl | simp [hVs, *]) rfl rfl (fill_g (L := [[.slice none 0 0], [.slice none 0 0], [.bool true], [.int .i64 0], [.int .i64 0], [.int .i64 0], (List.replicate 32 0).map bV]) (ns := [1, 1, 1, 1, 1, 1, 32]) (v := .int .i64 sl) (off := 3) (k := 1) rfl (Shp.cons rfl (Shp.cons rfl (Shp.cons rfl (Shp.cons rfl (Shp.cons rfl (Shp.cons rfl (Shp.cons (lenB List.length_replicate) Shp.nil))))))) 3 1 [[.int .i64 sl]] rfl (by first | rfl | simp [hVs, *]) rfl rfl (fill_g (L := [[.slice none 0 0], [.slice none 0 0], [.bool true], [.int .i64 sl], [.int .i64 0], [.int .i64 0], (List.replicate 32 0).map bV]) (ns := [1, 1, 1, 1, 1, 1, 32]) (v := .int .i64 (k : Int)) (off := 4) (k := 1) rfl (Shp.cons rfl (Shp.cons rfl (Shp.cons rfl (Shp.cons rfl (Shp.cons rfl (Shp.cons rfl (Shp.cons (lenB List.length_replicate) Shp.nil))))))) 4 1 [[.int .i64 (k : Int)]] rfl (by first | rfl | simp [hVs, *]) rfl rfl (fill_g (L := [[.slice none 0 0], [.slice none 0 0], [.bool true], [.int .i64 sl], [.int .i64 (k : Int)], [.int .i64 0], (List.replicate 32 0).map bV]) (ns := [1, 1, 1, 1, 1, 1, 32]) (v := .int .i64 ((d : Nat) : Int)) (off := 5) (k := 1) rfl (Shp.cons rfl (Shp.cons rfl (Shp.cons rfl (Shp.cons rfl (Shp.cons rfl (Shp.cons rfl (Shp.cons (lenB List.length_replicate) Shp.nil))))))) 5 1 [[.int .i64 ((d : Nat) : Int)]] rfl (by first | rfl | simp [hVs, *]) rfl rfl (fill_g (L := [[.slice none 0 0], [.slice none 0 0], [.bool true], [.int .i64 sl], [.int .i64 (k : Int)], [.int .i64 ((d : Nat) : Int)], (List.replicate 32 0).map bV]) (ns := [1, 1, 1, 1, 1, 1, 32]) (v := hV (v.getD k [])) (off := 6) (k := 32) rfl (Shp.cons rfl (Shp.cons rfl (Shp.cons rfl (Shp.cons rfl (Shp.cons rfl (Shp.cons rfl (Shp.cons (lenB List.length_replicate) Shp.nil))))))) 6 1 [(v.getD k []).map bV] flat1 (hVs hl660) rfl rfl fill_gnil))))) rfl rfl rfl ?_)
   refine Ag (hl := by exact gV_size (L := [[.slice none 0 0], [.slice none 0 0], [.bool true], [.int .i64 sl], [.int .i64 (k : Int)], [.int .i64 ((d : Nat) : Int)], (v.getD k []).map bV]) (ns := [1, 1, 1, 1, 1, 1, 32]) (Shp.cons rfl (Shp.cons rfl (Shp.cons rfl (Shp.cons rfl (Shp.cons rfl (Shp.cons rfl (Shp.cons (lenB hl660) Shp.nil))))))) rfl) (hl2 := by exact gV_size (L := [[.slice none 0 0], [.slice none 0 0], [.bool true], [.int .i64 sl], [.int .i64 (k : Int)], [.int .i64 ((d : Nat) : Int)], (v.getD k []).map bV]) (ns := [1, 1, 1, 1, 1, 1, 32]) (Shp.cons rfl (Shp.cons rfl (Shp.cons rfl (Shp.cons rfl (Shp.cons rfl (Shp.cons rfl (Shp.cons (lenB hl660) Shp.nil))))))) rfl) (h1 := by exact gV_one (OneL.one rfl (OneL.one rfl (OneL.one rfl (OneL.one rfl (OneL.one rfl (OneL.one rfl (OneL.arr OneL.nil)))))))) 0 S651 fun w661 S662 => ?_
   refine Pv (T_nil (W_ret ?_))
   refine ⟨_, ⟨_, _, _, rfl, rfl, run_loadVarA rfl rfl (gV_size (L := [[.slice none 0 0], [.slice none 0 0], [.bool true], [.int .i64 sl], [.int .i64 (k : Int)], [.int .i64 ((d : Nat) : Int)], (v.getD k []).map bV]) (ns := [1, 1, 1, 1, 1, 1, 32]) (Shp.cons rfl (Shp.cons rfl (Shp.cons rfl (Shp.cons rfl (Shp.cons rfl (Shp.cons rfl (Shp.cons (lenB hl660) Shp.nil))))))) rfl) (S662.cells 0 rfl), ⟨_, _, rfl, rfl, rfl⟩⟩, ?_⟩
   exact fg_end (f := fgO (expl seed (wasAt L sl) m h sh sl v p)) (b := (expl seed (wasAt L sl) m h sh sl v p).isSome) (f' := fgL sl ((k : Nat) : Int) (d : Int) (v.getD k [])) (hS5.trans (stepF_none (hinv.trans (by obtain rfl : j = 0 := (by omega); rfl)))) (by rw [hE]; rfl) (nilB _) (nilB _) S662.fin S662.below
  iterate 9 refine No ?_
  refine Pv (T_nil ?_)
  refine W_cond_false rfl (W_exit (Wr (P2 (T_nil ?_))))
  refine W_bool 165 true rfl (decide_eq_true (by omega)) ?_
  refine W_cond_true rfl (W_seq ?_)
  have hd4 : (Go.Au.digits (wasAt L sl)) = (Go.Au.digits m) := fch_all (by rw [← hfq]; obtain rfl : k = 67 := (by omega); rfl)
  refine W_region (Pv ?_)
  have rs667 : Rds G223 [.slice a42 (wasAt L sl).length c43] [(wasAt L sl)] := Rds.cons (Rd.canonB (hr45.mono (hl74.trans (hl78.trans (hl97.trans (hl101.trans (hl143.trans (hl168.trans (hl180.trans (hl192.trans (hl196.trans (hl217.trans (hl221.trans hl224))))))))))))) (Rds.nil _)
  refine Ad (hone := by simp [Value.cells]; rfl) [.slice a42 (wasAt L sl).length c43] fun a663 w664 hB665 ho666 => ?_
  have S668 := S229.own hB665 ho666
  refine ⟨trivial, ?_⟩
  obtain ⟨G670, hl671, S669, r672⟩ := S668.stillRow 0 rfl
  have r673 := RdL.mk r672 (rs667.mono hl671)
  refine T_callS rfl rfl g_aumbry_aumbryref01_Text rfl rfl rfl rfl ((textR_ok S669.le r673 (text1 (by decide) (by omega))).mono ?_)
  rintro e w679 ⟨a674, c675, hc676, rfl, ho677, hB678⟩
  have S680 := S669.own hB678 ho677
  refine ⟨_, rfl, trivial, ?_⟩
  refine Pv ?_
  have rs685 : Rds G670 [.slice aa3 m.length cc3] [m] := Rds.cons (Rd.canonB (hv.mono (hl12.trans (hl16.trans (hl27.trans (hl40.trans (hl74.trans (hl78.trans (hl97.trans (hl101.trans (hl143.trans (hl168.trans (hl180.trans (hl192.trans (hl196.trans (hl217.trans (hl221.trans (hl224.trans hl671)))))))))))))))))) (Rds.nil _)
  refine Ad (hone := by simp [Value.cells]; rfl) [.slice aa3 m.length cc3] fun a681 w682 hB683 ho684 => ?_
  have S686 := S680.own hB683 ho684
  refine ⟨trivial, ?_⟩
  obtain ⟨G688, hl689, S687, r690⟩ := S686.stillRow 0 rfl
  have r691 := RdL.mk r690 (rs685.mono hl689)
  refine T_callS rfl rfl g_aumbry_aumbryref01_Text rfl rfl rfl rfl ((textR_ok S687.le r691 (text1 (by decide) (by omega))).mono ?_)
  rintro e w697 ⟨a692, c693, hc694, rfl, ho695, hB696⟩
  have S698 := S687.own hB696 ho695
  refine ⟨_, rfl, trivial, ?_⟩
  obtain ⟨G700, hl701, S699, r702⟩ := S698.stillRow 1 rfl
  obtain ⟨G704, hl705, S703, r706⟩ := S699.stillRow 0 rfl
  refine T_buildS (cells := #[.slice a674 ((Go.Au.text ([109, 115, 103]) ([(wasAt L sl)])).length) c675, .slice a692 ((Go.Au.text ([109, 115, 103]) ([m])).length) c693]) rfl rfl rfl rfl rfl rfl rfl rfl rfl rfl (T_buildS (cells := (gV [[.slice a674 ((Go.Au.text ([109, 115, 103]) ([(wasAt L sl)])).length) c675], [.slice a692 ((Go.Au.text ([109, 115, 103]) ([m])).length) c693], [.bool false], [.int .i64 0], [.int .i64 0], [.int .i64 0], (List.replicate 32 0).map bV] : Value).cells) rfl rfl rfl rfl rfl rfl (fill_g (L := [[.slice none 0 0], [.slice none 0 0], [.bool false], [.int .i64 0], [.int .i64 0], [.int .i64 0], (List.replicate 32 0).map bV]) (ns := [1, 1, 1, 1, 1, 1, 32]) (v := .agg #[.slice a674 ((Go.Au.text ([109, 115, 103]) ([(wasAt L sl)])).length) c675, .slice a692 ((Go.Au.text ([109, 115, 103]) ([m])).length) c693]) (off := 0) (k := 2) rfl (Shp.cons rfl (Shp.cons rfl (Shp.cons rfl (Shp.cons rfl (Shp.cons rfl (Shp.cons rfl (Shp.cons (lenB List.length_replicate) Shp.nil))))))) 0 2 [[.slice a674 ((Go.Au.text ([109, 115, 103]) ([(wasAt L sl)])).length) c675], [.slice a692 ((Go.Au.text ([109, 115, 103]) ([m])).length) c693]] rfl (by first | rfl | simp [hVs, *]) rfl rfl fill_gnil) rfl rfl rfl ?_)
  refine Ag (hl := by exact gV_size (L := [[.slice a674 ((Go.Au.text ([109, 115, 103]) ([(wasAt L sl)])).length) c675], [.slice a692 ((Go.Au.text ([109, 115, 103]) ([m])).length) c693], [.bool false], [.int .i64 0], [.int .i64 0], [.int .i64 0], (List.replicate 32 0).map bV]) (ns := [1, 1, 1, 1, 1, 1, 32]) (Shp.cons rfl (Shp.cons rfl (Shp.cons rfl (Shp.cons rfl (Shp.cons rfl (Shp.cons rfl (Shp.cons (lenB List.length_replicate) Shp.nil))))))) rfl) (hl2 := by exact gV_size (L := [[.slice a674 ((Go.Au.text ([109, 115, 103]) ([(wasAt L sl)])).length) c675], [.slice a692 ((Go.Au.text ([109, 115, 103]) ([m])).length) c693], [.bool false], [.int .i64 0], [.int .i64 0], [.int .i64 0], (List.replicate 32 0).map bV]) (ns := [1, 1, 1, 1, 1, 1, 32]) (Shp.cons rfl (Shp.cons rfl (Shp.cons rfl (Shp.cons rfl (Shp.cons rfl (Shp.cons rfl (Shp.cons (lenB List.length_replicate) Shp.nil))))))) rfl) (h1 := by exact gV_one (OneL.one rfl (OneL.one rfl (OneL.one rfl (OneL.one rfl (OneL.one rfl (OneL.one rfl (OneL.arr OneL.nil)))))))) 0 S703 fun w707 S708 => ?_
  refine Pv (T_nil (W_ret ?_))
  refine ⟨_, ⟨_, _, _, rfl, rfl, run_loadVarA rfl rfl (gV_size (L := [[.slice a674 ((Go.Au.text ([109, 115, 103]) ([(wasAt L sl)])).length) c675], [.slice a692 ((Go.Au.text ([109, 115, 103]) ([m])).length) c693], [.bool false], [.int .i64 0], [.int .i64 0], [.int .i64 0], (List.replicate 32 0).map bV]) (ns := [1, 1, 1, 1, 1, 1, 32]) (Shp.cons rfl (Shp.cons rfl (Shp.cons rfl (Shp.cons rfl (Shp.cons rfl (Shp.cons rfl (Shp.cons (lenB List.length_replicate) Shp.nil))))))) rfl) (S708.cells 0 rfl), ⟨_, _, rfl, rfl, rfl⟩⟩, ?_⟩
  exact fg_end (f := fgO (expl seed (wasAt L sl) m h sh sl v p)) (b := (expl seed (wasAt L sl) m h sh sl v p).isSome) (f' := fgB (msgT (wasAt L sl)) (msgT m)) (by rw [hE]; exact explS_4 hp1 hb2 hp3 hW0 hd4) (by rw [hE]; rfl) (r702.mono hl705) r706 S708.fin S708.below
 refine W_seq (W_tree (planF Tryz.prog G100 [101, 104, 106, 107, 109, 113]) (.step 0 (.step 1 (.step 2 (.step 3 (.step 4 (.step 5 (.step 6 (.step 7 (.step 8 (.step 9 (.step 10 (.step 11 (.step 12 (.step 14 (.step 15 (.fork 13 20 (.fork 16 20 (.step 17 (.step 18 (.step 19 (.step 20 (.step 21 (.step 22 .done)))))) (.step 16 (.step 17 (.step 18 (.step 19 (.step 21 (.step 22 .done))))))) (.step 13 (.step 16 (.step 17 (.step 18 (.step 19 (.step 21 (.step 22 .done))))))))))))))))))))))) rfl (by kernel_rfl) S99.le ?_)
 have S709 := S99.drew
 iterate 2 (refine TT_step rfl ?_; refine Pv ?_; refine T_nil ?_)
 refine TT_step rfl (Fl 1 ?_)
 refine Nt rfl (Ak (r := by exact still_cell (hl101 _ _ (hl97 _ _ (hl78 _ _ (hl74 _ _ (hl40 _ _ (hl27 _ _ r17)))))) rfl) ?_)
 refine Nt rfl (Pv ?_)
 refine Nt rfl (Fl 1 ?_)
 refine Nt rfl (Ak (r := by exact still_cell (hl101 _ _ (hl97 _ _ (hl78 _ _ (hl74 _ _ (hl40 _ _ (hl27 _ _ r17)))))) rfl) ?_)
 refine Nt rfl (Af sl.toNat (r29.mono (hl40.trans (hl74.trans (hl78.trans (hl97.trans hl101))))).2 fun b710 o711 hc712 => ?_)
 have hc713 := cells_h (r29.mono (hl40.trans (hl74.trans (hl78.trans (hl97.trans hl101))))).1 sl.toNat (by omega) hc712
 have hl714 := len_h (r29.mono (hl40.trans (hl74.trans (hl78.trans (hl97.trans hl101))))).1 sl.toNat (by omega)
 refine Nt rfl (T_loadGAP _ (fun _ h => h) hc713 rfl rfl rfl rfl rfl rfl rfl rfl (hVs hl714) (T_re (v' := hV (pub seed sl)) (congrArg (fun q => hV q) (by rw [mleaves_at (by omega), show ((sl.toNat : Nat) : Int) = sl by omega])) ?_))
 refine Nt rfl (T_loadGAP _ (fun _ h => h) (still_cells (hl101 _ _ (hl97 _ _ (hl78 _ _ r75)))) rfl rfl rfl rfl rfl rfl rfl rfl (hVs (pubH_len _)) (Nt rfl (Fl 1 ?_)))
 refine Nt rfl (Ak (r := by exact still_cell (hl101 _ _ (hl97 _ _ (hl78 _ _ (hl74 _ _ (hl40 _ _ (hl27 _ _ r17)))))) rfl) ?_)
 refine Nt rfl (Pv ?_)
 refine Nt rfl (Fl 3 ?_)
 refine Nt rfl (Ak (r := by exact still_cell (hl101 _ _ (hl97 _ _ (hl78 _ _ (hl74 _ _ (hl40 _ _ (hl27 _ _ r17)))))) rfl) (T_nil ?_))
 refine TT_fork rfl rfl ?_ ?_
 ·refine Cs g_aumbry_aumbryref07_Proof ((proofR_ok S709.le sl (r29.mono (hl40.trans (hl74.trans (hl78.trans (hl97.trans hl101))))) (by omega) (by omega)).mono ?_)
  rintro e w720 ⟨a715, c716, hc717, rfl, ho718, hB719⟩
  have S721 := S709.own hB719 ho718
  refine ⟨_, rfl, (((Hp.le.refl _)).trans S721.le), ?_⟩
  refine T_nil (TT_fork rfl rfl ?_ ?_)
  ·obtain ⟨G723, hl724, S722, r725⟩ := S721.stillRow 0 rfl
   have r726 := RdH.mk (beside_all (r29.mono (hl40.trans (hl74.trans (hl78.trans (hl97.trans hl101))))).1 (by omega) (Nat.le_refl _)) (by decide) r725
   refine Cs g_aumbry_aumbryref07_Break ((breakR_ok S722.le (((2 ^ h.toNat) : Nat) : Int) sl (pub_len _ _) (pubH_len _) r726 (h2.mono (hl12.trans (hl16.trans (hl27.trans (hl40.trans (hl74.trans (hl78.trans (hl97.trans (hl101.trans hl724)))))))))).mono ?_)
   rintro e w734 ⟨a727, c728, a729, c730, rfl, r731, r732, hB733⟩
   obtain ⟨G736, eG738⟩ : ∃ G, G = F.ext G723 w720.heap.size w734 := ⟨_, rfl⟩
   obtain ⟨hl737, S735⟩ := S722.ext hB733
   rw [← eG738] at hl737 S735 r731 r732
   refine ⟨_, rfl, (((hl724.trans hl737)).trans S735.le), ?_⟩
   iterate 3 (refine T_nil ?_; refine TT_step rfl ?_; refine Pv ?_)
   refine Nt rfl (Ac (hC := fun _ h => ((hl724.trans hl737)).trans h) S735 fun b739 w740 S741 => ?_)
   refine Nt rfl (Ag (hC := fun _ h => ((hl724.trans hl737)).trans h) (hl := by first | rfl | simp [hVs, *]) (hl2 := by first | rfl | simp [hVs, *]) (h1 := by exact one_all rfl) 0 S741 fun w742 S743 => ?_)
   refine Nt rfl (Pv (T_nil (TT_done ?_)))
   have S744 := S743.swap01
   exact Ws (J146 _ _ ⟨_, _, _, _, _, G736, rfl, (hl724.trans hl737), S744, r731, r732⟩)
  refine Ac (hC := fun _ h => ((Hp.le.refl _)).trans h) S721 fun b745 w746 S747 => ?_
  refine Nt rfl ?_
  obtain ⟨G749, hl750, S748, r751⟩ := S747.stillRow 1 rfl
  have r752 := RdH.mk (beside_all (r29.mono (hl40.trans (hl74.trans (hl78.trans (hl97.trans hl101))))).1 (by omega) (Nat.le_refl _)) (by decide) r751
  refine Cs g_aumbry_aumbryref07_Break ((breakR_ok S748.le (((2 ^ h.toNat) : Nat) : Int) sl (pub_len _ _) (pubH_len _) r752 (h2.mono (hl12.trans (hl16.trans (hl27.trans (hl40.trans (hl74.trans (hl78.trans (hl97.trans (hl101.trans hl750)))))))))).mono ?_)
  rintro e w760 ⟨a753, c754, a755, c756, rfl, r757, r758, hB759⟩
  obtain ⟨G762, eG764⟩ : ∃ G, G = F.ext G749 w746.heap.size w760 := ⟨_, rfl⟩
  obtain ⟨hl763, S761⟩ := S748.ext hB759
  rw [← eG764] at hl763 S761 r757 r758
  refine ⟨_, rfl, (((hl750.trans hl763)).trans S761.le), ?_⟩
  iterate 3 (refine T_nil ?_; refine TT_step rfl ?_; refine Pv ?_)
  refine Nt rfl (Ag (hC := fun _ h => ((hl750.trans hl763)).trans h) (hl := by first | rfl | simp [hVs, *]) (hl2 := by first | rfl | simp [hVs, *]) (h1 := by exact one_all rfl) 0 S761 fun w765 S766 => ?_)
  refine Nt rfl (Pv (T_nil (TT_done ?_)))
  have S767 := S766.swap01
  exact Ws (J146 _ _ ⟨_, _, _, _, _, G762, rfl, (hl750.trans hl763), S767, r757, r758⟩)
 refine Ac (hC := fun _ h => ((Hp.le.refl _)).trans h) S709 fun b768 w769 S770 => ?_
 refine Nt rfl (Cs g_aumbry_aumbryref07_Proof ((proofR_ok S770.le sl (r29.mono (hl40.trans (hl74.trans (hl78.trans (hl97.trans hl101))))) (by omega) (by omega)).mono ?_))
 rintro e w776 ⟨a771, c772, hc773, rfl, ho774, hB775⟩
 have S777 := S770.own hB775 ho774
 refine ⟨_, rfl, (((Hp.le.refl _)).trans S777.le), ?_⟩
 refine Nt rfl ?_
 obtain ⟨G779, hl780, S778, r781⟩ := S777.stillRow 0 rfl
 have r782 := RdH.mk (beside_all (r29.mono (hl40.trans (hl74.trans (hl78.trans (hl97.trans hl101))))).1 (by omega) (Nat.le_refl _)) (by decide) r781
 refine Cs g_aumbry_aumbryref07_Break ((breakR_ok S778.le (((2 ^ h.toNat) : Nat) : Int) sl (pub_len _ _) (pubH_len _) r782 (h2.mono (hl12.trans (hl16.trans (hl27.trans (hl40.trans (hl74.trans (hl78.trans (hl97.trans (hl101.trans hl780)))))))))).mono ?_)
 rintro e w790 ⟨a783, c784, a785, c786, rfl, r787, r788, hB789⟩
 obtain ⟨G792, eG794⟩ : ∃ G, G = F.ext G779 w776.heap.size w790 := ⟨_, rfl⟩
 obtain ⟨hl793, S791⟩ := S778.ext hB789
 rw [← eG794] at hl793 S791 r787 r788
 refine ⟨_, rfl, (((hl780.trans hl793)).trans S791.le), ?_⟩
 iterate 3 (refine T_nil ?_; refine TT_step rfl ?_; refine Pv ?_)
 refine Nt rfl (Ag (hC := fun _ h => ((hl780.trans hl793)).trans h) (hl := by first | rfl | simp [hVs, *]) (hl2 := by first | rfl | simp [hVs, *]) (h1 := by exact one_all rfl) 0 S791 fun w795 S796 => ?_)
 refine Nt rfl (Pv (T_nil (TT_done ?_)))
 have S797 := S796.swap01
 exact Ws (J146 _ _ ⟨_, _, _, _, _, G792, rfl, (hl780.trans hl793), S797, r787, r788⟩)


theorem explainR_ok {H : Hp} {w : World} (hH : H.le (hw w)) (h : Int) {seed : List UInt8} (hs : seed.length = 16) {L : List (List UInt8)} {aa2 : Option Addr} {nn2 cc2 : Nat} (hL : RdL H (.slice aa2 nn2 cc2) L) {m : List UInt8} {aa3 : Option Addr} {nn3 cc3 : Nat} (hv : Rd H (.slice aa3 nn3 cc3) nn3 1 (m.map bV)) (sh sl : Int) {v p : List (List UInt8)} {a1 a2 : Option Addr} {n1 n2 c1 c2 : Nat} (h1 : RdH H (.slice a1 n1 c1) 32 v) (h2 : RdH H (.slice a2 n2 c2) 32 p) (hm : 0 ≤ h ∧ h ≤ 4) (hml : m.length < 1000) (hLb : (wasAt L sl).length < 1000) {fo : FgP} {b : Bool} (hF : fgO (expl seed (wasAt L sl) m h sh sl v p) = fo) (hb : (expl seed (wasAt L sl) m h sh sl v p).isSome = b) :
  Calls Tryz.prog 9 #[hV seed, .int .i64 h, .slice aa2 nn2 cc2, .slice aa3 nn3 cc3, .agg #[.int .i64 sh, .int .i64 sl, .slice a1 n1 c1, .slice a2 n2 c2]] w fun e w' => ∃ a1 c1 a2 c2, e = .returned (.tuple #[gV [[.slice a1 fo.A.length c1], [.slice a2 fo.B.length c2], [.bool fo.k], [.int .i64 fo.a], [.int .i64 fo.c], [.int .i64 fo.q], fo.x.map bV], .bool b]) ∧ Rd (F.ext H w.heap.size w') (.slice a1 fo.A.length c1) fo.A.length 1 (fo.A.map bV) ∧ Rd (F.ext H w.heap.size w') (.slice a2 fo.B.length c2) fo.B.length 1 (fo.B.map bV) ∧ Below w.heap.size w w' := by
 subst hF; subst hb
 cases hvt : vrf (mprint seed h) m sh sl v p with
 | false => exact exprN1 hH h hs hL hv sh sl h1 h2 hm hml hLb hvt
 | true =>
  by_cases hW0 : 0 < (wasAt L sl).length
  ·by_cases hWm : (wasAt L sl) = m
   ·exact exprN2 hH h hs hL hv sh sl h1 h2 hm hml hLb hvt hW0 hWm
   ·exact exprE1 hH h hs hL hv sh sl h1 h2 hm hml hLb hvt hW0 hWm
  ·exact exprE0 hH h hs hL hv sh sl h1 h2 hm hml hLb hvt (by omega)
end Go.Proofs.YtfcejolipdcoaaaGreatDoor
