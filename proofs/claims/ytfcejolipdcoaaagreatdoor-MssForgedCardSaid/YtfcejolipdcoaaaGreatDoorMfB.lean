/- Walks of the program's functions. -/
import Derived.Test.YtfcejolipdcoaaaGreatDoorMfA
import Derived.Test.YtfcejolipdcoaaaGreatDoorFDoor
set_option linter.unusedVariables false
set_option linter.unusedSimpArgs false
set_option maxRecDepth 8192
namespace Go.Proofs.YtfcejolipdcoaaaGreatDoor
open Go Go.F Go.RowKit
open Go.Au hiding be

theorem vrf_ok {fp m : List UInt8} {h l : Int} {v p : List (List UInt8)} (e : vrf fp m h l v p = true) : okS h l v p = true := by
 cases e2 : okS h l v p with
 | true => rfl
 | false => rw [vrf_no e2] at e; cases e
theorem explN1 {H : Hp} {w : World} (hH : H.le (hw w)) (hT : Tabs H) (h : Int) {seed : List UInt8} (hs : seed.length = 16) {L : List (List UInt8)} {aa2 : Option Addr} {nn2 cc2 : Nat} (hL : RdL H (.slice aa2 nn2 cc2) L) {m : List UInt8} {aa3 : Option Addr} {nn3 cc3 : Nat} (hv : Rd H (.slice aa3 nn3 cc3) nn3 1 (m.map bV)) (sh sl : Int) {v p : List (List UInt8)} {a1 a2 : Option Addr} {n1 n2 c1 c2 : Nat} (h1 : RdH H (.slice a1 n1 c1) 32 v) (h2 : RdH H (.slice a2 n2 c2) 32 p) (hm : 0 ≤ h ∧ h ≤ 4) (hml : m.length < 1000) (hLb : (wasAt L sl).length < 1000) (hvf : vrf (mprint seed h) m sh sl v p = false) :
  Calls Tryz.prog 8 #[hV seed, .int .i64 h, .slice aa2 nn2 cc2, .slice aa3 nn3 cc3, .agg #[.int .i64 sh, .int .i64 sl, .slice a1 n1 c1, .slice a2 n2 c2]] w fun e w' => ∃ a1 c1 a2 c2, e = .returned (.tuple #[gV [[.slice a1 (fgO (expl seed (wasAt L sl) m h sh sl v p)).A.length c1], [.slice a2 (fgO (expl seed (wasAt L sl) m h sh sl v p)).B.length c2], [.bool (fgO (expl seed (wasAt L sl) m h sh sl v p)).k], [.int .i64 (fgO (expl seed (wasAt L sl) m h sh sl v p)).a], [.int .i64 (fgO (expl seed (wasAt L sl) m h sh sl v p)).c], [.int .i64 (fgO (expl seed (wasAt L sl) m h sh sl v p)).q], (fgO (expl seed (wasAt L sl) m h sh sl v p)).x.map bV], .bool (expl seed (wasAt L sl) m h sh sl v p).isSome]) ∧ Rd (F.ext H w.heap.size w') (.slice a1 (fgO (expl seed (wasAt L sl) m h sh sl v p)).A.length c1) (fgO (expl seed (wasAt L sl) m h sh sl v p)).A.length 1 ((fgO (expl seed (wasAt L sl) m h sh sl v p)).A.map bV) ∧ Rd (F.ext H w.heap.size w') (.slice a2 (fgO (expl seed (wasAt L sl) m h sh sl v p)).B.length c2) (fgO (expl seed (wasAt L sl) m h sh sl v p)).B.length 1 ((fgO (expl seed (wasAt L sl) m h sh sl v p)).B.map bV) ∧ Below w.heap.size w w' := by
 obtain rfl : nn2 = L.length := hL.len
 obtain rfl : nn3 = m.length := hv.lenB
 have hvcap : m.length ≤ cc3 := hv.capOf
 obtain rfl : n1 = v.length := h1.len
 obtain rfl : n2 = p.length := h2.len
 have hll := mleaves_len seed h.toNat
 have hp16 := pow16 (h := h) (by omega) (by omega)
 refine enter5 _ Tryz.func8 rfl Tryz.ntmps8 Tryz.results8 rfl ?_
 have S0 := St.start w hH
 refine Wr (Ah S0 fun b1 w2 S3 => ?_)
 refine Ah S3 fun b4 w5 S6 => ?_
 refine Ac S6 fun b7 w8 S9 => ?_
 refine Pv (Nr ?_)
 refine Ai (hl := by exact hVs hs) 2 S9 ?_
 refine Pv ?_
 refine Cs g_aumbry_mss_Print ((print_ok S9.le hT h hs (by omega)).mono ?_)
 rintro e w11 ⟨rfl, hB10⟩
 have S12 := S9.call hB10
 refine ⟨_, rfl, trivial, ?_⟩
 refine P3 ?_
 refine Ac S12 fun b13 w14 S15 => ?_
 refine Ag (hl := by exact hVs (mprint_len _ _)) (hl2 := by exact hVs (mprint_len _ _)) (h1 := by exact one_hA _) 0 S15 fun w16 S17 => ?_
 refine Pv (Nr ?_)
 refine Pv ?_
 refine Fl 1 ?_
 refine Aj 2 1 S17 rfl ?_
 refine Cs g_aumbry_mss_told ((told_ok S17.le hL sl).mono ?_)
 rintro e w23 ⟨a18, c19, hc20, rfl, hr21, hB22⟩
 have S24 := S17.call hB22
 refine ⟨_, rfl, trivial, ?_⟩
 refine Pv (T_nil (W_seq (Wr ?_)))
 refine P3 ?_
 refine T_bool 45 false rfl (ndec_f rfl) (Ys ?_)
 refine Ai (hl := by exact hVs (mprint_len _ _)) 0 S24 ?_
 refine Ys ?_
 refine Pv ?_
 refine Ys ?_
 refine Ai (hl := by first | rfl | simp [hVs, *]) 2 S24 ?_
 refine Ys ?_
 refine Cs g_aumbry_mss_Verify ((verify_ok S24.le hT (mprint_len _ _) sh sl h1 h2 hv (by omega)).mono ?_)
 rintro e w26 ⟨rfl, hB25⟩
 have S27 := S24.call hB25
 refine ⟨_, rfl, trivial, ?_⟩
 refine Ys ?_
 refine P3 ?_
 refine T_bool 52 true rfl (by rw [hvf]; rfl) ?_
 iterate 4 refine No ?_
 iterate 3 refine T_un rfl rfl rfl rfl rfl ?_
 refine No ?_
 refine Pv (T_nil ?_)
 refine W_cond_true rfl (Wr (T_buildS (cells := (gV [[.slice none 0 0], [.slice none 0 0], [.bool false], [.int .i64 0], [.int .i64 0], [.int .i64 0], (List.replicate 32 0).map bV] : Value).cells) rfl rfl rfl rfl rfl rfl fill_gnil rfl rfl rfl (Ag (hl := by exact gV_size (L := [[.slice none 0 0], [.slice none 0 0], [.bool false], [.int .i64 0], [.int .i64 0], [.int .i64 0], (List.replicate 32 0).map bV]) (ns := [1, 1, 1, 1, 1, 1, 32]) (Shp.cons rfl (Shp.cons rfl (Shp.cons rfl (Shp.cons rfl (Shp.cons rfl (Shp.cons rfl (Shp.cons (lenB List.length_replicate) Shp.nil))))))) rfl) (hl2 := by exact gV_size (L := [[.slice none 0 0], [.slice none 0 0], [.bool false], [.int .i64 0], [.int .i64 0], [.int .i64 0], (List.replicate 32 0).map bV]) (ns := [1, 1, 1, 1, 1, 1, 32]) (Shp.cons rfl (Shp.cons rfl (Shp.cons rfl (Shp.cons rfl (Shp.cons rfl (Shp.cons rfl (Shp.cons (lenB List.length_replicate) Shp.nil))))))) rfl) (h1 := by exact gV_one (OneL.one rfl (OneL.one rfl (OneL.one rfl (OneL.one rfl (OneL.one rfl (OneL.one rfl (OneL.arr OneL.nil)))))))) 1 S27 fun w28 S29 => ?_)))
 refine Pv (T_nil (W_ret ?_))
 refine ⟨_, ⟨_, _, _, rfl, rfl, run_loadVarA rfl rfl (gV_size (L := [[.slice none 0 0], [.slice none 0 0], [.bool false], [.int .i64 0], [.int .i64 0], [.int .i64 0], (List.replicate 32 0).map bV]) (ns := [1, 1, 1, 1, 1, 1, 32]) (Shp.cons rfl (Shp.cons rfl (Shp.cons rfl (Shp.cons rfl (Shp.cons rfl (Shp.cons rfl (Shp.cons (lenB List.length_replicate) Shp.nil))))))) rfl) (S29.cells 1 rfl), ⟨_, _, rfl, rfl, rfl⟩⟩, ?_⟩
 exact fg_end (f := fgO (expl seed (wasAt L sl) m h sh sl v p)) (b := (expl seed (wasAt L sl) m h sh sl v p).isSome) (f' := fg0) (by rw [expl_no1 (by rw [hvf]; exact fun x => by cases x)]; rfl) (by rw [expl_no1 (by rw [hvf]; exact fun x => by cases x)]; rfl) (nilB _) (nilB _) S29.fin S29.below


theorem explN2 {H : Hp} {w : World} (hH : H.le (hw w)) (hT : Tabs H) (h : Int) {seed : List UInt8} (hs : seed.length = 16) {L : List (List UInt8)} {aa2 : Option Addr} {nn2 cc2 : Nat} (hL : RdL H (.slice aa2 nn2 cc2) L) {m : List UInt8} {aa3 : Option Addr} {nn3 cc3 : Nat} (hv : Rd H (.slice aa3 nn3 cc3) nn3 1 (m.map bV)) (sh sl : Int) {v p : List (List UInt8)} {a1 a2 : Option Addr} {n1 n2 c1 c2 : Nat} (h1 : RdH H (.slice a1 n1 c1) 32 v) (h2 : RdH H (.slice a2 n2 c2) 32 p) (hm : 0 ≤ h ∧ h ≤ 4) (hml : m.length < 1000) (hLb : (wasAt L sl).length < 1000) (hvt : vrf (mprint seed h) m sh sl v p = true) (hW0 : 0 < (wasAt L sl).length) (hWm : (wasAt L sl) = m) :
  Calls Tryz.prog 8 #[hV seed, .int .i64 h, .slice aa2 nn2 cc2, .slice aa3 nn3 cc3, .agg #[.int .i64 sh, .int .i64 sl, .slice a1 n1 c1, .slice a2 n2 c2]] w fun e w' => ∃ a1 c1 a2 c2, e = .returned (.tuple #[gV [[.slice a1 (fgO (expl seed (wasAt L sl) m h sh sl v p)).A.length c1], [.slice a2 (fgO (expl seed (wasAt L sl) m h sh sl v p)).B.length c2], [.bool (fgO (expl seed (wasAt L sl) m h sh sl v p)).k], [.int .i64 (fgO (expl seed (wasAt L sl) m h sh sl v p)).a], [.int .i64 (fgO (expl seed (wasAt L sl) m h sh sl v p)).c], [.int .i64 (fgO (expl seed (wasAt L sl) m h sh sl v p)).q], (fgO (expl seed (wasAt L sl) m h sh sl v p)).x.map bV], .bool (expl seed (wasAt L sl) m h sh sl v p).isSome]) ∧ Rd (F.ext H w.heap.size w') (.slice a1 (fgO (expl seed (wasAt L sl) m h sh sl v p)).A.length c1) (fgO (expl seed (wasAt L sl) m h sh sl v p)).A.length 1 ((fgO (expl seed (wasAt L sl) m h sh sl v p)).A.map bV) ∧ Rd (F.ext H w.heap.size w') (.slice a2 (fgO (expl seed (wasAt L sl) m h sh sl v p)).B.length c2) (fgO (expl seed (wasAt L sl) m h sh sl v p)).B.length 1 ((fgO (expl seed (wasAt L sl) m h sh sl v p)).B.map bV) ∧ Below w.heap.size w w' := by
 obtain rfl : nn2 = L.length := hL.len
 obtain rfl : nn3 = m.length := hv.lenB
 have hvcap : m.length ≤ cc3 := hv.capOf
 obtain rfl : n1 = v.length := h1.len
 obtain rfl : n2 = p.length := h2.len
 have hll := mleaves_len seed h.toNat
 have hp16 := pow16 (h := h) (by omega) (by omega)
 refine enter5 _ Tryz.func8 rfl Tryz.ntmps8 Tryz.results8 rfl ?_
 have S0 := St.start w hH
 refine Wr (Ah S0 fun b1 w2 S3 => ?_)
 refine Ah S3 fun b4 w5 S6 => ?_
 refine Ac S6 fun b7 w8 S9 => ?_
 refine Pv (Nr ?_)
 refine Ai (hl := by exact hVs hs) 2 S9 ?_
 refine Pv ?_
 refine Cs g_aumbry_mss_Print ((print_ok S9.le hT h hs (by omega)).mono ?_)
 rintro e w11 ⟨rfl, hB10⟩
 have S12 := S9.call hB10
 refine ⟨_, rfl, trivial, ?_⟩
 refine P3 ?_
 refine Ac S12 fun b13 w14 S15 => ?_
 refine Ag (hl := by exact hVs (mprint_len _ _)) (hl2 := by exact hVs (mprint_len _ _)) (h1 := by exact one_hA _) 0 S15 fun w16 S17 => ?_
 refine Pv (Nr ?_)
 refine Pv ?_
 refine Fl 1 ?_
 refine Aj 2 1 S17 rfl ?_
 refine Cs g_aumbry_mss_told ((told_ok S17.le hL sl).mono ?_)
 rintro e w23 ⟨a18, c19, hc20, rfl, hr21, hB22⟩
 have S24 := S17.call hB22
 refine ⟨_, rfl, trivial, ?_⟩
 refine Pv (T_nil (W_seq (Wr ?_)))
 refine P3 ?_
 refine T_bool 45 false rfl (ndec_f rfl) (Ys ?_)
 refine Ai (hl := by exact hVs (mprint_len _ _)) 0 S24 ?_
 refine Ys ?_
 refine Pv ?_
 refine Ys ?_
 refine Ai (hl := by first | rfl | simp [hVs, *]) 2 S24 ?_
 refine Ys ?_
 refine Cs g_aumbry_mss_Verify ((verify_ok S24.le hT (mprint_len _ _) sh sl h1 h2 hv (by omega)).mono ?_)
 rintro e w26 ⟨rfl, hB25⟩
 have S27 := S24.call hB25
 refine ⟨_, rfl, trivial, ?_⟩
 refine Ys ?_
 refine P3 ?_
 refine T_bool 52 false rfl (by rw [hvt]; rfl) ?_
 iterate 4 (refine Ys ?_; refine Pv ?_)
 refine T_bool 56 true rfl (decide_eq_true (by omega)) ?_
 iterate 2 (refine Ys ?_; refine Pv ?_)
 refine Ys ?_
 refine Cs g_bytes_Equal ((beq_ok S27.le hr21 hv).mono ?_)
 rintro e w29 ⟨rfl, hB28⟩
 have S30 := S27.call hB28
 refine ⟨_, rfl, trivial, ?_⟩
 refine Ys ?_
 refine P2 (T_nil ?_)
 refine W_bool 61 true rfl (decide_eq_true hWm) (W_cond_true rfl (Wr (T_buildS (cells := (gV [[.slice none 0 0], [.slice none 0 0], [.bool false], [.int .i64 0], [.int .i64 0], [.int .i64 0], (List.replicate 32 0).map bV] : Value).cells) rfl rfl rfl rfl rfl rfl fill_gnil rfl rfl rfl (Ag (hl := by exact gV_size (L := [[.slice none 0 0], [.slice none 0 0], [.bool false], [.int .i64 0], [.int .i64 0], [.int .i64 0], (List.replicate 32 0).map bV]) (ns := [1, 1, 1, 1, 1, 1, 32]) (Shp.cons rfl (Shp.cons rfl (Shp.cons rfl (Shp.cons rfl (Shp.cons rfl (Shp.cons rfl (Shp.cons (lenB List.length_replicate) Shp.nil))))))) rfl) (hl2 := by exact gV_size (L := [[.slice none 0 0], [.slice none 0 0], [.bool false], [.int .i64 0], [.int .i64 0], [.int .i64 0], (List.replicate 32 0).map bV]) (ns := [1, 1, 1, 1, 1, 1, 32]) (Shp.cons rfl (Shp.cons rfl (Shp.cons rfl (Shp.cons rfl (Shp.cons rfl (Shp.cons rfl (Shp.cons (lenB List.length_replicate) Shp.nil))))))) rfl) (h1 := by exact gV_one (OneL.one rfl (OneL.one rfl (OneL.one rfl (OneL.one rfl (OneL.one rfl (OneL.one rfl (OneL.arr OneL.nil)))))))) 1 S30 fun w31 S32 => ?_))))
 refine Pv (T_nil (W_ret ?_))
 refine ⟨_, ⟨_, _, _, rfl, rfl, run_loadVarA rfl rfl (gV_size (L := [[.slice none 0 0], [.slice none 0 0], [.bool false], [.int .i64 0], [.int .i64 0], [.int .i64 0], (List.replicate 32 0).map bV]) (ns := [1, 1, 1, 1, 1, 1, 32]) (Shp.cons rfl (Shp.cons rfl (Shp.cons rfl (Shp.cons rfl (Shp.cons rfl (Shp.cons rfl (Shp.cons (lenB List.length_replicate) Shp.nil))))))) rfl) (S32.cells 1 rfl), ⟨_, _, rfl, rfl, rfl⟩⟩, ?_⟩
 exact fg_end (f := fgO (expl seed (wasAt L sl) m h sh sl v p)) (b := (expl seed (wasAt L sl) m h sh sl v p).isSome) (f' := fg0) (by rw [expl_no2 hW0 hWm]; rfl) (by rw [expl_no2 hW0 hWm]; rfl) (nilB _) (nilB _) S32.fin S32.below


set_option maxHeartbeats 2000000 in
theorem explE0 {H : Hp} {w : World} (hH : H.le (hw w)) (hT : Tabs H) (h : Int) {seed : List UInt8} (hs : seed.length = 16) {L : List (List UInt8)} {aa2 : Option Addr} {nn2 cc2 : Nat} (hL : RdL H (.slice aa2 nn2 cc2) L) {m : List UInt8} {aa3 : Option Addr} {nn3 cc3 : Nat} (hv : Rd H (.slice aa3 nn3 cc3) nn3 1 (m.map bV)) (sh sl : Int) {v p : List (List UInt8)} {a1 a2 : Option Addr} {n1 n2 c1 c2 : Nat} (h1 : RdH H (.slice a1 n1 c1) 32 v) (h2 : RdH H (.slice a2 n2 c2) 32 p) (hm : 0 ≤ h ∧ h ≤ 4) (hml : m.length < 1000) (hLb : (wasAt L sl).length < 1000) (hvt : vrf (mprint seed h) m sh sl v p = true) (h0 : (wasAt L sl).length = 0) :
  Calls Tryz.prog 8 #[hV seed, .int .i64 h, .slice aa2 nn2 cc2, .slice aa3 nn3 cc3, .agg #[.int .i64 sh, .int .i64 sl, .slice a1 n1 c1, .slice a2 n2 c2]] w fun e w' => ∃ a1 c1 a2 c2, e = .returned (.tuple #[gV [[.slice a1 (fgO (expl seed (wasAt L sl) m h sh sl v p)).A.length c1], [.slice a2 (fgO (expl seed (wasAt L sl) m h sh sl v p)).B.length c2], [.bool (fgO (expl seed (wasAt L sl) m h sh sl v p)).k], [.int .i64 (fgO (expl seed (wasAt L sl) m h sh sl v p)).a], [.int .i64 (fgO (expl seed (wasAt L sl) m h sh sl v p)).c], [.int .i64 (fgO (expl seed (wasAt L sl) m h sh sl v p)).q], (fgO (expl seed (wasAt L sl) m h sh sl v p)).x.map bV], .bool (expl seed (wasAt L sl) m h sh sl v p).isSome]) ∧ Rd (F.ext H w.heap.size w') (.slice a1 (fgO (expl seed (wasAt L sl) m h sh sl v p)).A.length c1) (fgO (expl seed (wasAt L sl) m h sh sl v p)).A.length 1 ((fgO (expl seed (wasAt L sl) m h sh sl v p)).A.map bV) ∧ Rd (F.ext H w.heap.size w') (.slice a2 (fgO (expl seed (wasAt L sl) m h sh sl v p)).B.length c2) (fgO (expl seed (wasAt L sl) m h sh sl v p)).B.length 1 ((fgO (expl seed (wasAt L sl) m h sh sl v p)).B.map bV) ∧ Below w.heap.size w w' := by
 have hnw : ¬ (0 < (wasAt L sl).length ∧ (wasAt L sl) = m) := fun x => absurd x.1 (by omega)
 obtain rfl : nn2 = L.length := hL.len
 obtain rfl : nn3 = m.length := hv.lenB
 have hvcap : m.length ≤ cc3 := hv.capOf
 obtain rfl : n1 = v.length := h1.len
 obtain rfl : n2 = p.length := h2.len
 have hll := mleaves_len seed h.toNat
 have hp16 := pow16 (h := h) (by omega) (by omega)
 have ho := vrf_ok hvt
 obtain ⟨hs4, h67, hk⟩ := okS_may ho
 have hk2 := okW_of hk
 have hsp16 := pow16 (h := sh) hs4.1 hs4.2
 have hE : (expl seed (wasAt L sl) m h sh sl v p) = some _ := expl_yes hvt hnw
 have hdl := digits_len m
 have hdw := digits_len (wasAt L sl)
 have het := trueEnds_len seed sl 67
 have hev := ends_len m v 67
 refine enter5 _ Tryz.func8 rfl Tryz.ntmps8 Tryz.results8 rfl ?_
 have S0 := St.start w hH
 refine Wr (Ah S0 fun b1 w2 S3 => ?_)
 refine Ah S3 fun b4 w5 S6 => ?_
 refine Ac S6 fun b7 w8 S9 => ?_
 refine Pv (T_nil (W_seq ?_))
 obtain ⟨G11, hl12, S10, r13⟩ := S9.stillBlk 2 rfl
 obtain ⟨G15, hl16, S14, r17⟩ := S10.stillBlk 1 rfl
 refine W_region (T_loadGA _ S14 (still_cells (hl16 _ _ r13)) rfl rfl rfl rfl rfl rfl rfl rfl (hVs hs) (Pv ?_))
 refine Cs g_aumbry_mss_Print ((print_ok S14.le (hT.mono (hl12.trans hl16)) h hs (by omega)).mono ?_)
 rintro e w19 ⟨rfl, hB18⟩
 have S20 := S14.call hB18
 refine ⟨_, rfl, trivial, ?_⟩
 refine P3 ?_
 refine Ac S20 fun b21 w22 S23 => ?_
 refine Ag (hl := by exact hVs (mprint_len _ _)) (hl2 := by exact hVs (mprint_len _ _)) (h1 := by exact one_hA _) 0 S23 fun w24 S25 => ?_
 refine Pv (Nr ?_)
 refine Pv ?_
 refine Fl 1 ?_
 refine Ab (r := by exact still_cell r17 rfl) S25 ?_
 refine Cs g_aumbry_mss_told ((told_ok S25.le (hL.mono (hl12.trans hl16)) sl).mono ?_)
 rintro e w31 ⟨a26, c27, hc28, rfl, hr29, hB30⟩
 have S32 := S25.call hB30
 refine ⟨_, rfl, trivial, ?_⟩
 refine Pv (T_nil ?_)
 iterate 2 refine W_seq ?_
 obtain ⟨G34, hl35, S33, r36⟩ := S32.stillBlk 0 rfl
 refine W_region (P3 ?_)
 refine T_bool 45 false rfl (ndec_f rfl) (Ys ?_)
 refine T_loadGA _ S33 (still_cells r36) rfl rfl rfl rfl rfl rfl rfl rfl (hVs (mprint_len _ _)) (Ys ?_)
 refine Pv ?_
 refine Ys ?_
 refine T_loadGA _ S33 (still_cells (hl35 _ _ r17)) rfl rfl rfl rfl rfl rfl rfl rfl (by first | rfl | simp [hVs, *]) ?_
 refine Ys ?_
 refine Cs g_aumbry_mss_Verify ((verify_ok S33.le (hT.mono (hl12.trans (hl16.trans hl35))) (mprint_len _ _) sh sl (h1.mono (hl12.trans (hl16.trans hl35))) (h2.mono (hl12.trans (hl16.trans hl35))) (hv.mono (hl12.trans (hl16.trans hl35))) (by omega)).mono ?_)
 rintro e w38 ⟨rfl, hB37⟩
 have S39 := S33.call hB37
 refine ⟨_, rfl, trivial, ?_⟩
 refine Ys ?_
 refine P3 ?_
 refine T_bool 52 false rfl (by rw [hvt]; rfl) ?_
 iterate 4 (refine Ys ?_; refine Pv ?_)
 refine T_bool 56 false rfl (decide_eq_false (by omega)) ?_
 iterate 3 refine No ?_
 refine Ys ?_
 refine P2 (T_nil ?_)
 refine W_cond_false rfl (W_skip (Wr (T_loadGA _ S39 (still_cells (hl35 _ _ (hl16 _ _ r13))) rfl rfl rfl rfl rfl rfl rfl rfl (hVs hs) (Pv ?_))))
 refine Cs g_aumbry_mss_Leaves ((leaves_ok S39.le (hT.mono (hl12.trans (hl16.trans hl35))) h hs (by omega)).mono ?_)
 rintro e w45 ⟨a40, c41, hc42, rfl, ho43, hB44⟩
 have S46 := S39.own hB44 ho43
 refine ⟨_, rfl, trivial, ?_⟩
 refine Pv (Nr ?_)
 refine Pv ?_
 refine T_loadGA _ S46 (still_cells (hl35 _ _ r17)) rfl rfl rfl rfl rfl rfl rfl rfl (by first | rfl | simp [hVs, *]) ?_
 refine Cs g_aumbry_mss_climb ((mclimb_ok S46.le (hT.mono (hl12.trans (hl16.trans hl35))) sh sl (h1.mono (hl12.trans (hl16.trans hl35))) (h2.mono (hl12.trans (hl16.trans hl35))) (hv.mono (hl12.trans (hl16.trans hl35))) (by omega)).mono ?_)
 rintro e w48 ⟨rfl, hB47⟩
 have S49 := S46.call hB47
 refine ⟨_, rfl, trivial, ?_⟩
 refine P3 ?_
 refine Ac S49 fun b50 w51 S52 => ?_
 refine Ag (hl := by exact hVs (climbS_len _ _ _ _ _)) (hl2 := by exact hVs (climbS_len _ _ _ _ _)) (h1 := by exact one_hA _) 0 S52 fun w53 S54 => ?_
 refine Pv (T_nil (W_seq ?_))
 refine W_j1 (fun ρ w' => ∃ (b102 : Nat) (a90 : Option Addr) (c91 : Nat) (a92 : Option Addr) (c93 : Nat) (G108 : Hp), ρ = [(1, .int .i64 h), (3, .slice aa3 m.length cc3), (5, .pointer (some ⟨b1, 0, none⟩)), (9, .pointer (some ⟨b4, 0, none⟩)), (10, .pointer (some ⟨b7, 0, none⟩)), (11, .bool false), (14, .slice a26 (wasAt L sl).length c27), (15, .slice a40 (2 ^ h.toNat) c41), (18, .pointer (some ⟨b102, 0, none⟩)), (19, .bool (!decide ((printT h (Go.Au.root (mleaves seed h.toNat))) = (printT sh (climbS m sh sl v p)))))] ∧ G34.le G108 ∧ St w H G108 [.blk b7 (gV [[.slice none 0 0], [.slice none 0 0], [.bool false], [.int .i64 0], [.int .i64 0], [.int .i64 0], (List.replicate 32 0).map bV] : Value).cells 39, .blk b102 (gV [[.slice a90 (twoF (printT h (Go.Au.root (mleaves seed h.toNat))) (printT sh (climbS m sh sl v p))).A.length c91], [.slice a92 (twoF (printT h (Go.Au.root (mleaves seed h.toNat))) (printT sh (climbS m sh sl v p))).B.length c93], [.bool ((twoF (printT h (Go.Au.root (mleaves seed h.toNat))) (printT sh (climbS m sh sl v p))).k)], [.int .i64 ((twoF (printT h (Go.Au.root (mleaves seed h.toNat))) (printT sh (climbS m sh sl v p))).a)], [.int .i64 ((twoF (printT h (Go.Au.root (mleaves seed h.toNat))) (printT sh (climbS m sh sl v p))).c)], [.int .i64 ((twoF (printT h (Go.Au.root (mleaves seed h.toNat))) (printT sh (climbS m sh sl v p))).q)], ((twoF (printT h (Go.Au.root (mleaves seed h.toNat))) (printT sh (climbS m sh sl v p))).x).map bV] : Value).cells 39] w' ∧ RdH G108 (.slice a40 (2 ^ h.toNat) c41) 32 (mleaves seed h.toNat) ∧ Rd G108 (.slice a90 (twoF (printT h (Go.Au.root (mleaves seed h.toNat))) (printT sh (climbS m sh sl v p))).A.length c91) ((twoF (printT h (Go.Au.root (mleaves seed h.toNat))) (printT sh (climbS m sh sl v p))).A.length) 1 (((twoF (printT h (Go.Au.root (mleaves seed h.toNat))) (printT sh (climbS m sh sl v p))).A).map bV) ∧ Rd G108 (.slice a92 (twoF (printT h (Go.Au.root (mleaves seed h.toNat))) (printT sh (climbS m sh sl v p))).B.length c93) ((twoF (printT h (Go.Au.root (mleaves seed h.toNat))) (printT sh (climbS m sh sl v p))).B.length) 1 (((twoF (printT h (Go.Au.root (mleaves seed h.toNat))) (printT sh (climbS m sh sl v p))).B).map bV)) ?_ (fun J112 => ?_)
 ·rintro ρ w111 ⟨b102, a90, c91, a92, c93, G108, rfl, hl109, S110, r113, r114, r115⟩
  refine Wr (Pv (T_nil ?_))
  refine W_cond rfl (fun h116 => ?_) (fun h116 => ?_)
  ·refine W_seq ?_
   have hn1 : ¬ printT h (Go.Au.root (mleaves seed h.toNat)) = printT sh (climbS m sh sl v p) := by simpa using h116
   refine W_region (Ai (hl := by exact gV_size (L := [[.slice a90 (twoF (printT h (Go.Au.root (mleaves seed h.toNat))) (printT sh (climbS m sh sl v p))).A.length c91], [.slice a92 (twoF (printT h (Go.Au.root (mleaves seed h.toNat))) (printT sh (climbS m sh sl v p))).B.length c93], [.bool ((twoF (printT h (Go.Au.root (mleaves seed h.toNat))) (printT sh (climbS m sh sl v p))).k)], [.int .i64 ((twoF (printT h (Go.Au.root (mleaves seed h.toNat))) (printT sh (climbS m sh sl v p))).a)], [.int .i64 ((twoF (printT h (Go.Au.root (mleaves seed h.toNat))) (printT sh (climbS m sh sl v p))).c)], [.int .i64 ((twoF (printT h (Go.Au.root (mleaves seed h.toNat))) (printT sh (climbS m sh sl v p))).q)], ((twoF (printT h (Go.Au.root (mleaves seed h.toNat))) (printT sh (climbS m sh sl v p))).x).map bV]) (ns := [1, 1, 1, 1, 1, 1, 32]) (Shp.cons rfl (Shp.cons rfl (Shp.cons rfl (Shp.cons rfl (Shp.cons rfl (Shp.cons rfl (Shp.cons (lenB (twoF_x _ _)) Shp.nil))))))) rfl) 1 S110 ?_)
   refine Ag (hl := by exact gV_size (L := [[.slice a90 (twoF (printT h (Go.Au.root (mleaves seed h.toNat))) (printT sh (climbS m sh sl v p))).A.length c91], [.slice a92 (twoF (printT h (Go.Au.root (mleaves seed h.toNat))) (printT sh (climbS m sh sl v p))).B.length c93], [.bool ((twoF (printT h (Go.Au.root (mleaves seed h.toNat))) (printT sh (climbS m sh sl v p))).k)], [.int .i64 ((twoF (printT h (Go.Au.root (mleaves seed h.toNat))) (printT sh (climbS m sh sl v p))).a)], [.int .i64 ((twoF (printT h (Go.Au.root (mleaves seed h.toNat))) (printT sh (climbS m sh sl v p))).c)], [.int .i64 ((twoF (printT h (Go.Au.root (mleaves seed h.toNat))) (printT sh (climbS m sh sl v p))).q)], ((twoF (printT h (Go.Au.root (mleaves seed h.toNat))) (printT sh (climbS m sh sl v p))).x).map bV]) (ns := [1, 1, 1, 1, 1, 1, 32]) (Shp.cons rfl (Shp.cons rfl (Shp.cons rfl (Shp.cons rfl (Shp.cons rfl (Shp.cons rfl (Shp.cons (lenB (twoF_x _ _)) Shp.nil))))))) rfl) (hl2 := by exact gV_size (L := [[.slice a90 (twoF (printT h (Go.Au.root (mleaves seed h.toNat))) (printT sh (climbS m sh sl v p))).A.length c91], [.slice a92 (twoF (printT h (Go.Au.root (mleaves seed h.toNat))) (printT sh (climbS m sh sl v p))).B.length c93], [.bool ((twoF (printT h (Go.Au.root (mleaves seed h.toNat))) (printT sh (climbS m sh sl v p))).k)], [.int .i64 ((twoF (printT h (Go.Au.root (mleaves seed h.toNat))) (printT sh (climbS m sh sl v p))).a)], [.int .i64 ((twoF (printT h (Go.Au.root (mleaves seed h.toNat))) (printT sh (climbS m sh sl v p))).c)], [.int .i64 ((twoF (printT h (Go.Au.root (mleaves seed h.toNat))) (printT sh (climbS m sh sl v p))).q)], ((twoF (printT h (Go.Au.root (mleaves seed h.toNat))) (printT sh (climbS m sh sl v p))).x).map bV]) (ns := [1, 1, 1, 1, 1, 1, 32]) (Shp.cons rfl (Shp.cons rfl (Shp.cons rfl (Shp.cons rfl (Shp.cons rfl (Shp.cons rfl (Shp.cons (lenB (twoF_x _ _)) Shp.nil))))))) rfl) (h1 := by exact gV_one (OneL.one rfl (OneL.one rfl (OneL.one rfl (OneL.one rfl (OneL.one rfl (OneL.one rfl (OneL.arr OneL.nil)))))))) 0 S110 fun w117 S118 => ?_
   refine Pv (T_nil (W_ret ?_))
   refine ⟨_, ⟨_, _, _, rfl, rfl, run_loadVarA rfl rfl (gV_size (L := [[.slice a90 (twoF (printT h (Go.Au.root (mleaves seed h.toNat))) (printT sh (climbS m sh sl v p))).A.length c91], [.slice a92 (twoF (printT h (Go.Au.root (mleaves seed h.toNat))) (printT sh (climbS m sh sl v p))).B.length c93], [.bool ((twoF (printT h (Go.Au.root (mleaves seed h.toNat))) (printT sh (climbS m sh sl v p))).k)], [.int .i64 ((twoF (printT h (Go.Au.root (mleaves seed h.toNat))) (printT sh (climbS m sh sl v p))).a)], [.int .i64 ((twoF (printT h (Go.Au.root (mleaves seed h.toNat))) (printT sh (climbS m sh sl v p))).c)], [.int .i64 ((twoF (printT h (Go.Au.root (mleaves seed h.toNat))) (printT sh (climbS m sh sl v p))).q)], ((twoF (printT h (Go.Au.root (mleaves seed h.toNat))) (printT sh (climbS m sh sl v p))).x).map bV]) (ns := [1, 1, 1, 1, 1, 1, 32]) (Shp.cons rfl (Shp.cons rfl (Shp.cons rfl (Shp.cons rfl (Shp.cons rfl (Shp.cons rfl (Shp.cons (lenB (twoF_x _ _)) Shp.nil))))))) rfl) (S118.cells 0 rfl), ⟨_, _, rfl, rfl, rfl⟩⟩, ?_⟩
   exact fg_end (f := fgO (expl seed (wasAt L sl) m h sh sl v p)) (b := (expl seed (wasAt L sl) m h sh sl v p).isSome) (f' := twoF (printT h (Go.Au.root (mleaves seed h.toNat))) (printT sh (climbS m sh sl v p))) (by rw [hE]; exact (explS_1 hn1).trans (twoF_ne hn1).symm) (by rw [hE]; rfl) r114 r115 S118.fin S118.below
  refine W_skip (W_seq ?_)
  have hp1 : printT h (Go.Au.root (mleaves seed h.toNat)) = printT sh (climbS m sh sl v p) := by simpa using h116
  have hhs := (printT_inj hm hs4 hp1).1
  have hsl2 : 0 ≤ sl ∧ sl < ((2 ^ h.toNat : Nat) : Int) := by rw [hhs]; exact ⟨hk2.1, hk2.2.1⟩
  refine W_region (Fl 1 ?_)
  refine Ab (r := by exact still_cell (hl109 _ _ (hl35 _ _ r17)) rfl) S110 ?_
  refine Pv ?_
  refine Cs g_aumbry_tree_Proof ((proof_ok S110.le (hT.mono (hl12.trans (hl16.trans (hl35.trans hl109)))) sl r113 (by omega) (by omega)).mono ?_)
  rintro e w124 ⟨a119, c120, hc121, rfl, ho122, hB123⟩
  have S125 := S110.own hB123 ho122
  refine ⟨_, rfl, trivial, ?_⟩
  iterate 5 refine Pv ?_
  refine Nr (Pv ?_)
  refine Fl 2 ?_
  refine Ab (r := by exact still_cell (hl109 _ _ (hl35 _ _ r17)) rfl) S125 ?_
  refine Cs g_aumbry_wots_Recover ((recover_ok S125.le (hT.mono (hl12.trans (hl16.trans (hl35.trans hl109)))) (hv.mono (hl12.trans (hl16.trans (hl35.trans hl109)))) (h1.mono (hl12.trans (hl16.trans (hl35.trans hl109)))) (by omega) (by omega)).mono ?_)
  rintro e w127 ⟨rfl, hB126⟩
  have S128 := S125.call hB126
  refine ⟨_, rfl, trivial, ?_⟩
  refine P3 ?_
  refine Ac S128 fun b129 w130 S131 => ?_
  refine Ag (hl := by exact hVs (pubH_len _)) (hl2 := by exact hVs (pubH_len _)) (h1 := by exact one_hA _) 0 S131 fun w132 S133 => ?_
  refine Pv (T_nil (W_seq ?_))
  refine W_j1 (fun ρ w' => ∃ (b161 : Nat) (a149 : Option Addr) (c150 : Nat) (a151 : Option Addr) (c152 : Nat) (G168 : Hp), ρ = [(3, .slice aa3 m.length cc3), (5, .pointer (some ⟨b1, 0, none⟩)), (9, .pointer (some ⟨b4, 0, none⟩)), (10, .pointer (some ⟨b7, 0, none⟩)), (11, .bool false), (14, .slice a26 (wasAt L sl).length c27), (24, .pointer (some ⟨b161, 0, none⟩)), (25, .bool ((brk ((2 ^ h.toNat : Nat) : Int) sl (pub seed sl) (pubH (ends m v 67)) (Go.Au.beside (rowP (mleaves seed h.toNat)) sl.toNat (lg (mleaves seed h.toNat).length)) p).isSome))] ∧ G108.le G168 ∧ St w H G168 [.blk b7 (gV [[.slice none 0 0], [.slice none 0 0], [.bool false], [.int .i64 0], [.int .i64 0], [.int .i64 0], (List.replicate 32 0).map bV] : Value).cells 39, .blk b161 (.agg #[.slice a149 (brA (brk ((2 ^ h.toNat : Nat) : Int) sl (pub seed sl) (pubH (ends m v 67)) (Go.Au.beside (rowP (mleaves seed h.toNat)) sl.toNat (lg (mleaves seed h.toNat).length)) p)).length c150, .slice a151 (brB (brk ((2 ^ h.toNat : Nat) : Int) sl (pub seed sl) (pubH (ends m v 67)) (Go.Au.beside (rowP (mleaves seed h.toNat)) sl.toNat (lg (mleaves seed h.toNat).length)) p)).length c152] : Value).cells 35] w' ∧ Rd G168 (.slice a149 (brA (brk ((2 ^ h.toNat : Nat) : Int) sl (pub seed sl) (pubH (ends m v 67)) (Go.Au.beside (rowP (mleaves seed h.toNat)) sl.toNat (lg (mleaves seed h.toNat).length)) p)).length c150) ((brA (brk ((2 ^ h.toNat : Nat) : Int) sl (pub seed sl) (pubH (ends m v 67)) (Go.Au.beside (rowP (mleaves seed h.toNat)) sl.toNat (lg (mleaves seed h.toNat).length)) p)).length) 1 ((brA (brk ((2 ^ h.toNat : Nat) : Int) sl (pub seed sl) (pubH (ends m v 67)) (Go.Au.beside (rowP (mleaves seed h.toNat)) sl.toNat (lg (mleaves seed h.toNat).length)) p)).map bV) ∧ Rd G168 (.slice a151 (brB (brk ((2 ^ h.toNat : Nat) : Int) sl (pub seed sl) (pubH (ends m v 67)) (Go.Au.beside (rowP (mleaves seed h.toNat)) sl.toNat (lg (mleaves seed h.toNat).length)) p)).length c152) ((brB (brk ((2 ^ h.toNat : Nat) : Int) sl (pub seed sl) (pubH (ends m v 67)) (Go.Au.beside (rowP (mleaves seed h.toNat)) sl.toNat (lg (mleaves seed h.toNat).length)) p)).length) 1 ((brB (brk ((2 ^ h.toNat : Nat) : Int) sl (pub seed sl) (pubH (ends m v 67)) (Go.Au.beside (rowP (mleaves seed h.toNat)) sl.toNat (lg (mleaves seed h.toNat).length)) p)).map bV)) ?_ (fun J172 => ?_)
  ·rintro ρ w171 ⟨b161, a149, c150, a151, c152, G168, rfl, hl169, S170, r173, r174⟩
   refine Wr (Pv (T_nil ?_))
   refine W_cond rfl (fun h175 => ?_) (fun h175 => ?_)
   ·refine W_seq ?_
    have hb2 : (brkS seed m h sl v p).isSome = true := h175
    refine W_region (Ai (hl := by first | rfl | simp [hVs, *]) 1 S170 ?_)
    refine T_buildS (cells := (gV [[.slice a149 (brA (brk ((2 ^ h.toNat : Nat) : Int) sl (pub seed sl) (pubH (ends m v 67)) (Go.Au.beside (rowP (mleaves seed h.toNat)) sl.toNat (lg (mleaves seed h.toNat).length)) p)).length c150], [.slice a151 (brB (brk ((2 ^ h.toNat : Nat) : Int) sl (pub seed sl) (pubH (ends m v 67)) (Go.Au.beside (rowP (mleaves seed h.toNat)) sl.toNat (lg (mleaves seed h.toNat).length)) p)).length c152], [.bool false], [.int .i64 0], [.int .i64 0], [.int .i64 0], (List.replicate 32 0).map bV] : Value).cells) rfl rfl rfl rfl rfl rfl (fill_g (L := [[.slice none 0 0], [.slice none 0 0], [.bool false], [.int .i64 0], [.int .i64 0], [.int .i64 0], (List.replicate 32 0).map bV]) (ns := [1, 1, 1, 1, 1, 1, 32]) (v := .agg #[.slice a149 (brA (brk ((2 ^ h.toNat : Nat) : Int) sl (pub seed sl) (pubH (ends m v 67)) (Go.Au.beside (rowP (mleaves seed h.toNat)) sl.toNat (lg (mleaves seed h.toNat).length)) p)).length c150, .slice a151 (brB (brk ((2 ^ h.toNat : Nat) : Int) sl (pub seed sl) (pubH (ends m v 67)) (Go.Au.beside (rowP (mleaves seed h.toNat)) sl.toNat (lg (mleaves seed h.toNat).length)) p)).length c152]) (off := 0) (k := 2) rfl (Shp.cons rfl (Shp.cons rfl (Shp.cons rfl (Shp.cons rfl (Shp.cons rfl (Shp.cons rfl (Shp.cons (lenB List.length_replicate) Shp.nil))))))) 0 2 [[.slice a149 (brA (brk ((2 ^ h.toNat : Nat) : Int) sl (pub seed sl) (pubH (ends m v 67)) (Go.Au.beside (rowP (mleaves seed h.toNat)) sl.toNat (lg (mleaves seed h.toNat).length)) p)).length c150], [.slice a151 (brB (brk ((2 ^ h.toNat : Nat) : Int) sl (pub seed sl) (pubH (ends m v 67)) (Go.Au.beside (rowP (mleaves seed h.toNat)) sl.toNat (lg (mleaves seed h.toNat).length)) p)).length c152]] rfl (by first | rfl | simp [hVs, *]) rfl rfl fill_gnil) rfl rfl rfl ?_
    refine Ag (hl := by exact gV_size (L := [[.slice a149 (brA (brk ((2 ^ h.toNat : Nat) : Int) sl (pub seed sl) (pubH (ends m v 67)) (Go.Au.beside (rowP (mleaves seed h.toNat)) sl.toNat (lg (mleaves seed h.toNat).length)) p)).length c150], [.slice a151 (brB (brk ((2 ^ h.toNat : Nat) : Int) sl (pub seed sl) (pubH (ends m v 67)) (Go.Au.beside (rowP (mleaves seed h.toNat)) sl.toNat (lg (mleaves seed h.toNat).length)) p)).length c152], [.bool false], [.int .i64 0], [.int .i64 0], [.int .i64 0], (List.replicate 32 0).map bV]) (ns := [1, 1, 1, 1, 1, 1, 32]) (Shp.cons rfl (Shp.cons rfl (Shp.cons rfl (Shp.cons rfl (Shp.cons rfl (Shp.cons rfl (Shp.cons (lenB List.length_replicate) Shp.nil))))))) rfl) (hl2 := by exact gV_size (L := [[.slice a149 (brA (brk ((2 ^ h.toNat : Nat) : Int) sl (pub seed sl) (pubH (ends m v 67)) (Go.Au.beside (rowP (mleaves seed h.toNat)) sl.toNat (lg (mleaves seed h.toNat).length)) p)).length c150], [.slice a151 (brB (brk ((2 ^ h.toNat : Nat) : Int) sl (pub seed sl) (pubH (ends m v 67)) (Go.Au.beside (rowP (mleaves seed h.toNat)) sl.toNat (lg (mleaves seed h.toNat).length)) p)).length c152], [.bool false], [.int .i64 0], [.int .i64 0], [.int .i64 0], (List.replicate 32 0).map bV]) (ns := [1, 1, 1, 1, 1, 1, 32]) (Shp.cons rfl (Shp.cons rfl (Shp.cons rfl (Shp.cons rfl (Shp.cons rfl (Shp.cons rfl (Shp.cons (lenB List.length_replicate) Shp.nil))))))) rfl) (h1 := by exact gV_one (OneL.one rfl (OneL.one rfl (OneL.one rfl (OneL.one rfl (OneL.one rfl (OneL.one rfl (OneL.arr OneL.nil)))))))) 0 S170 fun w176 S177 => ?_
    refine Pv (T_nil (W_ret ?_))
    refine ⟨_, ⟨_, _, _, rfl, rfl, run_loadVarA rfl rfl (gV_size (L := [[.slice a149 (brA (brk ((2 ^ h.toNat : Nat) : Int) sl (pub seed sl) (pubH (ends m v 67)) (Go.Au.beside (rowP (mleaves seed h.toNat)) sl.toNat (lg (mleaves seed h.toNat).length)) p)).length c150], [.slice a151 (brB (brk ((2 ^ h.toNat : Nat) : Int) sl (pub seed sl) (pubH (ends m v 67)) (Go.Au.beside (rowP (mleaves seed h.toNat)) sl.toNat (lg (mleaves seed h.toNat).length)) p)).length c152], [.bool false], [.int .i64 0], [.int .i64 0], [.int .i64 0], (List.replicate 32 0).map bV]) (ns := [1, 1, 1, 1, 1, 1, 32]) (Shp.cons rfl (Shp.cons rfl (Shp.cons rfl (Shp.cons rfl (Shp.cons rfl (Shp.cons rfl (Shp.cons (lenB List.length_replicate) Shp.nil))))))) rfl) (S177.cells 0 rfl), ⟨_, _, rfl, rfl, rfl⟩⟩, ?_⟩
    exact fg_end (f := fgO (expl seed (wasAt L sl) m h sh sl v p)) (b := (expl seed (wasAt L sl) m h sh sl v p).isSome) (f' := fgB (brA (brkS seed m h sl v p)) (brB (brkS seed m h sl v p))) (by rw [hE]; exact explS_2 hp1 hb2) (by rw [hE]; rfl) r173 r174 S177.fin S177.below
   refine W_skip (W_seq ?_)
   have hb2 : (brkS seed m h sl v p).isSome = false := h175
   refine W_region (Pv ?_)
   refine Fl 2 ?_
   refine Ab (r := by exact still_cell (hl169 _ _ (hl109 _ _ (hl35 _ _ r17))) rfl) S170 ?_
   refine Cs g_aumbry_wots_Ends ((ends_ok S170.le (hT.mono (hl12.trans (hl16.trans (hl35.trans (hl109.trans hl169))))) (hv.mono (hl12.trans (hl16.trans (hl35.trans (hl109.trans hl169))))) (h1.mono (hl12.trans (hl16.trans (hl35.trans (hl109.trans hl169))))) (by omega) (by omega)).mono ?_)
   rintro e w183 ⟨a178, c179, hc180, rfl, ho181, hB182⟩
   have S184 := S170.own hB182 ho181
   refine ⟨_, rfl, trivial, ?_⟩
   iterate 5 refine Pv ?_
   refine T_nil (W_seq (Wr (T_loadGA _ S184 (still_cells (hl169 _ _ (hl109 _ _ (hl35 _ _ (hl16 _ _ r13))))) rfl rfl rfl rfl rfl rfl rfl rfl (hVs hs) (Fl 1 ?_))))
   refine Ab (r := by exact still_cell (hl169 _ _ (hl109 _ _ (hl35 _ _ r17))) rfl) S184 ?_
   refine Cs g_aumbry_mss_trueEnds ((trueE_ok S184.le (hT.mono (hl12.trans (hl16.trans (hl35.trans (hl109.trans hl169))))) sl hs (by omega)).mono ?_)
   rintro e w190 ⟨a185, c186, hc187, rfl, ho188, hB189⟩
   have S191 := S184.own hB189 ho188
   refine ⟨_, rfl, trivial, ?_⟩
   obtain ⟨G193, hl194, S192, r195⟩ := S191.stillRow 0 rfl
   have r196 := RdH.mk (trueEnds_all _ _ _) (by decide) r195
   refine Cs g_aumbry_mss_ends ((mssEnds_ok S192.le (hT.mono (hl12.trans (hl16.trans (hl35.trans (hl109.trans (hl169.trans hl194)))))) r196 (by omega)).mono ?_)
   rintro e w202 ⟨a197, c198, hc199, rfl, ho200, hB201⟩
   have S203 := S192.own hB201 ho200
   refine ⟨_, rfl, trivial, ?_⟩
   refine Pv ?_
   obtain ⟨G205, hl206, S204, r207⟩ := S203.stillRow 1 rfl
   have r208 := RdH.mk (ends_all (h1.mono (hl12.trans (hl16.trans (hl35.trans (hl109.trans hl169))))).1 (by omega)) (by decide) r207
   refine Cs g_aumbry_mss_ends ((mssEnds_ok S204.le (hT.mono (hl12.trans (hl16.trans (hl35.trans (hl109.trans (hl169.trans (hl194.trans hl206))))))) r208 (by omega)).mono ?_)
   rintro e w214 ⟨a209, c210, hc211, rfl, ho212, hB213⟩
   have S215 := S204.own hB213 ho212
   refine ⟨_, rfl, trivial, ?_⟩
   obtain ⟨G217, hl218, S216, r219⟩ := S215.stillRow 1 rfl
   obtain ⟨G221, hl222, S220, r223⟩ := S216.stillRow 0 rfl
   refine Cs g_aumbry_mss_two ((two_ok S220.le (r219.mono hl222) r223).mono ?_)
   rintro e w231 ⟨a224, c225, a226, c227, rfl, r228, r229, hB230⟩
   obtain ⟨G233, eG235⟩ : ∃ G, G = F.ext G221 w214.heap.size w231 := ⟨_, rfl⟩
   obtain ⟨hl234, S232⟩ := S220.ext hB230
   rw [← eG235] at hl234 S232 r228 r229
   refine ⟨_, rfl, trivial, ?_⟩
   refine P3 ?_
   refine Ac S232 fun b236 w237 S238 => ?_
   refine Ag (hl := by exact gV_size (L := [[.slice a224 (twoF (pubT (trueEnds seed sl 67)) (pubT (ends m v 67))).A.length c225], [.slice a226 (twoF (pubT (trueEnds seed sl 67)) (pubT (ends m v 67))).B.length c227], [.bool ((twoF (pubT (trueEnds seed sl 67)) (pubT (ends m v 67))).k)], [.int .i64 ((twoF (pubT (trueEnds seed sl 67)) (pubT (ends m v 67))).a)], [.int .i64 ((twoF (pubT (trueEnds seed sl 67)) (pubT (ends m v 67))).c)], [.int .i64 ((twoF (pubT (trueEnds seed sl 67)) (pubT (ends m v 67))).q)], ((twoF (pubT (trueEnds seed sl 67)) (pubT (ends m v 67))).x).map bV]) (ns := [1, 1, 1, 1, 1, 1, 32]) (Shp.cons rfl (Shp.cons rfl (Shp.cons rfl (Shp.cons rfl (Shp.cons rfl (Shp.cons rfl (Shp.cons (lenB (twoF_x _ _)) Shp.nil))))))) rfl) (hl2 := by exact gV_size (L := [[.slice a224 (twoF (pubT (trueEnds seed sl 67)) (pubT (ends m v 67))).A.length c225], [.slice a226 (twoF (pubT (trueEnds seed sl 67)) (pubT (ends m v 67))).B.length c227], [.bool ((twoF (pubT (trueEnds seed sl 67)) (pubT (ends m v 67))).k)], [.int .i64 ((twoF (pubT (trueEnds seed sl 67)) (pubT (ends m v 67))).a)], [.int .i64 ((twoF (pubT (trueEnds seed sl 67)) (pubT (ends m v 67))).c)], [.int .i64 ((twoF (pubT (trueEnds seed sl 67)) (pubT (ends m v 67))).q)], ((twoF (pubT (trueEnds seed sl 67)) (pubT (ends m v 67))).x).map bV]) (ns := [1, 1, 1, 1, 1, 1, 32]) (Shp.cons rfl (Shp.cons rfl (Shp.cons rfl (Shp.cons rfl (Shp.cons rfl (Shp.cons rfl (Shp.cons (lenB (twoF_x _ _)) Shp.nil))))))) rfl) (h1 := by exact gV_one (OneL.one rfl (OneL.one rfl (OneL.one rfl (OneL.one rfl (OneL.one rfl (OneL.one rfl (OneL.arr OneL.nil)))))))) 0 S238 fun w239 S240 => ?_
   refine Pv (Nr ?_)
   refine Pv (T_nil ?_)
   refine W_cond rfl (fun h241 => ?_) (fun h241 => ?_)
   ·refine W_seq ?_
    have hn3 : ¬ pubT (trueEnds seed sl 67) = pubT (ends m v 67) := by simpa using h241
    refine W_region (Ai (hl := by exact gV_size (L := [[.slice a224 (twoF (pubT (trueEnds seed sl 67)) (pubT (ends m v 67))).A.length c225], [.slice a226 (twoF (pubT (trueEnds seed sl 67)) (pubT (ends m v 67))).B.length c227], [.bool ((twoF (pubT (trueEnds seed sl 67)) (pubT (ends m v 67))).k)], [.int .i64 ((twoF (pubT (trueEnds seed sl 67)) (pubT (ends m v 67))).a)], [.int .i64 ((twoF (pubT (trueEnds seed sl 67)) (pubT (ends m v 67))).c)], [.int .i64 ((twoF (pubT (trueEnds seed sl 67)) (pubT (ends m v 67))).q)], ((twoF (pubT (trueEnds seed sl 67)) (pubT (ends m v 67))).x).map bV]) (ns := [1, 1, 1, 1, 1, 1, 32]) (Shp.cons rfl (Shp.cons rfl (Shp.cons rfl (Shp.cons rfl (Shp.cons rfl (Shp.cons rfl (Shp.cons (lenB (twoF_x _ _)) Shp.nil))))))) rfl) 0 S240 ?_)
    refine Ag (hl := by exact gV_size (L := [[.slice a224 (twoF (pubT (trueEnds seed sl 67)) (pubT (ends m v 67))).A.length c225], [.slice a226 (twoF (pubT (trueEnds seed sl 67)) (pubT (ends m v 67))).B.length c227], [.bool ((twoF (pubT (trueEnds seed sl 67)) (pubT (ends m v 67))).k)], [.int .i64 ((twoF (pubT (trueEnds seed sl 67)) (pubT (ends m v 67))).a)], [.int .i64 ((twoF (pubT (trueEnds seed sl 67)) (pubT (ends m v 67))).c)], [.int .i64 ((twoF (pubT (trueEnds seed sl 67)) (pubT (ends m v 67))).q)], ((twoF (pubT (trueEnds seed sl 67)) (pubT (ends m v 67))).x).map bV]) (ns := [1, 1, 1, 1, 1, 1, 32]) (Shp.cons rfl (Shp.cons rfl (Shp.cons rfl (Shp.cons rfl (Shp.cons rfl (Shp.cons rfl (Shp.cons (lenB (twoF_x _ _)) Shp.nil))))))) rfl) (hl2 := by exact gV_size (L := [[.slice a224 (twoF (pubT (trueEnds seed sl 67)) (pubT (ends m v 67))).A.length c225], [.slice a226 (twoF (pubT (trueEnds seed sl 67)) (pubT (ends m v 67))).B.length c227], [.bool ((twoF (pubT (trueEnds seed sl 67)) (pubT (ends m v 67))).k)], [.int .i64 ((twoF (pubT (trueEnds seed sl 67)) (pubT (ends m v 67))).a)], [.int .i64 ((twoF (pubT (trueEnds seed sl 67)) (pubT (ends m v 67))).c)], [.int .i64 ((twoF (pubT (trueEnds seed sl 67)) (pubT (ends m v 67))).q)], ((twoF (pubT (trueEnds seed sl 67)) (pubT (ends m v 67))).x).map bV]) (ns := [1, 1, 1, 1, 1, 1, 32]) (Shp.cons rfl (Shp.cons rfl (Shp.cons rfl (Shp.cons rfl (Shp.cons rfl (Shp.cons rfl (Shp.cons (lenB (twoF_x _ _)) Shp.nil))))))) rfl) (h1 := by exact gV_one (OneL.one rfl (OneL.one rfl (OneL.one rfl (OneL.one rfl (OneL.one rfl (OneL.one rfl (OneL.arr OneL.nil)))))))) 1 S240 fun w242 S243 => ?_
    refine Pv (T_nil (W_ret ?_))
    refine ⟨_, ⟨_, _, _, rfl, rfl, run_loadVarA rfl rfl (gV_size (L := [[.slice a224 (twoF (pubT (trueEnds seed sl 67)) (pubT (ends m v 67))).A.length c225], [.slice a226 (twoF (pubT (trueEnds seed sl 67)) (pubT (ends m v 67))).B.length c227], [.bool ((twoF (pubT (trueEnds seed sl 67)) (pubT (ends m v 67))).k)], [.int .i64 ((twoF (pubT (trueEnds seed sl 67)) (pubT (ends m v 67))).a)], [.int .i64 ((twoF (pubT (trueEnds seed sl 67)) (pubT (ends m v 67))).c)], [.int .i64 ((twoF (pubT (trueEnds seed sl 67)) (pubT (ends m v 67))).q)], ((twoF (pubT (trueEnds seed sl 67)) (pubT (ends m v 67))).x).map bV]) (ns := [1, 1, 1, 1, 1, 1, 32]) (Shp.cons rfl (Shp.cons rfl (Shp.cons rfl (Shp.cons rfl (Shp.cons rfl (Shp.cons rfl (Shp.cons (lenB (twoF_x _ _)) Shp.nil))))))) rfl) (S243.cells 1 rfl), ⟨_, _, rfl, rfl, rfl⟩⟩, ?_⟩
    exact fg_end (f := fgO (expl seed (wasAt L sl) m h sh sl v p)) (b := (expl seed (wasAt L sl) m h sh sl v p).isSome) (f' := twoF (pubT (trueEnds seed sl 67)) (pubT (ends m v 67))) (by rw [hE]; exact (explS_3 hp1 hb2 hn3).trans (twoF_ne hn3).symm) (by rw [hE]; rfl) r228 r229 S243.fin S243.below
   refine W_skip (W_seq ?_)
   have hp3 : pubT (trueEnds seed sl 67) = pubT (ends m v 67) := by simpa using h241
   refine W_region (Pv ?_)
   refine Cs g_aumbry_wots_Digits ((digits_w_ok S240.le (hT.mono (hl12.trans (hl16.trans (hl35.trans (hl109.trans (hl169.trans (hl194.trans (hl206.trans (hl218.trans (hl222.trans hl234)))))))))) (hv.mono (hl12.trans (hl16.trans (hl35.trans (hl109.trans (hl169.trans (hl194.trans (hl206.trans (hl218.trans (hl222.trans hl234)))))))))) (by omega)).mono ?_)
   rintro e w249 ⟨a244, c245, hc246, rfl, ho247, hB248⟩
   have S250 := S240.own hB248 ho247
   refine ⟨_, rfl, trivial, ?_⟩
   refine Pv (Nr ?_)
   refine Pv (T_nil (W_seq (Wr ?_)))
   refine P3 (T_nil ?_)
   refine W_bool 144 false rfl (decide_eq_false (by omega)) ?_
   refine W_cond_false rfl (W_skip (W_seq ?_))
   have hdk := digits_at m 0 (by omega)
   refine W_draw rfl (by kernel_rfl) ?_
   have S251 := S250.drew
   refine T_loadGA _ S251 (still_cells (hl234 _ _ (hl222 _ _ (hl218 _ _ (hl206 _ _ (hl194 _ _ (hl169 _ _ (hl109 _ _ (hl35 _ _ (hl16 _ _ r13)))))))))) rfl rfl rfl rfl rfl rfl rfl rfl (hVs hs) (Fl 1 ?_)
   refine Ab (r := by exact still_cell (hl234 _ _ (hl222 _ _ (hl218 _ _ (hl206 _ _ (hl194 _ _ (hl169 _ _ (hl109 _ _ (hl35 _ _ r17)))))))) rfl) S251 ?_
   refine P3 ?_
   obtain ⟨G253, hl254, S252, r255⟩ := S251.stillRow 0 rfl
   refine Af 0 r255 fun b256 o257 hc258 => ?_
   have hc259 := hc258 0 (.int .i64 ((Go.Au.digits m).getD 0 0)) (at_i (Go.Au.digits m) 0 (by omega))
   simp only [Nat.add_zero] at hc259
   refine Ab (r := by exact hc259) S252 ?_
   refine T_re (v' := .int .i64 ((((Go.Au.digits m).getD 0 0).toNat : Nat) : Int)) (congrArg (Value.int .i64) (by omega)) ?_
   refine Fl 2 ?_
   refine Ab (r := by exact still_cell (hl254 _ _ (hl234 _ _ (hl222 _ _ (hl218 _ _ (hl206 _ _ (hl194 _ _ (hl169 _ _ (hl109 _ _ (hl35 _ _ r17))))))))) rfl) S252 ?_
   refine Pv ?_
   refine Af 0 (h1.mono (hl12.trans (hl16.trans (hl35.trans (hl109.trans (hl169.trans (hl194.trans (hl206.trans (hl218.trans (hl222.trans (hl234.trans hl254))))))))))).2 fun b260 o261 hc262 => ?_
   have hc263 := cells_h (h1.mono (hl12.trans (hl16.trans (hl35.trans (hl109.trans (hl169.trans (hl194.trans (hl206.trans (hl218.trans (hl222.trans (hl234.trans hl254))))))))))).1 0 (by omega) hc262
   have hl264 := len_h (h1.mono (hl12.trans (hl16.trans (hl35.trans (hl109.trans (hl169.trans (hl194.trans (hl206.trans (hl218.trans (hl222.trans (hl234.trans hl254))))))))))).1 0 (by omega)
   refine T_loadGA _ S252 hc263 rfl rfl rfl rfl rfl rfl rfl rfl (hVs hl264) (Cs g_aumbry_mss_step ((step_ok2 S252.le (hT.mono (hl12.trans (hl16.trans (hl35.trans (hl109.trans (hl169.trans (hl194.trans (hl206.trans (hl218.trans (hl222.trans (hl234.trans hl254))))))))))) hs hl264 sl (0 : Int) (((Go.Au.digits m).getD 0 0).toNat) (by omega) (by omega) (by omega)).mono ?_))
   rintro e w272 ⟨a265, c266, a267, c268, rfl, r269, r270, hB271⟩
   obtain ⟨G274, eG276⟩ : ∃ G, G = F.ext G253 w249.drew.heap.size w272 := ⟨_, rfl⟩
   obtain ⟨hl275, S273⟩ := S252.ext hB271
   rw [← eG276] at hl275 S273 r269 r270
   refine ⟨_, rfl, trivial, ?_⟩
   refine Ag (hl := by exact gV_size (L := [[.slice a265 (stepF seed sl (0 : Int) (((Go.Au.digits m).getD 0 0).toNat) (v.getD 0 [])).A.length c266], [.slice a267 (stepF seed sl (0 : Int) (((Go.Au.digits m).getD 0 0).toNat) (v.getD 0 [])).B.length c268], [.bool ((stepF seed sl (0 : Int) (((Go.Au.digits m).getD 0 0).toNat) (v.getD 0 [])).k)], [.int .i64 ((stepF seed sl (0 : Int) (((Go.Au.digits m).getD 0 0).toNat) (v.getD 0 [])).a)], [.int .i64 ((stepF seed sl (0 : Int) (((Go.Au.digits m).getD 0 0).toNat) (v.getD 0 [])).c)], [.int .i64 ((stepF seed sl (0 : Int) (((Go.Au.digits m).getD 0 0).toNat) (v.getD 0 [])).q)], ((stepF seed sl (0 : Int) (((Go.Au.digits m).getD 0 0).toNat) (v.getD 0 [])).x).map bV]) (ns := [1, 1, 1, 1, 1, 1, 32]) (Shp.cons rfl (Shp.cons rfl (Shp.cons rfl (Shp.cons rfl (Shp.cons rfl (Shp.cons rfl (Shp.cons (lenB (stepTo_ok hl264 _).2) Shp.nil))))))) rfl) (hl2 := by exact gV_size (L := [[.slice a265 (stepF seed sl (0 : Int) (((Go.Au.digits m).getD 0 0).toNat) (v.getD 0 [])).A.length c266], [.slice a267 (stepF seed sl (0 : Int) (((Go.Au.digits m).getD 0 0).toNat) (v.getD 0 [])).B.length c268], [.bool ((stepF seed sl (0 : Int) (((Go.Au.digits m).getD 0 0).toNat) (v.getD 0 [])).k)], [.int .i64 ((stepF seed sl (0 : Int) (((Go.Au.digits m).getD 0 0).toNat) (v.getD 0 [])).a)], [.int .i64 ((stepF seed sl (0 : Int) (((Go.Au.digits m).getD 0 0).toNat) (v.getD 0 [])).c)], [.int .i64 ((stepF seed sl (0 : Int) (((Go.Au.digits m).getD 0 0).toNat) (v.getD 0 [])).q)], ((stepF seed sl (0 : Int) (((Go.Au.digits m).getD 0 0).toNat) (v.getD 0 [])).x).map bV]) (ns := [1, 1, 1, 1, 1, 1, 32]) (Shp.cons rfl (Shp.cons rfl (Shp.cons rfl (Shp.cons rfl (Shp.cons rfl (Shp.cons rfl (Shp.cons (lenB (stepTo_ok hl264 _).2) Shp.nil))))))) rfl) (h1 := by exact gV_one (OneL.one rfl (OneL.one rfl (OneL.one rfl (OneL.one rfl (OneL.one rfl (OneL.one rfl (OneL.arr OneL.nil)))))))) 1 S273 fun w277 S278 => ?_
   refine Pv (T_nil (W_ret ?_))
   refine ⟨_, ⟨_, _, _, rfl, rfl, run_loadVarA rfl rfl (gV_size (L := [[.slice a265 (stepF seed sl (0 : Int) (((Go.Au.digits m).getD 0 0).toNat) (v.getD 0 [])).A.length c266], [.slice a267 (stepF seed sl (0 : Int) (((Go.Au.digits m).getD 0 0).toNat) (v.getD 0 [])).B.length c268], [.bool ((stepF seed sl (0 : Int) (((Go.Au.digits m).getD 0 0).toNat) (v.getD 0 [])).k)], [.int .i64 ((stepF seed sl (0 : Int) (((Go.Au.digits m).getD 0 0).toNat) (v.getD 0 [])).a)], [.int .i64 ((stepF seed sl (0 : Int) (((Go.Au.digits m).getD 0 0).toNat) (v.getD 0 [])).c)], [.int .i64 ((stepF seed sl (0 : Int) (((Go.Au.digits m).getD 0 0).toNat) (v.getD 0 [])).q)], ((stepF seed sl (0 : Int) (((Go.Au.digits m).getD 0 0).toNat) (v.getD 0 [])).x).map bV]) (ns := [1, 1, 1, 1, 1, 1, 32]) (Shp.cons rfl (Shp.cons rfl (Shp.cons rfl (Shp.cons rfl (Shp.cons rfl (Shp.cons rfl (Shp.cons (lenB (stepTo_ok hl264 _).2) Shp.nil))))))) rfl) (S278.cells 1 rfl), ⟨_, _, rfl, rfl, rfl⟩⟩, ?_⟩
   exact fg_end (f := fgO (expl seed (wasAt L sl) m h sh sl v p)) (b := (expl seed (wasAt L sl) m h sh sl v p).isSome) (f' := (stepF seed sl 0 ((Go.Au.digits m).getD 0 0).toNat (v.getD 0 []))) (by rw [hE, explS_5 hp1 hb2 hp3 (fun x => absurd x.1 (by omega)), chW_0 h0]; rfl) (by rw [hE]; rfl) r269 r270 S278.fin S278.below
  refine W_seq ?_
  obtain ⟨G280, hl281, S279, r282⟩ := S133.stillBlk 0 rfl
  refine W_tree (planF Tryz.prog G280 [104, 107, 109, 110, 113]) (.step 0 (.step 1 (.step 2 (.step 3 (.step 4 (.step 5 (.step 6 (.step 7 (.step 8 (.step 9 (.step 10 (.step 11 (.step 12 (.fork 13 17 (.step 14 (.step 15 (.step 16 (.step 17 (.step 18 (.step 19 .done)))))) (.step 13 (.step 14 (.step 15 (.step 16 (.step 18 (.step 19 .done)))))))))))))))))))) rfl (by kernel_rfl) S279.le ?_
  have S283 := S279.drew
  refine TT_step rfl (Pv ?_)
  refine Nt rfl (T_shl rfl rfl rfl rfl rfl rfl (by omega) ?_)
  refine T_re (v' := .int .i64 ((2 ^ h.toNat : Nat) : Int)) (congrArg (Value.int .i64) (shlI (by omega) (by omega))) ?_
  refine Nt rfl (Fl 1 ?_)
  refine Nt rfl (Ak (r := by exact still_cell (hl281 _ _ (hl109 _ _ (hl35 _ _ r17))) rfl) ?_)
  refine Nt rfl (Pv ?_)
  refine Nt rfl (Fl 1 ?_)
  refine Nt rfl (Ak (r := by exact still_cell (hl281 _ _ (hl109 _ _ (hl35 _ _ r17))) rfl) ?_)
  refine Nt rfl (Af sl.toNat (r113.mono hl281).2 fun b284 o285 hc286 => ?_)
  have hc287 := cells_h (r113.mono hl281).1 sl.toNat (by omega) hc286
  have hl288 := len_h (r113.mono hl281).1 sl.toNat (by omega)
  refine Nt rfl (T_loadGAP _ (fun _ h => h) hc287 rfl rfl rfl rfl rfl rfl rfl rfl (hVs hl288) (T_re (v' := hV (pub seed sl)) (congrArg (fun q => hV q) (by rw [mleaves_at (by omega), show ((sl.toNat : Nat) : Int) = sl by omega])) ?_))
  refine Nt rfl (T_loadGAP _ (fun _ h => h) (still_cells r282) rfl rfl rfl rfl rfl rfl rfl rfl (hVs (pubH_len _)) (Nt rfl (Pv ?_)))
  refine Nt rfl (Fl 3 ?_)
  refine Nt rfl (Ak (r := by exact still_cell (hl281 _ _ (hl109 _ _ (hl35 _ _ r17))) rfl) (T_nil ?_))
  refine TT_fork rfl rfl ?_ ?_
  ·obtain ⟨G290, hl291, S289, r292⟩ := S283.stillRow 0 rfl
   have r293 := RdH.mk (beside_all r113.1 (by omega) (Nat.le_refl _)) (by decide) r292
   refine Cs g_aumbry_tree_Break ((break_ok S289.le (hT.mono (hl12.trans (hl16.trans (hl35.trans (hl109.trans (hl281.trans hl291)))))) ((2 ^ h.toNat : Nat) : Int) sl (pub_len _ _) (pubH_len _) r293 (h2.mono (hl12.trans (hl16.trans (hl35.trans (hl109.trans (hl281.trans hl291))))))).mono ?_)
   rintro e w301 ⟨a294, c295, a296, c297, rfl, r298, r299, hB300⟩
   obtain ⟨G303, eG305⟩ : ∃ G, G = F.ext G290 w132.drew.heap.size w301 := ⟨_, rfl⟩
   obtain ⟨hl304, S302⟩ := S289.ext hB300
   rw [← eG305] at hl304 S302 r298 r299
   refine ⟨_, rfl, (((hl291.trans hl304)).trans S302.le), ?_⟩
   iterate 3 (refine T_nil ?_; refine TT_step rfl ?_; refine Pv ?_)
   refine Nt rfl (Ac (hC := fun _ h => ((hl291.trans hl304)).trans h) S302 fun b306 w307 S308 => ?_)
   refine Nt rfl (Ag (hC := fun _ h => ((hl291.trans hl304)).trans h) (hl := by first | rfl | simp [hVs, *]) (hl2 := by first | rfl | simp [hVs, *]) (h1 := by exact one_all rfl) 0 S308 fun w309 S310 => ?_)
   refine Nt rfl (Pv (T_nil (TT_done ?_)))
   have S311 := S310.drop 2
   have S312 := S311.swap01
   exact Ws (J172 _ _ ⟨_, _, _, _, _, G303, rfl, (hl281.trans (hl291.trans hl304)), S312, r298, r299⟩)
  refine Ac (hC := fun _ h => ((Hp.le.refl _)).trans h) S283 fun b313 w314 S315 => ?_
  refine Nt rfl ?_
  obtain ⟨G317, hl318, S316, r319⟩ := S315.stillRow 1 rfl
  have r320 := RdH.mk (beside_all r113.1 (by omega) (Nat.le_refl _)) (by decide) r319
  refine Cs g_aumbry_tree_Break ((break_ok S316.le (hT.mono (hl12.trans (hl16.trans (hl35.trans (hl109.trans (hl281.trans hl318)))))) ((2 ^ h.toNat : Nat) : Int) sl (pub_len _ _) (pubH_len _) r320 (h2.mono (hl12.trans (hl16.trans (hl35.trans (hl109.trans (hl281.trans hl318))))))).mono ?_)
  rintro e w328 ⟨a321, c322, a323, c324, rfl, r325, r326, hB327⟩
  obtain ⟨G330, eG332⟩ : ∃ G, G = F.ext G317 w314.heap.size w328 := ⟨_, rfl⟩
  obtain ⟨hl331, S329⟩ := S316.ext hB327
  rw [← eG332] at hl331 S329 r325 r326
  refine ⟨_, rfl, (((hl318.trans hl331)).trans S329.le), ?_⟩
  iterate 3 (refine T_nil ?_; refine TT_step rfl ?_; refine Pv ?_)
  refine Nt rfl (Ag (hC := fun _ h => ((hl318.trans hl331)).trans h) (hl := by first | rfl | simp [hVs, *]) (hl2 := by first | rfl | simp [hVs, *]) (h1 := by exact one_all rfl) 0 S329 fun w333 S334 => ?_)
  refine Nt rfl (Pv (T_nil (TT_done ?_)))
  have S335 := S334.drop 2
  have S336 := S335.swap01
  exact Ws (J172 _ _ ⟨_, _, _, _, _, G330, rfl, (hl281.trans (hl318.trans hl331)), S336, r325, r326⟩)
 refine W_seq ?_
 obtain ⟨G338, hl339, S337, r340⟩ := S54.stillBlk 0 rfl
 refine W_tree (planF Tryz.prog G338 [78, 79]) (.step 0 (.step 1 (.step 4 (.step 5 (.step 6 (.fork 2 12 (.fork 3 12 (.fork 7 12 (.fork 8 12 (.step 9 (.step 10 (.step 11 (.step 12 (.step 13 (.step 14 .done)))))) (.step 8 (.step 9 (.step 10 (.step 11 (.step 13 (.step 14 .done))))))) (.step 7 (.step 8 (.step 9 (.step 10 (.step 11 (.step 13 (.step 14 .done)))))))) (.step 3 (.step 7 (.step 8 (.step 9 (.step 10 (.step 11 (.step 13 (.step 14 .done))))))))) (.step 2 (.step 3 (.step 7 (.step 8 (.step 9 (.step 10 (.step 11 (.step 13 (.step 14 .done))))))))))))))) rfl (by kernel_rfl) S337.le ?_
 have S341 := S337.drew
 iterate 2 (refine TT_step rfl ?_; refine Pv ?_; refine T_nil ?_)
 refine TT_step rfl (Fl 0 ?_)
 refine Nt rfl (Ak (r := by exact still_cell (hl339 _ _ (hl35 _ _ r17)) rfl) ?_)
 refine Nt rfl (T_loadGAP _ (fun _ h => h) (still_cells r340) rfl rfl rfl rfl rfl rfl rfl rfl (hVs (climbS_len _ _ _ _ _)) (T_nil (TT_fork rfl rfl ?_ ?_)))
 ·obtain ⟨G343, hl344, S342, r345⟩ := S341.stillRow 0 rfl
  have r346 := RdH.mk (mleaves_all _ _) (by decide) r345
  refine Cs g_aumbry_tree_Root ((root_ok S342.le (hT.mono (hl12.trans (hl16.trans (hl35.trans (hl339.trans hl344))))) r346 (by omega)).mono ?_)
  rintro e w348 ⟨rfl, hB347⟩
  have S349 := S342.call hB347
  refine ⟨_, rfl, ((hl344).trans S349.le), ?_⟩
  refine T_nil (TT_fork rfl rfl ?_ ?_)
  ·refine Cs g_aumbry_mss_printed ((printT_ok S349.le (hT.mono (hl12.trans (hl16.trans (hl35.trans (hl339.trans hl344))))) h (by omega) (root_len r346.1)).mono ?_)
   rintro e w355 ⟨a350, c351, hc352, rfl, ho353, hB354⟩
   have S356 := S349.own hB354 ho353
   refine ⟨_, rfl, ((hl344).trans S356.le), ?_⟩
   refine T_nil (TT_fork rfl rfl ?_ ?_)
   ·refine Cs g_aumbry_mss_printed ((printT_ok S356.le (hT.mono (hl12.trans (hl16.trans (hl35.trans (hl339.trans hl344))))) sh (by omega) (climbS_len _ _ _ _ _)).mono ?_)
    rintro e w362 ⟨a357, c358, hc359, rfl, ho360, hB361⟩
    have S363 := S356.own hB361 ho360
    refine ⟨_, rfl, ((hl344).trans S363.le), ?_⟩
    refine T_nil (TT_fork rfl rfl ?_ ?_)
    ·obtain ⟨G365, hl366, S364, r367⟩ := S363.stillRow 1 rfl
     obtain ⟨G369, hl370, S368, r371⟩ := S364.stillRow 0 rfl
     refine Cs g_aumbry_mss_two ((two_ok S368.le (r367.mono hl370) r371).mono ?_)
     rintro e w379 ⟨a372, c373, a374, c375, rfl, r376, r377, hB378⟩
     obtain ⟨G381, eG383⟩ : ∃ G, G = F.ext G369 w362.heap.size w379 := ⟨_, rfl⟩
     obtain ⟨hl382, S380⟩ := S368.ext hB378
     rw [← eG383] at hl382 S380 r376 r377
     refine ⟨_, rfl, (((hl344.trans (hl366.trans (hl370.trans hl382)))).trans S380.le), ?_⟩
     iterate 3 (refine T_nil ?_; refine TT_step rfl ?_; refine Pv ?_)
     refine Nt rfl (Ac (hC := fun _ h => ((hl344.trans (hl366.trans (hl370.trans hl382)))).trans h) S380 fun b384 w385 S386 => ?_)
     refine Nt rfl (Ag (hC := fun _ h => ((hl344.trans (hl366.trans (hl370.trans hl382)))).trans h) (hl := by exact gV_size (L := [[.slice a372 (twoF (printT h (Go.Au.root (mleaves seed h.toNat))) (printT sh (climbS m sh sl v p))).A.length c373], [.slice a374 (twoF (printT h (Go.Au.root (mleaves seed h.toNat))) (printT sh (climbS m sh sl v p))).B.length c375], [.bool ((twoF (printT h (Go.Au.root (mleaves seed h.toNat))) (printT sh (climbS m sh sl v p))).k)], [.int .i64 ((twoF (printT h (Go.Au.root (mleaves seed h.toNat))) (printT sh (climbS m sh sl v p))).a)], [.int .i64 ((twoF (printT h (Go.Au.root (mleaves seed h.toNat))) (printT sh (climbS m sh sl v p))).c)], [.int .i64 ((twoF (printT h (Go.Au.root (mleaves seed h.toNat))) (printT sh (climbS m sh sl v p))).q)], ((twoF (printT h (Go.Au.root (mleaves seed h.toNat))) (printT sh (climbS m sh sl v p))).x).map bV]) (ns := [1, 1, 1, 1, 1, 1, 32]) (Shp.cons rfl (Shp.cons rfl (Shp.cons rfl (Shp.cons rfl (Shp.cons rfl (Shp.cons rfl (Shp.cons (lenB (twoF_x _ _)) Shp.nil))))))) rfl) (hl2 := by exact gV_size (L := [[.slice a372 (twoF (printT h (Go.Au.root (mleaves seed h.toNat))) (printT sh (climbS m sh sl v p))).A.length c373], [.slice a374 (twoF (printT h (Go.Au.root (mleaves seed h.toNat))) (printT sh (climbS m sh sl v p))).B.length c375], [.bool ((twoF (printT h (Go.Au.root (mleaves seed h.toNat))) (printT sh (climbS m sh sl v p))).k)], [.int .i64 ((twoF (printT h (Go.Au.root (mleaves seed h.toNat))) (printT sh (climbS m sh sl v p))).a)], [.int .i64 ((twoF (printT h (Go.Au.root (mleaves seed h.toNat))) (printT sh (climbS m sh sl v p))).c)], [.int .i64 ((twoF (printT h (Go.Au.root (mleaves seed h.toNat))) (printT sh (climbS m sh sl v p))).q)], ((twoF (printT h (Go.Au.root (mleaves seed h.toNat))) (printT sh (climbS m sh sl v p))).x).map bV]) (ns := [1, 1, 1, 1, 1, 1, 32]) (Shp.cons rfl (Shp.cons rfl (Shp.cons rfl (Shp.cons rfl (Shp.cons rfl (Shp.cons rfl (Shp.cons (lenB (twoF_x _ _)) Shp.nil))))))) rfl) (h1 := by exact gV_one (OneL.one rfl (OneL.one rfl (OneL.one rfl (OneL.one rfl (OneL.one rfl (OneL.one rfl (OneL.arr OneL.nil)))))))) 0 S386 fun w387 S388 => ?_)
     refine Nt rfl (Pv (T_nil (TT_done ?_)))
     have S389 := S388.swap01
     exact Ws (J112 _ _ ⟨_, _, _, _, _, G381, rfl, (hl339.trans (hl344.trans (hl366.trans (hl370.trans hl382)))), S389, (r346.mono (hl366.trans (hl370.trans hl382))), r376, r377⟩)
    refine Ac (hC := fun _ h => (hl344).trans h) S363 fun b390 w391 S392 => ?_
    refine Nt rfl ?_
    obtain ⟨G394, hl395, S393, r396⟩ := S392.stillRow 2 rfl
    obtain ⟨G398, hl399, S397, r400⟩ := S393.stillRow 1 rfl
    refine Cs g_aumbry_mss_two ((two_ok S397.le (r396.mono hl399) r400).mono ?_)
    rintro e w408 ⟨a401, c402, a403, c404, rfl, r405, r406, hB407⟩
    obtain ⟨G410, eG412⟩ : ∃ G, G = F.ext G398 w391.heap.size w408 := ⟨_, rfl⟩
    obtain ⟨hl411, S409⟩ := S397.ext hB407
    rw [← eG412] at hl411 S409 r405 r406
    refine ⟨_, rfl, (((hl344.trans (hl395.trans (hl399.trans hl411)))).trans S409.le), ?_⟩
    iterate 3 (refine T_nil ?_; refine TT_step rfl ?_; refine Pv ?_)
    refine Nt rfl (Ag (hC := fun _ h => ((hl344.trans (hl395.trans (hl399.trans hl411)))).trans h) (hl := by exact gV_size (L := [[.slice a401 (twoF (printT h (Go.Au.root (mleaves seed h.toNat))) (printT sh (climbS m sh sl v p))).A.length c402], [.slice a403 (twoF (printT h (Go.Au.root (mleaves seed h.toNat))) (printT sh (climbS m sh sl v p))).B.length c404], [.bool ((twoF (printT h (Go.Au.root (mleaves seed h.toNat))) (printT sh (climbS m sh sl v p))).k)], [.int .i64 ((twoF (printT h (Go.Au.root (mleaves seed h.toNat))) (printT sh (climbS m sh sl v p))).a)], [.int .i64 ((twoF (printT h (Go.Au.root (mleaves seed h.toNat))) (printT sh (climbS m sh sl v p))).c)], [.int .i64 ((twoF (printT h (Go.Au.root (mleaves seed h.toNat))) (printT sh (climbS m sh sl v p))).q)], ((twoF (printT h (Go.Au.root (mleaves seed h.toNat))) (printT sh (climbS m sh sl v p))).x).map bV]) (ns := [1, 1, 1, 1, 1, 1, 32]) (Shp.cons rfl (Shp.cons rfl (Shp.cons rfl (Shp.cons rfl (Shp.cons rfl (Shp.cons rfl (Shp.cons (lenB (twoF_x _ _)) Shp.nil))))))) rfl) (hl2 := by exact gV_size (L := [[.slice a401 (twoF (printT h (Go.Au.root (mleaves seed h.toNat))) (printT sh (climbS m sh sl v p))).A.length c402], [.slice a403 (twoF (printT h (Go.Au.root (mleaves seed h.toNat))) (printT sh (climbS m sh sl v p))).B.length c404], [.bool ((twoF (printT h (Go.Au.root (mleaves seed h.toNat))) (printT sh (climbS m sh sl v p))).k)], [.int .i64 ((twoF (printT h (Go.Au.root (mleaves seed h.toNat))) (printT sh (climbS m sh sl v p))).a)], [.int .i64 ((twoF (printT h (Go.Au.root (mleaves seed h.toNat))) (printT sh (climbS m sh sl v p))).c)], [.int .i64 ((twoF (printT h (Go.Au.root (mleaves seed h.toNat))) (printT sh (climbS m sh sl v p))).q)], ((twoF (printT h (Go.Au.root (mleaves seed h.toNat))) (printT sh (climbS m sh sl v p))).x).map bV]) (ns := [1, 1, 1, 1, 1, 1, 32]) (Shp.cons rfl (Shp.cons rfl (Shp.cons rfl (Shp.cons rfl (Shp.cons rfl (Shp.cons rfl (Shp.cons (lenB (twoF_x _ _)) Shp.nil))))))) rfl) (h1 := by exact gV_one (OneL.one rfl (OneL.one rfl (OneL.one rfl (OneL.one rfl (OneL.one rfl (OneL.one rfl (OneL.arr OneL.nil)))))))) 0 S409 fun w413 S414 => ?_)
    refine Nt rfl (Pv (T_nil (TT_done ?_)))
    have S415 := S414.swap01
    exact Ws (J112 _ _ ⟨_, _, _, _, _, G410, rfl, (hl339.trans (hl344.trans (hl395.trans (hl399.trans hl411)))), S415, (r346.mono (hl395.trans (hl399.trans hl411))), r405, r406⟩)
   refine Ac (hC := fun _ h => (hl344).trans h) S356 fun b416 w417 S418 => ?_
   refine Nt rfl (Cs g_aumbry_mss_printed ((printT_ok S418.le (hT.mono (hl12.trans (hl16.trans (hl35.trans (hl339.trans hl344))))) sh (by omega) (climbS_len _ _ _ _ _)).mono ?_))
   rintro e w424 ⟨a419, c420, hc421, rfl, ho422, hB423⟩
   have S425 := S418.own hB423 ho422
   refine ⟨_, rfl, ((hl344).trans S425.le), ?_⟩
   refine Nt rfl ?_
   obtain ⟨G427, hl428, S426, r429⟩ := S425.stillRow 2 rfl
   obtain ⟨G431, hl432, S430, r433⟩ := S426.stillRow 0 rfl
   refine Cs g_aumbry_mss_two ((two_ok S430.le (r429.mono hl432) r433).mono ?_)
   rintro e w441 ⟨a434, c435, a436, c437, rfl, r438, r439, hB440⟩
   obtain ⟨G443, eG445⟩ : ∃ G, G = F.ext G431 w424.heap.size w441 := ⟨_, rfl⟩
   obtain ⟨hl444, S442⟩ := S430.ext hB440
   rw [← eG445] at hl444 S442 r438 r439
   refine ⟨_, rfl, (((hl344.trans (hl428.trans (hl432.trans hl444)))).trans S442.le), ?_⟩
   iterate 3 (refine T_nil ?_; refine TT_step rfl ?_; refine Pv ?_)
   refine Nt rfl (Ag (hC := fun _ h => ((hl344.trans (hl428.trans (hl432.trans hl444)))).trans h) (hl := by exact gV_size (L := [[.slice a434 (twoF (printT h (Go.Au.root (mleaves seed h.toNat))) (printT sh (climbS m sh sl v p))).A.length c435], [.slice a436 (twoF (printT h (Go.Au.root (mleaves seed h.toNat))) (printT sh (climbS m sh sl v p))).B.length c437], [.bool ((twoF (printT h (Go.Au.root (mleaves seed h.toNat))) (printT sh (climbS m sh sl v p))).k)], [.int .i64 ((twoF (printT h (Go.Au.root (mleaves seed h.toNat))) (printT sh (climbS m sh sl v p))).a)], [.int .i64 ((twoF (printT h (Go.Au.root (mleaves seed h.toNat))) (printT sh (climbS m sh sl v p))).c)], [.int .i64 ((twoF (printT h (Go.Au.root (mleaves seed h.toNat))) (printT sh (climbS m sh sl v p))).q)], ((twoF (printT h (Go.Au.root (mleaves seed h.toNat))) (printT sh (climbS m sh sl v p))).x).map bV]) (ns := [1, 1, 1, 1, 1, 1, 32]) (Shp.cons rfl (Shp.cons rfl (Shp.cons rfl (Shp.cons rfl (Shp.cons rfl (Shp.cons rfl (Shp.cons (lenB (twoF_x _ _)) Shp.nil))))))) rfl) (hl2 := by exact gV_size (L := [[.slice a434 (twoF (printT h (Go.Au.root (mleaves seed h.toNat))) (printT sh (climbS m sh sl v p))).A.length c435], [.slice a436 (twoF (printT h (Go.Au.root (mleaves seed h.toNat))) (printT sh (climbS m sh sl v p))).B.length c437], [.bool ((twoF (printT h (Go.Au.root (mleaves seed h.toNat))) (printT sh (climbS m sh sl v p))).k)], [.int .i64 ((twoF (printT h (Go.Au.root (mleaves seed h.toNat))) (printT sh (climbS m sh sl v p))).a)], [.int .i64 ((twoF (printT h (Go.Au.root (mleaves seed h.toNat))) (printT sh (climbS m sh sl v p))).c)], [.int .i64 ((twoF (printT h (Go.Au.root (mleaves seed h.toNat))) (printT sh (climbS m sh sl v p))).q)], ((twoF (printT h (Go.Au.root (mleaves seed h.toNat))) (printT sh (climbS m sh sl v p))).x).map bV]) (ns := [1, 1, 1, 1, 1, 1, 32]) (Shp.cons rfl (Shp.cons rfl (Shp.cons rfl (Shp.cons rfl (Shp.cons rfl (Shp.cons rfl (Shp.cons (lenB (twoF_x _ _)) Shp.nil))))))) rfl) (h1 := by exact gV_one (OneL.one rfl (OneL.one rfl (OneL.one rfl (OneL.one rfl (OneL.one rfl (OneL.one rfl (OneL.arr OneL.nil)))))))) 0 S442 fun w446 S447 => ?_)
   refine Nt rfl (Pv (T_nil (TT_done ?_)))
   have S448 := S447.swap01
   exact Ws (J112 _ _ ⟨_, _, _, _, _, G443, rfl, (hl339.trans (hl344.trans (hl428.trans (hl432.trans hl444)))), S448, (r346.mono (hl428.trans (hl432.trans hl444))), r438, r439⟩)
  refine Ac (hC := fun _ h => (hl344).trans h) S349 fun b449 w450 S451 => ?_
  refine Nt rfl (Cs g_aumbry_mss_printed ((printT_ok S451.le (hT.mono (hl12.trans (hl16.trans (hl35.trans (hl339.trans hl344))))) h (by omega) (root_len r346.1)).mono ?_))
  rintro e w457 ⟨a452, c453, hc454, rfl, ho455, hB456⟩
  have S458 := S451.own hB456 ho455
  refine ⟨_, rfl, ((hl344).trans S458.le), ?_⟩
  refine Nt rfl (Cs g_aumbry_mss_printed ((printT_ok S458.le (hT.mono (hl12.trans (hl16.trans (hl35.trans (hl339.trans hl344))))) sh (by omega) (climbS_len _ _ _ _ _)).mono ?_))
  rintro e w464 ⟨a459, c460, hc461, rfl, ho462, hB463⟩
  have S465 := S458.own hB463 ho462
  refine ⟨_, rfl, ((hl344).trans S465.le), ?_⟩
  refine Nt rfl ?_
  obtain ⟨G467, hl468, S466, r469⟩ := S465.stillRow 1 rfl
  obtain ⟨G471, hl472, S470, r473⟩ := S466.stillRow 0 rfl
  refine Cs g_aumbry_mss_two ((two_ok S470.le (r469.mono hl472) r473).mono ?_)
  rintro e w481 ⟨a474, c475, a476, c477, rfl, r478, r479, hB480⟩
  obtain ⟨G483, eG485⟩ : ∃ G, G = F.ext G471 w464.heap.size w481 := ⟨_, rfl⟩
  obtain ⟨hl484, S482⟩ := S470.ext hB480
  rw [← eG485] at hl484 S482 r478 r479
  refine ⟨_, rfl, (((hl344.trans (hl468.trans (hl472.trans hl484)))).trans S482.le), ?_⟩
  iterate 3 (refine T_nil ?_; refine TT_step rfl ?_; refine Pv ?_)
  refine Nt rfl (Ag (hC := fun _ h => ((hl344.trans (hl468.trans (hl472.trans hl484)))).trans h) (hl := by exact gV_size (L := [[.slice a474 (twoF (printT h (Go.Au.root (mleaves seed h.toNat))) (printT sh (climbS m sh sl v p))).A.length c475], [.slice a476 (twoF (printT h (Go.Au.root (mleaves seed h.toNat))) (printT sh (climbS m sh sl v p))).B.length c477], [.bool ((twoF (printT h (Go.Au.root (mleaves seed h.toNat))) (printT sh (climbS m sh sl v p))).k)], [.int .i64 ((twoF (printT h (Go.Au.root (mleaves seed h.toNat))) (printT sh (climbS m sh sl v p))).a)], [.int .i64 ((twoF (printT h (Go.Au.root (mleaves seed h.toNat))) (printT sh (climbS m sh sl v p))).c)], [.int .i64 ((twoF (printT h (Go.Au.root (mleaves seed h.toNat))) (printT sh (climbS m sh sl v p))).q)], ((twoF (printT h (Go.Au.root (mleaves seed h.toNat))) (printT sh (climbS m sh sl v p))).x).map bV]) (ns := [1, 1, 1, 1, 1, 1, 32]) (Shp.cons rfl (Shp.cons rfl (Shp.cons rfl (Shp.cons rfl (Shp.cons rfl (Shp.cons rfl (Shp.cons (lenB (twoF_x _ _)) Shp.nil))))))) rfl) (hl2 := by exact gV_size (L := [[.slice a474 (twoF (printT h (Go.Au.root (mleaves seed h.toNat))) (printT sh (climbS m sh sl v p))).A.length c475], [.slice a476 (twoF (printT h (Go.Au.root (mleaves seed h.toNat))) (printT sh (climbS m sh sl v p))).B.length c477], [.bool ((twoF (printT h (Go.Au.root (mleaves seed h.toNat))) (printT sh (climbS m sh sl v p))).k)], [.int .i64 ((twoF (printT h (Go.Au.root (mleaves seed h.toNat))) (printT sh (climbS m sh sl v p))).a)], [.int .i64 ((twoF (printT h (Go.Au.root (mleaves seed h.toNat))) (printT sh (climbS m sh sl v p))).c)], [.int .i64 ((twoF (printT h (Go.Au.root (mleaves seed h.toNat))) (printT sh (climbS m sh sl v p))).q)], ((twoF (printT h (Go.Au.root (mleaves seed h.toNat))) (printT sh (climbS m sh sl v p))).x).map bV]) (ns := [1, 1, 1, 1, 1, 1, 32]) (Shp.cons rfl (Shp.cons rfl (Shp.cons rfl (Shp.cons rfl (Shp.cons rfl (Shp.cons rfl (Shp.cons (lenB (twoF_x _ _)) Shp.nil))))))) rfl) (h1 := by exact gV_one (OneL.one rfl (OneL.one rfl (OneL.one rfl (OneL.one rfl (OneL.one rfl (OneL.one rfl (OneL.arr OneL.nil)))))))) 0 S482 fun w486 S487 => ?_)
  refine Nt rfl (Pv (T_nil (TT_done ?_)))
  have S488 := S487.swap01
  exact Ws (J112 _ _ ⟨_, _, _, _, _, G483, rfl, (hl339.trans (hl344.trans (hl468.trans (hl472.trans hl484)))), S488, (r346.mono (hl468.trans (hl472.trans hl484))), r478, r479⟩)
 refine Ac (hC := fun _ h => ((Hp.le.refl _)).trans h) S341 fun b489 w490 S491 => ?_
 refine Nt rfl ?_
 obtain ⟨G493, hl494, S492, r495⟩ := S491.stillRow 1 rfl
 have r496 := RdH.mk (mleaves_all _ _) (by decide) r495
 refine Cs g_aumbry_tree_Root ((root_ok S492.le (hT.mono (hl12.trans (hl16.trans (hl35.trans (hl339.trans hl494))))) r496 (by omega)).mono ?_)
 rintro e w498 ⟨rfl, hB497⟩
 have S499 := S492.call hB497
 refine ⟨_, rfl, ((hl494).trans S499.le), ?_⟩
 refine Nt rfl (Cs g_aumbry_mss_printed ((printT_ok S499.le (hT.mono (hl12.trans (hl16.trans (hl35.trans (hl339.trans hl494))))) h (by omega) (root_len r496.1)).mono ?_))
 rintro e w505 ⟨a500, c501, hc502, rfl, ho503, hB504⟩
 have S506 := S499.own hB504 ho503
 refine ⟨_, rfl, ((hl494).trans S506.le), ?_⟩
 refine Nt rfl (Cs g_aumbry_mss_printed ((printT_ok S506.le (hT.mono (hl12.trans (hl16.trans (hl35.trans (hl339.trans hl494))))) sh (by omega) (climbS_len _ _ _ _ _)).mono ?_))
 rintro e w512 ⟨a507, c508, hc509, rfl, ho510, hB511⟩
 have S513 := S506.own hB511 ho510
 refine ⟨_, rfl, ((hl494).trans S513.le), ?_⟩
 refine Nt rfl ?_
 obtain ⟨G515, hl516, S514, r517⟩ := S513.stillRow 1 rfl
 obtain ⟨G519, hl520, S518, r521⟩ := S514.stillRow 0 rfl
 refine Cs g_aumbry_mss_two ((two_ok S518.le (r517.mono hl520) r521).mono ?_)
 rintro e w529 ⟨a522, c523, a524, c525, rfl, r526, r527, hB528⟩
 obtain ⟨G531, eG533⟩ : ∃ G, G = F.ext G519 w512.heap.size w529 := ⟨_, rfl⟩
 obtain ⟨hl532, S530⟩ := S518.ext hB528
 rw [← eG533] at hl532 S530 r526 r527
 refine ⟨_, rfl, (((hl494.trans (hl516.trans (hl520.trans hl532)))).trans S530.le), ?_⟩
 iterate 3 (refine T_nil ?_; refine TT_step rfl ?_; refine Pv ?_)
 refine Nt rfl (Ag (hC := fun _ h => ((hl494.trans (hl516.trans (hl520.trans hl532)))).trans h) (hl := by exact gV_size (L := [[.slice a522 (twoF (printT h (Go.Au.root (mleaves seed h.toNat))) (printT sh (climbS m sh sl v p))).A.length c523], [.slice a524 (twoF (printT h (Go.Au.root (mleaves seed h.toNat))) (printT sh (climbS m sh sl v p))).B.length c525], [.bool ((twoF (printT h (Go.Au.root (mleaves seed h.toNat))) (printT sh (climbS m sh sl v p))).k)], [.int .i64 ((twoF (printT h (Go.Au.root (mleaves seed h.toNat))) (printT sh (climbS m sh sl v p))).a)], [.int .i64 ((twoF (printT h (Go.Au.root (mleaves seed h.toNat))) (printT sh (climbS m sh sl v p))).c)], [.int .i64 ((twoF (printT h (Go.Au.root (mleaves seed h.toNat))) (printT sh (climbS m sh sl v p))).q)], ((twoF (printT h (Go.Au.root (mleaves seed h.toNat))) (printT sh (climbS m sh sl v p))).x).map bV]) (ns := [1, 1, 1, 1, 1, 1, 32]) (Shp.cons rfl (Shp.cons rfl (Shp.cons rfl (Shp.cons rfl (Shp.cons rfl (Shp.cons rfl (Shp.cons (lenB (twoF_x _ _)) Shp.nil))))))) rfl) (hl2 := by exact gV_size (L := [[.slice a522 (twoF (printT h (Go.Au.root (mleaves seed h.toNat))) (printT sh (climbS m sh sl v p))).A.length c523], [.slice a524 (twoF (printT h (Go.Au.root (mleaves seed h.toNat))) (printT sh (climbS m sh sl v p))).B.length c525], [.bool ((twoF (printT h (Go.Au.root (mleaves seed h.toNat))) (printT sh (climbS m sh sl v p))).k)], [.int .i64 ((twoF (printT h (Go.Au.root (mleaves seed h.toNat))) (printT sh (climbS m sh sl v p))).a)], [.int .i64 ((twoF (printT h (Go.Au.root (mleaves seed h.toNat))) (printT sh (climbS m sh sl v p))).c)], [.int .i64 ((twoF (printT h (Go.Au.root (mleaves seed h.toNat))) (printT sh (climbS m sh sl v p))).q)], ((twoF (printT h (Go.Au.root (mleaves seed h.toNat))) (printT sh (climbS m sh sl v p))).x).map bV]) (ns := [1, 1, 1, 1, 1, 1, 32]) (Shp.cons rfl (Shp.cons rfl (Shp.cons rfl (Shp.cons rfl (Shp.cons rfl (Shp.cons rfl (Shp.cons (lenB (twoF_x _ _)) Shp.nil))))))) rfl) (h1 := by exact gV_one (OneL.one rfl (OneL.one rfl (OneL.one rfl (OneL.one rfl (OneL.one rfl (OneL.one rfl (OneL.arr OneL.nil)))))))) 0 S530 fun w534 S535 => ?_)
 refine Nt rfl (Pv (T_nil (TT_done ?_)))
 have S536 := S535.swap01
 exact Ws (J112 _ _ ⟨_, _, _, _, _, G531, rfl, (hl339.trans (hl494.trans (hl516.trans (hl520.trans hl532)))), S536, (r496.mono (hl516.trans (hl520.trans hl532))), r526, r527⟩)


set_option maxHeartbeats 2000000 in
theorem explE1 {H : Hp} {w : World} (hH : H.le (hw w)) (hT : Tabs H) (h : Int) {seed : List UInt8} (hs : seed.length = 16) {L : List (List UInt8)} {aa2 : Option Addr} {nn2 cc2 : Nat} (hL : RdL H (.slice aa2 nn2 cc2) L) {m : List UInt8} {aa3 : Option Addr} {nn3 cc3 : Nat} (hv : Rd H (.slice aa3 nn3 cc3) nn3 1 (m.map bV)) (sh sl : Int) {v p : List (List UInt8)} {a1 a2 : Option Addr} {n1 n2 c1 c2 : Nat} (h1 : RdH H (.slice a1 n1 c1) 32 v) (h2 : RdH H (.slice a2 n2 c2) 32 p) (hm : 0 ≤ h ∧ h ≤ 4) (hml : m.length < 1000) (hLb : (wasAt L sl).length < 1000) (hvt : vrf (mprint seed h) m sh sl v p = true) (hW0 : 0 < (wasAt L sl).length) (hWm : ¬ (wasAt L sl) = m) :
  Calls Tryz.prog 8 #[hV seed, .int .i64 h, .slice aa2 nn2 cc2, .slice aa3 nn3 cc3, .agg #[.int .i64 sh, .int .i64 sl, .slice a1 n1 c1, .slice a2 n2 c2]] w fun e w' => ∃ a1 c1 a2 c2, e = .returned (.tuple #[gV [[.slice a1 (fgO (expl seed (wasAt L sl) m h sh sl v p)).A.length c1], [.slice a2 (fgO (expl seed (wasAt L sl) m h sh sl v p)).B.length c2], [.bool (fgO (expl seed (wasAt L sl) m h sh sl v p)).k], [.int .i64 (fgO (expl seed (wasAt L sl) m h sh sl v p)).a], [.int .i64 (fgO (expl seed (wasAt L sl) m h sh sl v p)).c], [.int .i64 (fgO (expl seed (wasAt L sl) m h sh sl v p)).q], (fgO (expl seed (wasAt L sl) m h sh sl v p)).x.map bV], .bool (expl seed (wasAt L sl) m h sh sl v p).isSome]) ∧ Rd (F.ext H w.heap.size w') (.slice a1 (fgO (expl seed (wasAt L sl) m h sh sl v p)).A.length c1) (fgO (expl seed (wasAt L sl) m h sh sl v p)).A.length 1 ((fgO (expl seed (wasAt L sl) m h sh sl v p)).A.map bV) ∧ Rd (F.ext H w.heap.size w') (.slice a2 (fgO (expl seed (wasAt L sl) m h sh sl v p)).B.length c2) (fgO (expl seed (wasAt L sl) m h sh sl v p)).B.length 1 ((fgO (expl seed (wasAt L sl) m h sh sl v p)).B.map bV) ∧ Below w.heap.size w w' := by
 have hnw : ¬ (0 < (wasAt L sl).length ∧ (wasAt L sl) = m) := fun x => hWm x.2
 obtain rfl : nn2 = L.length := hL.len
 obtain rfl : nn3 = m.length := hv.lenB
 have hvcap : m.length ≤ cc3 := hv.capOf
 obtain rfl : n1 = v.length := h1.len
 obtain rfl : n2 = p.length := h2.len
 have hll := mleaves_len seed h.toNat
 have hp16 := pow16 (h := h) (by omega) (by omega)
 have ho := vrf_ok hvt
 obtain ⟨hs4, h67, hk⟩ := okS_may ho
 have hk2 := okW_of hk
 have hsp16 := pow16 (h := sh) hs4.1 hs4.2
 have hE : (expl seed (wasAt L sl) m h sh sl v p) = some _ := expl_yes hvt hnw
 have hdl := digits_len m
 have hdw := digits_len (wasAt L sl)
 have het := trueEnds_len seed sl 67
 have hev := ends_len m v 67
 refine enter5 _ Tryz.func8 rfl Tryz.ntmps8 Tryz.results8 rfl ?_
 have S0 := St.start w hH
 refine Wr (Ah S0 fun b1 w2 S3 => ?_)
 refine Ah S3 fun b4 w5 S6 => ?_
 refine Ac S6 fun b7 w8 S9 => ?_
 refine Pv (T_nil (W_seq ?_))
 obtain ⟨G11, hl12, S10, r13⟩ := S9.stillBlk 2 rfl
 obtain ⟨G15, hl16, S14, r17⟩ := S10.stillBlk 1 rfl
 refine W_region (T_loadGA _ S14 (still_cells (hl16 _ _ r13)) rfl rfl rfl rfl rfl rfl rfl rfl (hVs hs) (Pv ?_))
 refine Cs g_aumbry_mss_Print ((print_ok S14.le (hT.mono (hl12.trans hl16)) h hs (by omega)).mono ?_)
 rintro e w19 ⟨rfl, hB18⟩
 have S20 := S14.call hB18
 refine ⟨_, rfl, trivial, ?_⟩
 refine P3 ?_
 refine Ac S20 fun b21 w22 S23 => ?_
 refine Ag (hl := by exact hVs (mprint_len _ _)) (hl2 := by exact hVs (mprint_len _ _)) (h1 := by exact one_hA _) 0 S23 fun w24 S25 => ?_
 refine Pv (Nr ?_)
 refine Pv ?_
 refine Fl 1 ?_
 refine Ab (r := by exact still_cell r17 rfl) S25 ?_
 refine Cs g_aumbry_mss_told ((told_ok S25.le (hL.mono (hl12.trans hl16)) sl).mono ?_)
 rintro e w31 ⟨a26, c27, hc28, rfl, hr29, hB30⟩
 have S32 := S25.call hB30
 refine ⟨_, rfl, trivial, ?_⟩
 refine Pv (T_nil ?_)
 iterate 2 refine W_seq ?_
 obtain ⟨G34, hl35, S33, r36⟩ := S32.stillBlk 0 rfl
 refine W_region (P3 ?_)
 refine T_bool 45 false rfl (ndec_f rfl) (Ys ?_)
 refine T_loadGA _ S33 (still_cells r36) rfl rfl rfl rfl rfl rfl rfl rfl (hVs (mprint_len _ _)) (Ys ?_)
 refine Pv ?_
 refine Ys ?_
 refine T_loadGA _ S33 (still_cells (hl35 _ _ r17)) rfl rfl rfl rfl rfl rfl rfl rfl (by first | rfl | simp [hVs, *]) ?_
 refine Ys ?_
 refine Cs g_aumbry_mss_Verify ((verify_ok S33.le (hT.mono (hl12.trans (hl16.trans hl35))) (mprint_len _ _) sh sl (h1.mono (hl12.trans (hl16.trans hl35))) (h2.mono (hl12.trans (hl16.trans hl35))) (hv.mono (hl12.trans (hl16.trans hl35))) (by omega)).mono ?_)
 rintro e w38 ⟨rfl, hB37⟩
 have S39 := S33.call hB37
 refine ⟨_, rfl, trivial, ?_⟩
 refine Ys ?_
 refine P3 ?_
 refine T_bool 52 false rfl (by rw [hvt]; rfl) ?_
 iterate 4 (refine Ys ?_; refine Pv ?_)
 refine T_bool 56 true rfl (decide_eq_true (by omega)) ?_
 iterate 2 (refine Ys ?_; refine Pv ?_)
 refine Ys ?_
 refine Cs g_bytes_Equal ((beq_ok S39.le (hr29.mono hl35) (hv.mono (hl12.trans (hl16.trans hl35)))).mono ?_)
 rintro e w41 ⟨rfl, hB40⟩
 have S42 := S39.call hB40
 refine ⟨_, rfl, trivial, ?_⟩
 refine Ys ?_
 refine P2 (T_nil ?_)
 refine W_bool 61 false rfl (decide_eq_false hWm) (W_cond_false rfl (W_skip (Wr (T_loadGA _ S42 (still_cells (hl35 _ _ (hl16 _ _ r13))) rfl rfl rfl rfl rfl rfl rfl rfl (hVs hs) (Pv ?_)))))
 refine Cs g_aumbry_mss_Leaves ((leaves_ok S42.le (hT.mono (hl12.trans (hl16.trans hl35))) h hs (by omega)).mono ?_)
 rintro e w48 ⟨a43, c44, hc45, rfl, ho46, hB47⟩
 have S49 := S42.own hB47 ho46
 refine ⟨_, rfl, trivial, ?_⟩
 refine Pv (Nr ?_)
 refine Pv ?_
 refine T_loadGA _ S49 (still_cells (hl35 _ _ r17)) rfl rfl rfl rfl rfl rfl rfl rfl (by first | rfl | simp [hVs, *]) ?_
 refine Cs g_aumbry_mss_climb ((mclimb_ok S49.le (hT.mono (hl12.trans (hl16.trans hl35))) sh sl (h1.mono (hl12.trans (hl16.trans hl35))) (h2.mono (hl12.trans (hl16.trans hl35))) (hv.mono (hl12.trans (hl16.trans hl35))) (by omega)).mono ?_)
 rintro e w51 ⟨rfl, hB50⟩
 have S52 := S49.call hB50
 refine ⟨_, rfl, trivial, ?_⟩
 refine P3 ?_
 refine Ac S52 fun b53 w54 S55 => ?_
 refine Ag (hl := by exact hVs (climbS_len _ _ _ _ _)) (hl2 := by exact hVs (climbS_len _ _ _ _ _)) (h1 := by exact one_hA _) 0 S55 fun w56 S57 => ?_
 refine Pv (T_nil (W_seq ?_))
 refine W_j1 (fun ρ w' => ∃ (b105 : Nat) (a93 : Option Addr) (c94 : Nat) (a95 : Option Addr) (c96 : Nat) (G111 : Hp), ρ = [(1, .int .i64 h), (3, .slice aa3 m.length cc3), (5, .pointer (some ⟨b1, 0, none⟩)), (9, .pointer (some ⟨b4, 0, none⟩)), (10, .pointer (some ⟨b7, 0, none⟩)), (11, .bool false), (14, .slice a26 (wasAt L sl).length c27), (15, .slice a43 (2 ^ h.toNat) c44), (18, .pointer (some ⟨b105, 0, none⟩)), (19, .bool (!decide ((printT h (Go.Au.root (mleaves seed h.toNat))) = (printT sh (climbS m sh sl v p)))))] ∧ G34.le G111 ∧ St w H G111 [.blk b7 (gV [[.slice none 0 0], [.slice none 0 0], [.bool false], [.int .i64 0], [.int .i64 0], [.int .i64 0], (List.replicate 32 0).map bV] : Value).cells 39, .blk b105 (gV [[.slice a93 (twoF (printT h (Go.Au.root (mleaves seed h.toNat))) (printT sh (climbS m sh sl v p))).A.length c94], [.slice a95 (twoF (printT h (Go.Au.root (mleaves seed h.toNat))) (printT sh (climbS m sh sl v p))).B.length c96], [.bool ((twoF (printT h (Go.Au.root (mleaves seed h.toNat))) (printT sh (climbS m sh sl v p))).k)], [.int .i64 ((twoF (printT h (Go.Au.root (mleaves seed h.toNat))) (printT sh (climbS m sh sl v p))).a)], [.int .i64 ((twoF (printT h (Go.Au.root (mleaves seed h.toNat))) (printT sh (climbS m sh sl v p))).c)], [.int .i64 ((twoF (printT h (Go.Au.root (mleaves seed h.toNat))) (printT sh (climbS m sh sl v p))).q)], ((twoF (printT h (Go.Au.root (mleaves seed h.toNat))) (printT sh (climbS m sh sl v p))).x).map bV] : Value).cells 39] w' ∧ RdH G111 (.slice a43 (2 ^ h.toNat) c44) 32 (mleaves seed h.toNat) ∧ Rd G111 (.slice a93 (twoF (printT h (Go.Au.root (mleaves seed h.toNat))) (printT sh (climbS m sh sl v p))).A.length c94) ((twoF (printT h (Go.Au.root (mleaves seed h.toNat))) (printT sh (climbS m sh sl v p))).A.length) 1 (((twoF (printT h (Go.Au.root (mleaves seed h.toNat))) (printT sh (climbS m sh sl v p))).A).map bV) ∧ Rd G111 (.slice a95 (twoF (printT h (Go.Au.root (mleaves seed h.toNat))) (printT sh (climbS m sh sl v p))).B.length c96) ((twoF (printT h (Go.Au.root (mleaves seed h.toNat))) (printT sh (climbS m sh sl v p))).B.length) 1 (((twoF (printT h (Go.Au.root (mleaves seed h.toNat))) (printT sh (climbS m sh sl v p))).B).map bV)) ?_ (fun J115 => ?_)
 ·rintro ρ w114 ⟨b105, a93, c94, a95, c96, G111, rfl, hl112, S113, r116, r117, r118⟩
  refine Wr (Pv (T_nil ?_))
  refine W_cond rfl (fun h119 => ?_) (fun h119 => ?_)
  ·refine W_seq ?_
   have hn1 : ¬ printT h (Go.Au.root (mleaves seed h.toNat)) = printT sh (climbS m sh sl v p) := by simpa using h119
   refine W_region (Ai (hl := by exact gV_size (L := [[.slice a93 (twoF (printT h (Go.Au.root (mleaves seed h.toNat))) (printT sh (climbS m sh sl v p))).A.length c94], [.slice a95 (twoF (printT h (Go.Au.root (mleaves seed h.toNat))) (printT sh (climbS m sh sl v p))).B.length c96], [.bool ((twoF (printT h (Go.Au.root (mleaves seed h.toNat))) (printT sh (climbS m sh sl v p))).k)], [.int .i64 ((twoF (printT h (Go.Au.root (mleaves seed h.toNat))) (printT sh (climbS m sh sl v p))).a)], [.int .i64 ((twoF (printT h (Go.Au.root (mleaves seed h.toNat))) (printT sh (climbS m sh sl v p))).c)], [.int .i64 ((twoF (printT h (Go.Au.root (mleaves seed h.toNat))) (printT sh (climbS m sh sl v p))).q)], ((twoF (printT h (Go.Au.root (mleaves seed h.toNat))) (printT sh (climbS m sh sl v p))).x).map bV]) (ns := [1, 1, 1, 1, 1, 1, 32]) (Shp.cons rfl (Shp.cons rfl (Shp.cons rfl (Shp.cons rfl (Shp.cons rfl (Shp.cons rfl (Shp.cons (lenB (twoF_x _ _)) Shp.nil))))))) rfl) 1 S113 ?_)
   refine Ag (hl := by exact gV_size (L := [[.slice a93 (twoF (printT h (Go.Au.root (mleaves seed h.toNat))) (printT sh (climbS m sh sl v p))).A.length c94], [.slice a95 (twoF (printT h (Go.Au.root (mleaves seed h.toNat))) (printT sh (climbS m sh sl v p))).B.length c96], [.bool ((twoF (printT h (Go.Au.root (mleaves seed h.toNat))) (printT sh (climbS m sh sl v p))).k)], [.int .i64 ((twoF (printT h (Go.Au.root (mleaves seed h.toNat))) (printT sh (climbS m sh sl v p))).a)], [.int .i64 ((twoF (printT h (Go.Au.root (mleaves seed h.toNat))) (printT sh (climbS m sh sl v p))).c)], [.int .i64 ((twoF (printT h (Go.Au.root (mleaves seed h.toNat))) (printT sh (climbS m sh sl v p))).q)], ((twoF (printT h (Go.Au.root (mleaves seed h.toNat))) (printT sh (climbS m sh sl v p))).x).map bV]) (ns := [1, 1, 1, 1, 1, 1, 32]) (Shp.cons rfl (Shp.cons rfl (Shp.cons rfl (Shp.cons rfl (Shp.cons rfl (Shp.cons rfl (Shp.cons (lenB (twoF_x _ _)) Shp.nil))))))) rfl) (hl2 := by exact gV_size (L := [[.slice a93 (twoF (printT h (Go.Au.root (mleaves seed h.toNat))) (printT sh (climbS m sh sl v p))).A.length c94], [.slice a95 (twoF (printT h (Go.Au.root (mleaves seed h.toNat))) (printT sh (climbS m sh sl v p))).B.length c96], [.bool ((twoF (printT h (Go.Au.root (mleaves seed h.toNat))) (printT sh (climbS m sh sl v p))).k)], [.int .i64 ((twoF (printT h (Go.Au.root (mleaves seed h.toNat))) (printT sh (climbS m sh sl v p))).a)], [.int .i64 ((twoF (printT h (Go.Au.root (mleaves seed h.toNat))) (printT sh (climbS m sh sl v p))).c)], [.int .i64 ((twoF (printT h (Go.Au.root (mleaves seed h.toNat))) (printT sh (climbS m sh sl v p))).q)], ((twoF (printT h (Go.Au.root (mleaves seed h.toNat))) (printT sh (climbS m sh sl v p))).x).map bV]) (ns := [1, 1, 1, 1, 1, 1, 32]) (Shp.cons rfl (Shp.cons rfl (Shp.cons rfl (Shp.cons rfl (Shp.cons rfl (Shp.cons rfl (Shp.cons (lenB (twoF_x _ _)) Shp.nil))))))) rfl) (h1 := by exact gV_one (OneL.one rfl (OneL.one rfl (OneL.one rfl (OneL.one rfl (OneL.one rfl (OneL.one rfl (OneL.arr OneL.nil)))))))) 0 S113 fun w120 S121 => ?_
   refine Pv (T_nil (W_ret ?_))
   refine ⟨_, ⟨_, _, _, rfl, rfl, run_loadVarA rfl rfl (gV_size (L := [[.slice a93 (twoF (printT h (Go.Au.root (mleaves seed h.toNat))) (printT sh (climbS m sh sl v p))).A.length c94], [.slice a95 (twoF (printT h (Go.Au.root (mleaves seed h.toNat))) (printT sh (climbS m sh sl v p))).B.length c96], [.bool ((twoF (printT h (Go.Au.root (mleaves seed h.toNat))) (printT sh (climbS m sh sl v p))).k)], [.int .i64 ((twoF (printT h (Go.Au.root (mleaves seed h.toNat))) (printT sh (climbS m sh sl v p))).a)], [.int .i64 ((twoF (printT h (Go.Au.root (mleaves seed h.toNat))) (printT sh (climbS m sh sl v p))).c)], [.int .i64 ((twoF (printT h (Go.Au.root (mleaves seed h.toNat))) (printT sh (climbS m sh sl v p))).q)], ((twoF (printT h (Go.Au.root (mleaves seed h.toNat))) (printT sh (climbS m sh sl v p))).x).map bV]) (ns := [1, 1, 1, 1, 1, 1, 32]) (Shp.cons rfl (Shp.cons rfl (Shp.cons rfl (Shp.cons rfl (Shp.cons rfl (Shp.cons rfl (Shp.cons (lenB (twoF_x _ _)) Shp.nil))))))) rfl) (S121.cells 0 rfl), ⟨_, _, rfl, rfl, rfl⟩⟩, ?_⟩
   exact fg_end (f := fgO (expl seed (wasAt L sl) m h sh sl v p)) (b := (expl seed (wasAt L sl) m h sh sl v p).isSome) (f' := twoF (printT h (Go.Au.root (mleaves seed h.toNat))) (printT sh (climbS m sh sl v p))) (by rw [hE]; exact (explS_1 hn1).trans (twoF_ne hn1).symm) (by rw [hE]; rfl) r117 r118 S121.fin S121.below
  refine W_skip (W_seq ?_)
  have hp1 : printT h (Go.Au.root (mleaves seed h.toNat)) = printT sh (climbS m sh sl v p) := by simpa using h119
  have hhs := (printT_inj hm hs4 hp1).1
  have hsl2 : 0 ≤ sl ∧ sl < ((2 ^ h.toNat : Nat) : Int) := by rw [hhs]; exact ⟨hk2.1, hk2.2.1⟩
  refine W_region (Fl 1 ?_)
  refine Ab (r := by exact still_cell (hl112 _ _ (hl35 _ _ r17)) rfl) S113 ?_
  refine Pv ?_
  refine Cs g_aumbry_tree_Proof ((proof_ok S113.le (hT.mono (hl12.trans (hl16.trans (hl35.trans hl112)))) sl r116 (by omega) (by omega)).mono ?_)
  rintro e w127 ⟨a122, c123, hc124, rfl, ho125, hB126⟩
  have S128 := S113.own hB126 ho125
  refine ⟨_, rfl, trivial, ?_⟩
  iterate 5 refine Pv ?_
  refine Nr (Pv ?_)
  refine Fl 2 ?_
  refine Ab (r := by exact still_cell (hl112 _ _ (hl35 _ _ r17)) rfl) S128 ?_
  refine Cs g_aumbry_wots_Recover ((recover_ok S128.le (hT.mono (hl12.trans (hl16.trans (hl35.trans hl112)))) (hv.mono (hl12.trans (hl16.trans (hl35.trans hl112)))) (h1.mono (hl12.trans (hl16.trans (hl35.trans hl112)))) (by omega) (by omega)).mono ?_)
  rintro e w130 ⟨rfl, hB129⟩
  have S131 := S128.call hB129
  refine ⟨_, rfl, trivial, ?_⟩
  refine P3 ?_
  refine Ac S131 fun b132 w133 S134 => ?_
  refine Ag (hl := by exact hVs (pubH_len _)) (hl2 := by exact hVs (pubH_len _)) (h1 := by exact one_hA _) 0 S134 fun w135 S136 => ?_
  refine Pv (T_nil (W_seq ?_))
  refine W_j1 (fun ρ w' => ∃ (b164 : Nat) (a152 : Option Addr) (c153 : Nat) (a154 : Option Addr) (c155 : Nat) (G171 : Hp), ρ = [(3, .slice aa3 m.length cc3), (5, .pointer (some ⟨b1, 0, none⟩)), (9, .pointer (some ⟨b4, 0, none⟩)), (10, .pointer (some ⟨b7, 0, none⟩)), (11, .bool false), (14, .slice a26 (wasAt L sl).length c27), (24, .pointer (some ⟨b164, 0, none⟩)), (25, .bool ((brk ((2 ^ h.toNat : Nat) : Int) sl (pub seed sl) (pubH (ends m v 67)) (Go.Au.beside (rowP (mleaves seed h.toNat)) sl.toNat (lg (mleaves seed h.toNat).length)) p).isSome))] ∧ G111.le G171 ∧ St w H G171 [.blk b7 (gV [[.slice none 0 0], [.slice none 0 0], [.bool false], [.int .i64 0], [.int .i64 0], [.int .i64 0], (List.replicate 32 0).map bV] : Value).cells 39, .blk b164 (.agg #[.slice a152 (brA (brk ((2 ^ h.toNat : Nat) : Int) sl (pub seed sl) (pubH (ends m v 67)) (Go.Au.beside (rowP (mleaves seed h.toNat)) sl.toNat (lg (mleaves seed h.toNat).length)) p)).length c153, .slice a154 (brB (brk ((2 ^ h.toNat : Nat) : Int) sl (pub seed sl) (pubH (ends m v 67)) (Go.Au.beside (rowP (mleaves seed h.toNat)) sl.toNat (lg (mleaves seed h.toNat).length)) p)).length c155] : Value).cells 35] w' ∧ Rd G171 (.slice a152 (brA (brk ((2 ^ h.toNat : Nat) : Int) sl (pub seed sl) (pubH (ends m v 67)) (Go.Au.beside (rowP (mleaves seed h.toNat)) sl.toNat (lg (mleaves seed h.toNat).length)) p)).length c153) ((brA (brk ((2 ^ h.toNat : Nat) : Int) sl (pub seed sl) (pubH (ends m v 67)) (Go.Au.beside (rowP (mleaves seed h.toNat)) sl.toNat (lg (mleaves seed h.toNat).length)) p)).length) 1 ((brA (brk ((2 ^ h.toNat : Nat) : Int) sl (pub seed sl) (pubH (ends m v 67)) (Go.Au.beside (rowP (mleaves seed h.toNat)) sl.toNat (lg (mleaves seed h.toNat).length)) p)).map bV) ∧ Rd G171 (.slice a154 (brB (brk ((2 ^ h.toNat : Nat) : Int) sl (pub seed sl) (pubH (ends m v 67)) (Go.Au.beside (rowP (mleaves seed h.toNat)) sl.toNat (lg (mleaves seed h.toNat).length)) p)).length c155) ((brB (brk ((2 ^ h.toNat : Nat) : Int) sl (pub seed sl) (pubH (ends m v 67)) (Go.Au.beside (rowP (mleaves seed h.toNat)) sl.toNat (lg (mleaves seed h.toNat).length)) p)).length) 1 ((brB (brk ((2 ^ h.toNat : Nat) : Int) sl (pub seed sl) (pubH (ends m v 67)) (Go.Au.beside (rowP (mleaves seed h.toNat)) sl.toNat (lg (mleaves seed h.toNat).length)) p)).map bV)) ?_ (fun J175 => ?_)
  ·rintro ρ w174 ⟨b164, a152, c153, a154, c155, G171, rfl, hl172, S173, r176, r177⟩
   refine Wr (Pv (T_nil ?_))
   refine W_cond rfl (fun h178 => ?_) (fun h178 => ?_)
   ·refine W_seq ?_
    have hb2 : (brkS seed m h sl v p).isSome = true := h178
    refine W_region (Ai (hl := by first | rfl | simp [hVs, *]) 1 S173 ?_)
    refine T_buildS (cells := (gV [[.slice a152 (brA (brk ((2 ^ h.toNat : Nat) : Int) sl (pub seed sl) (pubH (ends m v 67)) (Go.Au.beside (rowP (mleaves seed h.toNat)) sl.toNat (lg (mleaves seed h.toNat).length)) p)).length c153], [.slice a154 (brB (brk ((2 ^ h.toNat : Nat) : Int) sl (pub seed sl) (pubH (ends m v 67)) (Go.Au.beside (rowP (mleaves seed h.toNat)) sl.toNat (lg (mleaves seed h.toNat).length)) p)).length c155], [.bool false], [.int .i64 0], [.int .i64 0], [.int .i64 0], (List.replicate 32 0).map bV] : Value).cells) rfl rfl rfl rfl rfl rfl (fill_g (L := [[.slice none 0 0], [.slice none 0 0], [.bool false], [.int .i64 0], [.int .i64 0], [.int .i64 0], (List.replicate 32 0).map bV]) (ns := [1, 1, 1, 1, 1, 1, 32]) (v := .agg #[.slice a152 (brA (brk ((2 ^ h.toNat : Nat) : Int) sl (pub seed sl) (pubH (ends m v 67)) (Go.Au.beside (rowP (mleaves seed h.toNat)) sl.toNat (lg (mleaves seed h.toNat).length)) p)).length c153, .slice a154 (brB (brk ((2 ^ h.toNat : Nat) : Int) sl (pub seed sl) (pubH (ends m v 67)) (Go.Au.beside (rowP (mleaves seed h.toNat)) sl.toNat (lg (mleaves seed h.toNat).length)) p)).length c155]) (off := 0) (k := 2) rfl (Shp.cons rfl (Shp.cons rfl (Shp.cons rfl (Shp.cons rfl (Shp.cons rfl (Shp.cons rfl (Shp.cons (lenB List.length_replicate) Shp.nil))))))) 0 2 [[.slice a152 (brA (brk ((2 ^ h.toNat : Nat) : Int) sl (pub seed sl) (pubH (ends m v 67)) (Go.Au.beside (rowP (mleaves seed h.toNat)) sl.toNat (lg (mleaves seed h.toNat).length)) p)).length c153], [.slice a154 (brB (brk ((2 ^ h.toNat : Nat) : Int) sl (pub seed sl) (pubH (ends m v 67)) (Go.Au.beside (rowP (mleaves seed h.toNat)) sl.toNat (lg (mleaves seed h.toNat).length)) p)).length c155]] rfl (by first | rfl | simp [hVs, *]) rfl rfl fill_gnil) rfl rfl rfl ?_
    refine Ag (hl := by exact gV_size (L := [[.slice a152 (brA (brk ((2 ^ h.toNat : Nat) : Int) sl (pub seed sl) (pubH (ends m v 67)) (Go.Au.beside (rowP (mleaves seed h.toNat)) sl.toNat (lg (mleaves seed h.toNat).length)) p)).length c153], [.slice a154 (brB (brk ((2 ^ h.toNat : Nat) : Int) sl (pub seed sl) (pubH (ends m v 67)) (Go.Au.beside (rowP (mleaves seed h.toNat)) sl.toNat (lg (mleaves seed h.toNat).length)) p)).length c155], [.bool false], [.int .i64 0], [.int .i64 0], [.int .i64 0], (List.replicate 32 0).map bV]) (ns := [1, 1, 1, 1, 1, 1, 32]) (Shp.cons rfl (Shp.cons rfl (Shp.cons rfl (Shp.cons rfl (Shp.cons rfl (Shp.cons rfl (Shp.cons (lenB List.length_replicate) Shp.nil))))))) rfl) (hl2 := by exact gV_size (L := [[.slice a152 (brA (brk ((2 ^ h.toNat : Nat) : Int) sl (pub seed sl) (pubH (ends m v 67)) (Go.Au.beside (rowP (mleaves seed h.toNat)) sl.toNat (lg (mleaves seed h.toNat).length)) p)).length c153], [.slice a154 (brB (brk ((2 ^ h.toNat : Nat) : Int) sl (pub seed sl) (pubH (ends m v 67)) (Go.Au.beside (rowP (mleaves seed h.toNat)) sl.toNat (lg (mleaves seed h.toNat).length)) p)).length c155], [.bool false], [.int .i64 0], [.int .i64 0], [.int .i64 0], (List.replicate 32 0).map bV]) (ns := [1, 1, 1, 1, 1, 1, 32]) (Shp.cons rfl (Shp.cons rfl (Shp.cons rfl (Shp.cons rfl (Shp.cons rfl (Shp.cons rfl (Shp.cons (lenB List.length_replicate) Shp.nil))))))) rfl) (h1 := by exact gV_one (OneL.one rfl (OneL.one rfl (OneL.one rfl (OneL.one rfl (OneL.one rfl (OneL.one rfl (OneL.arr OneL.nil)))))))) 0 S173 fun w179 S180 => ?_
    refine Pv (T_nil (W_ret ?_))
    refine ⟨_, ⟨_, _, _, rfl, rfl, run_loadVarA rfl rfl (gV_size (L := [[.slice a152 (brA (brk ((2 ^ h.toNat : Nat) : Int) sl (pub seed sl) (pubH (ends m v 67)) (Go.Au.beside (rowP (mleaves seed h.toNat)) sl.toNat (lg (mleaves seed h.toNat).length)) p)).length c153], [.slice a154 (brB (brk ((2 ^ h.toNat : Nat) : Int) sl (pub seed sl) (pubH (ends m v 67)) (Go.Au.beside (rowP (mleaves seed h.toNat)) sl.toNat (lg (mleaves seed h.toNat).length)) p)).length c155], [.bool false], [.int .i64 0], [.int .i64 0], [.int .i64 0], (List.replicate 32 0).map bV]) (ns := [1, 1, 1, 1, 1, 1, 32]) (Shp.cons rfl (Shp.cons rfl (Shp.cons rfl (Shp.cons rfl (Shp.cons rfl (Shp.cons rfl (Shp.cons (lenB List.length_replicate) Shp.nil))))))) rfl) (S180.cells 0 rfl), ⟨_, _, rfl, rfl, rfl⟩⟩, ?_⟩
    exact fg_end (f := fgO (expl seed (wasAt L sl) m h sh sl v p)) (b := (expl seed (wasAt L sl) m h sh sl v p).isSome) (f' := fgB (brA (brkS seed m h sl v p)) (brB (brkS seed m h sl v p))) (by rw [hE]; exact explS_2 hp1 hb2) (by rw [hE]; rfl) r176 r177 S180.fin S180.below
   refine W_skip (W_seq ?_)
   have hb2 : (brkS seed m h sl v p).isSome = false := h178
   refine W_region (Pv ?_)
   refine Fl 2 ?_
   refine Ab (r := by exact still_cell (hl172 _ _ (hl112 _ _ (hl35 _ _ r17))) rfl) S173 ?_
   refine Cs g_aumbry_wots_Ends ((ends_ok S173.le (hT.mono (hl12.trans (hl16.trans (hl35.trans (hl112.trans hl172))))) (hv.mono (hl12.trans (hl16.trans (hl35.trans (hl112.trans hl172))))) (h1.mono (hl12.trans (hl16.trans (hl35.trans (hl112.trans hl172))))) (by omega) (by omega)).mono ?_)
   rintro e w186 ⟨a181, c182, hc183, rfl, ho184, hB185⟩
   have S187 := S173.own hB185 ho184
   refine ⟨_, rfl, trivial, ?_⟩
   iterate 5 refine Pv ?_
   refine T_nil (W_seq (Wr (T_loadGA _ S187 (still_cells (hl172 _ _ (hl112 _ _ (hl35 _ _ (hl16 _ _ r13))))) rfl rfl rfl rfl rfl rfl rfl rfl (hVs hs) (Fl 1 ?_))))
   refine Ab (r := by exact still_cell (hl172 _ _ (hl112 _ _ (hl35 _ _ r17))) rfl) S187 ?_
   refine Cs g_aumbry_mss_trueEnds ((trueE_ok S187.le (hT.mono (hl12.trans (hl16.trans (hl35.trans (hl112.trans hl172))))) sl hs (by omega)).mono ?_)
   rintro e w193 ⟨a188, c189, hc190, rfl, ho191, hB192⟩
   have S194 := S187.own hB192 ho191
   refine ⟨_, rfl, trivial, ?_⟩
   obtain ⟨G196, hl197, S195, r198⟩ := S194.stillRow 0 rfl
   have r199 := RdH.mk (trueEnds_all _ _ _) (by decide) r198
   refine Cs g_aumbry_mss_ends ((mssEnds_ok S195.le (hT.mono (hl12.trans (hl16.trans (hl35.trans (hl112.trans (hl172.trans hl197)))))) r199 (by omega)).mono ?_)
   rintro e w205 ⟨a200, c201, hc202, rfl, ho203, hB204⟩
   have S206 := S195.own hB204 ho203
   refine ⟨_, rfl, trivial, ?_⟩
   refine Pv ?_
   obtain ⟨G208, hl209, S207, r210⟩ := S206.stillRow 1 rfl
   have r211 := RdH.mk (ends_all (h1.mono (hl12.trans (hl16.trans (hl35.trans (hl112.trans hl172))))).1 (by omega)) (by decide) r210
   refine Cs g_aumbry_mss_ends ((mssEnds_ok S207.le (hT.mono (hl12.trans (hl16.trans (hl35.trans (hl112.trans (hl172.trans (hl197.trans hl209))))))) r211 (by omega)).mono ?_)
   rintro e w217 ⟨a212, c213, hc214, rfl, ho215, hB216⟩
   have S218 := S207.own hB216 ho215
   refine ⟨_, rfl, trivial, ?_⟩
   obtain ⟨G220, hl221, S219, r222⟩ := S218.stillRow 1 rfl
   obtain ⟨G224, hl225, S223, r226⟩ := S219.stillRow 0 rfl
   refine Cs g_aumbry_mss_two ((two_ok S223.le (r222.mono hl225) r226).mono ?_)
   rintro e w234 ⟨a227, c228, a229, c230, rfl, r231, r232, hB233⟩
   obtain ⟨G236, eG238⟩ : ∃ G, G = F.ext G224 w217.heap.size w234 := ⟨_, rfl⟩
   obtain ⟨hl237, S235⟩ := S223.ext hB233
   rw [← eG238] at hl237 S235 r231 r232
   refine ⟨_, rfl, trivial, ?_⟩
   refine P3 ?_
   refine Ac S235 fun b239 w240 S241 => ?_
   refine Ag (hl := by exact gV_size (L := [[.slice a227 (twoF (pubT (trueEnds seed sl 67)) (pubT (ends m v 67))).A.length c228], [.slice a229 (twoF (pubT (trueEnds seed sl 67)) (pubT (ends m v 67))).B.length c230], [.bool ((twoF (pubT (trueEnds seed sl 67)) (pubT (ends m v 67))).k)], [.int .i64 ((twoF (pubT (trueEnds seed sl 67)) (pubT (ends m v 67))).a)], [.int .i64 ((twoF (pubT (trueEnds seed sl 67)) (pubT (ends m v 67))).c)], [.int .i64 ((twoF (pubT (trueEnds seed sl 67)) (pubT (ends m v 67))).q)], ((twoF (pubT (trueEnds seed sl 67)) (pubT (ends m v 67))).x).map bV]) (ns := [1, 1, 1, 1, 1, 1, 32]) (Shp.cons rfl (Shp.cons rfl (Shp.cons rfl (Shp.cons rfl (Shp.cons rfl (Shp.cons rfl (Shp.cons (lenB (twoF_x _ _)) Shp.nil))))))) rfl) (hl2 := by exact gV_size (L := [[.slice a227 (twoF (pubT (trueEnds seed sl 67)) (pubT (ends m v 67))).A.length c228], [.slice a229 (twoF (pubT (trueEnds seed sl 67)) (pubT (ends m v 67))).B.length c230], [.bool ((twoF (pubT (trueEnds seed sl 67)) (pubT (ends m v 67))).k)], [.int .i64 ((twoF (pubT (trueEnds seed sl 67)) (pubT (ends m v 67))).a)], [.int .i64 ((twoF (pubT (trueEnds seed sl 67)) (pubT (ends m v 67))).c)], [.int .i64 ((twoF (pubT (trueEnds seed sl 67)) (pubT (ends m v 67))).q)], ((twoF (pubT (trueEnds seed sl 67)) (pubT (ends m v 67))).x).map bV]) (ns := [1, 1, 1, 1, 1, 1, 32]) (Shp.cons rfl (Shp.cons rfl (Shp.cons rfl (Shp.cons rfl (Shp.cons rfl (Shp.cons rfl (Shp.cons (lenB (twoF_x _ _)) Shp.nil))))))) rfl) (h1 := by exact gV_one (OneL.one rfl (OneL.one rfl (OneL.one rfl (OneL.one rfl (OneL.one rfl (OneL.one rfl (OneL.arr OneL.nil)))))))) 0 S241 fun w242 S243 => ?_
   refine Pv (Nr ?_)
   refine Pv (T_nil ?_)
   refine W_cond rfl (fun h244 => ?_) (fun h244 => ?_)
   ·refine W_seq ?_
    have hn3 : ¬ pubT (trueEnds seed sl 67) = pubT (ends m v 67) := by simpa using h244
    refine W_region (Ai (hl := by exact gV_size (L := [[.slice a227 (twoF (pubT (trueEnds seed sl 67)) (pubT (ends m v 67))).A.length c228], [.slice a229 (twoF (pubT (trueEnds seed sl 67)) (pubT (ends m v 67))).B.length c230], [.bool ((twoF (pubT (trueEnds seed sl 67)) (pubT (ends m v 67))).k)], [.int .i64 ((twoF (pubT (trueEnds seed sl 67)) (pubT (ends m v 67))).a)], [.int .i64 ((twoF (pubT (trueEnds seed sl 67)) (pubT (ends m v 67))).c)], [.int .i64 ((twoF (pubT (trueEnds seed sl 67)) (pubT (ends m v 67))).q)], ((twoF (pubT (trueEnds seed sl 67)) (pubT (ends m v 67))).x).map bV]) (ns := [1, 1, 1, 1, 1, 1, 32]) (Shp.cons rfl (Shp.cons rfl (Shp.cons rfl (Shp.cons rfl (Shp.cons rfl (Shp.cons rfl (Shp.cons (lenB (twoF_x _ _)) Shp.nil))))))) rfl) 0 S243 ?_)
    refine Ag (hl := by exact gV_size (L := [[.slice a227 (twoF (pubT (trueEnds seed sl 67)) (pubT (ends m v 67))).A.length c228], [.slice a229 (twoF (pubT (trueEnds seed sl 67)) (pubT (ends m v 67))).B.length c230], [.bool ((twoF (pubT (trueEnds seed sl 67)) (pubT (ends m v 67))).k)], [.int .i64 ((twoF (pubT (trueEnds seed sl 67)) (pubT (ends m v 67))).a)], [.int .i64 ((twoF (pubT (trueEnds seed sl 67)) (pubT (ends m v 67))).c)], [.int .i64 ((twoF (pubT (trueEnds seed sl 67)) (pubT (ends m v 67))).q)], ((twoF (pubT (trueEnds seed sl 67)) (pubT (ends m v 67))).x).map bV]) (ns := [1, 1, 1, 1, 1, 1, 32]) (Shp.cons rfl (Shp.cons rfl (Shp.cons rfl (Shp.cons rfl (Shp.cons rfl (Shp.cons rfl (Shp.cons (lenB (twoF_x _ _)) Shp.nil))))))) rfl) (hl2 := by exact gV_size (L := [[.slice a227 (twoF (pubT (trueEnds seed sl 67)) (pubT (ends m v 67))).A.length c228], [.slice a229 (twoF (pubT (trueEnds seed sl 67)) (pubT (ends m v 67))).B.length c230], [.bool ((twoF (pubT (trueEnds seed sl 67)) (pubT (ends m v 67))).k)], [.int .i64 ((twoF (pubT (trueEnds seed sl 67)) (pubT (ends m v 67))).a)], [.int .i64 ((twoF (pubT (trueEnds seed sl 67)) (pubT (ends m v 67))).c)], [.int .i64 ((twoF (pubT (trueEnds seed sl 67)) (pubT (ends m v 67))).q)], ((twoF (pubT (trueEnds seed sl 67)) (pubT (ends m v 67))).x).map bV]) (ns := [1, 1, 1, 1, 1, 1, 32]) (Shp.cons rfl (Shp.cons rfl (Shp.cons rfl (Shp.cons rfl (Shp.cons rfl (Shp.cons rfl (Shp.cons (lenB (twoF_x _ _)) Shp.nil))))))) rfl) (h1 := by exact gV_one (OneL.one rfl (OneL.one rfl (OneL.one rfl (OneL.one rfl (OneL.one rfl (OneL.one rfl (OneL.arr OneL.nil)))))))) 1 S243 fun w245 S246 => ?_
    refine Pv (T_nil (W_ret ?_))
    refine ⟨_, ⟨_, _, _, rfl, rfl, run_loadVarA rfl rfl (gV_size (L := [[.slice a227 (twoF (pubT (trueEnds seed sl 67)) (pubT (ends m v 67))).A.length c228], [.slice a229 (twoF (pubT (trueEnds seed sl 67)) (pubT (ends m v 67))).B.length c230], [.bool ((twoF (pubT (trueEnds seed sl 67)) (pubT (ends m v 67))).k)], [.int .i64 ((twoF (pubT (trueEnds seed sl 67)) (pubT (ends m v 67))).a)], [.int .i64 ((twoF (pubT (trueEnds seed sl 67)) (pubT (ends m v 67))).c)], [.int .i64 ((twoF (pubT (trueEnds seed sl 67)) (pubT (ends m v 67))).q)], ((twoF (pubT (trueEnds seed sl 67)) (pubT (ends m v 67))).x).map bV]) (ns := [1, 1, 1, 1, 1, 1, 32]) (Shp.cons rfl (Shp.cons rfl (Shp.cons rfl (Shp.cons rfl (Shp.cons rfl (Shp.cons rfl (Shp.cons (lenB (twoF_x _ _)) Shp.nil))))))) rfl) (S246.cells 1 rfl), ⟨_, _, rfl, rfl, rfl⟩⟩, ?_⟩
    exact fg_end (f := fgO (expl seed (wasAt L sl) m h sh sl v p)) (b := (expl seed (wasAt L sl) m h sh sl v p).isSome) (f' := twoF (pubT (trueEnds seed sl 67)) (pubT (ends m v 67))) (by rw [hE]; exact (explS_3 hp1 hb2 hn3).trans (twoF_ne hn3).symm) (by rw [hE]; rfl) r231 r232 S246.fin S246.below
   refine W_skip (W_seq ?_)
   have hp3 : pubT (trueEnds seed sl 67) = pubT (ends m v 67) := by simpa using h244
   refine W_region (Pv ?_)
   refine Cs g_aumbry_wots_Digits ((digits_w_ok S243.le (hT.mono (hl12.trans (hl16.trans (hl35.trans (hl112.trans (hl172.trans (hl197.trans (hl209.trans (hl221.trans (hl225.trans hl237)))))))))) (hv.mono (hl12.trans (hl16.trans (hl35.trans (hl112.trans (hl172.trans (hl197.trans (hl209.trans (hl221.trans (hl225.trans hl237)))))))))) (by omega)).mono ?_)
   rintro e w252 ⟨a247, c248, hc249, rfl, ho250, hB251⟩
   have S253 := S243.own hB251 ho250
   refine ⟨_, rfl, trivial, ?_⟩
   refine Pv (Nr ?_)
   refine Pv (T_nil (W_seq (Wr ?_)))
   refine P3 (T_nil ?_)
   refine W_bool 144 true rfl (decide_eq_true (by omega)) ?_
   refine W_cond_true rfl (Wr (Pv ?_))
   refine Cs g_aumbry_wots_Digits ((digits_w_ok S253.le (hT.mono (hl12.trans (hl16.trans (hl35.trans (hl112.trans (hl172.trans (hl197.trans (hl209.trans (hl221.trans (hl225.trans hl237)))))))))) (hr29.mono (hl35.trans (hl112.trans (hl172.trans (hl197.trans (hl209.trans (hl221.trans (hl225.trans hl237)))))))) (by omega)).mono ?_)
   rintro e w259 ⟨a254, c255, hc256, rfl, ho257, hB258⟩
   have S260 := S253.own hB258 ho257
   refine ⟨_, rfl, trivial, ?_⟩
   refine Pv (T_nil (W_seq (Wr ?_)))
   refine P2 ?_
   obtain ⟨G262, hl263, S261, r264⟩ := S260.stillRow 0 rfl
   obtain ⟨G266, hl267, S265, r268⟩ := S261.stillRow 0 rfl
   refine Cs g_slices_Equal_int_int ((equalI_ok S265.le (r264.mono hl267) r268 (by omega)).mono ?_)
   rintro e w270 ⟨rfl, hB269⟩
   have S271 := S265.call hB269
   refine ⟨_, rfl, trivial, ?_⟩
   refine T_nil (Aa (fun h272 => ?_) (fun h272 => ?_))
   ·refine W_seq ?_
    have hd4 : (Go.Au.digits (wasAt L sl)) = (Go.Au.digits m) := h272
    refine W_region (Pv ?_)
    have rs277 : Rds G266 [.slice a26 (wasAt L sl).length c27] [(wasAt L sl)] := Rds.cons (Rd.canonB (hr29.mono (hl35.trans (hl112.trans (hl172.trans (hl197.trans (hl209.trans (hl221.trans (hl225.trans (hl237.trans (hl263.trans hl267))))))))))) (Rds.nil _)
    refine Ad (hone := by simp [Value.cells]; rfl) [.slice a26 (wasAt L sl).length c27] fun a273 w274 hB275 ho276 => ?_
    have S278 := S271.own hB275 ho276
    refine ⟨trivial, ?_⟩
    obtain ⟨G280, hl281, S279, r282⟩ := S278.stillRow 0 rfl
    have r283 := RdL.mk r282 (rs277.mono hl281)
    refine T_callS rfl rfl g_aumbry_sha_Text rfl rfl rfl rfl ((text_ok S279.le (hT.mono (hl12.trans (hl16.trans (hl35.trans (hl112.trans (hl172.trans (hl197.trans (hl209.trans (hl221.trans (hl225.trans (hl237.trans (hl263.trans (hl267.trans hl281))))))))))))) r283 (text1 (by decide) (by omega))).mono ?_)
    rintro e w289 ⟨a284, c285, hc286, rfl, ho287, hB288⟩
    have S290 := S279.own hB288 ho287
    refine ⟨_, rfl, trivial, ?_⟩
    refine Pv ?_
    have rs295 : Rds G280 [.slice aa3 m.length cc3] [m] := Rds.cons (Rd.canonB (hv.mono (hl12.trans (hl16.trans (hl35.trans (hl112.trans (hl172.trans (hl197.trans (hl209.trans (hl221.trans (hl225.trans (hl237.trans (hl263.trans (hl267.trans hl281)))))))))))))) (Rds.nil _)
    refine Ad (hone := by simp [Value.cells]; rfl) [.slice aa3 m.length cc3] fun a291 w292 hB293 ho294 => ?_
    have S296 := S290.own hB293 ho294
    refine ⟨trivial, ?_⟩
    obtain ⟨G298, hl299, S297, r300⟩ := S296.stillRow 0 rfl
    have r301 := RdL.mk r300 (rs295.mono hl299)
    refine T_callS rfl rfl g_aumbry_sha_Text rfl rfl rfl rfl ((text_ok S297.le (hT.mono (hl12.trans (hl16.trans (hl35.trans (hl112.trans (hl172.trans (hl197.trans (hl209.trans (hl221.trans (hl225.trans (hl237.trans (hl263.trans (hl267.trans (hl281.trans hl299)))))))))))))) r301 (text1 (by decide) (by omega))).mono ?_)
    rintro e w307 ⟨a302, c303, hc304, rfl, ho305, hB306⟩
    have S308 := S297.own hB306 ho305
    refine ⟨_, rfl, trivial, ?_⟩
    obtain ⟨G310, hl311, S309, r312⟩ := S308.stillRow 1 rfl
    obtain ⟨G314, hl315, S313, r316⟩ := S309.stillRow 0 rfl
    refine T_buildS (cells := #[.slice a284 ((Go.Au.text ([109, 115, 103]) ([(wasAt L sl)])).length) c285, .slice a302 ((Go.Au.text ([109, 115, 103]) ([m])).length) c303]) rfl rfl rfl rfl rfl rfl rfl rfl rfl rfl (T_buildS (cells := (gV [[.slice a284 ((Go.Au.text ([109, 115, 103]) ([(wasAt L sl)])).length) c285], [.slice a302 ((Go.Au.text ([109, 115, 103]) ([m])).length) c303], [.bool false], [.int .i64 0], [.int .i64 0], [.int .i64 0], (List.replicate 32 0).map bV] : Value).cells) rfl rfl rfl rfl rfl rfl (fill_g (L := [[.slice none 0 0], [.slice none 0 0], [.bool false], [.int .i64 0], [.int .i64 0], [.int .i64 0], (List.replicate 32 0).map bV]) (ns := [1, 1, 1, 1, 1, 1, 32]) (v := .agg #[.slice a284 ((Go.Au.text ([109, 115, 103]) ([(wasAt L sl)])).length) c285, .slice a302 ((Go.Au.text ([109, 115, 103]) ([m])).length) c303]) (off := 0) (k := 2) rfl (Shp.cons rfl (Shp.cons rfl (Shp.cons rfl (Shp.cons rfl (Shp.cons rfl (Shp.cons rfl (Shp.cons (lenB List.length_replicate) Shp.nil))))))) 0 2 [[.slice a284 ((Go.Au.text ([109, 115, 103]) ([(wasAt L sl)])).length) c285], [.slice a302 ((Go.Au.text ([109, 115, 103]) ([m])).length) c303]] rfl (by first | rfl | simp [hVs, *]) rfl rfl fill_gnil) rfl rfl rfl ?_)
    refine Ag (hl := by exact gV_size (L := [[.slice a284 ((Go.Au.text ([109, 115, 103]) ([(wasAt L sl)])).length) c285], [.slice a302 ((Go.Au.text ([109, 115, 103]) ([m])).length) c303], [.bool false], [.int .i64 0], [.int .i64 0], [.int .i64 0], (List.replicate 32 0).map bV]) (ns := [1, 1, 1, 1, 1, 1, 32]) (Shp.cons rfl (Shp.cons rfl (Shp.cons rfl (Shp.cons rfl (Shp.cons rfl (Shp.cons rfl (Shp.cons (lenB List.length_replicate) Shp.nil))))))) rfl) (hl2 := by exact gV_size (L := [[.slice a284 ((Go.Au.text ([109, 115, 103]) ([(wasAt L sl)])).length) c285], [.slice a302 ((Go.Au.text ([109, 115, 103]) ([m])).length) c303], [.bool false], [.int .i64 0], [.int .i64 0], [.int .i64 0], (List.replicate 32 0).map bV]) (ns := [1, 1, 1, 1, 1, 1, 32]) (Shp.cons rfl (Shp.cons rfl (Shp.cons rfl (Shp.cons rfl (Shp.cons rfl (Shp.cons rfl (Shp.cons (lenB List.length_replicate) Shp.nil))))))) rfl) (h1 := by exact gV_one (OneL.one rfl (OneL.one rfl (OneL.one rfl (OneL.one rfl (OneL.one rfl (OneL.one rfl (OneL.arr OneL.nil)))))))) 1 S313 fun w317 S318 => ?_
    refine Pv (T_nil (W_ret ?_))
    refine ⟨_, ⟨_, _, _, rfl, rfl, run_loadVarA rfl rfl (gV_size (L := [[.slice a284 ((Go.Au.text ([109, 115, 103]) ([(wasAt L sl)])).length) c285], [.slice a302 ((Go.Au.text ([109, 115, 103]) ([m])).length) c303], [.bool false], [.int .i64 0], [.int .i64 0], [.int .i64 0], (List.replicate 32 0).map bV]) (ns := [1, 1, 1, 1, 1, 1, 32]) (Shp.cons rfl (Shp.cons rfl (Shp.cons rfl (Shp.cons rfl (Shp.cons rfl (Shp.cons rfl (Shp.cons (lenB List.length_replicate) Shp.nil))))))) rfl) (S318.cells 1 rfl), ⟨_, _, rfl, rfl, rfl⟩⟩, ?_⟩
    exact fg_end (f := fgO (expl seed (wasAt L sl) m h sh sl v p)) (b := (expl seed (wasAt L sl) m h sh sl v p).isSome) (f' := fgB (msgT (wasAt L sl)) (msgT m)) (by rw [hE]; exact explS_4 hp1 hb2 hp3 hW0 hd4) (by rw [hE]; rfl) (r312.mono hl315) r316 S318.fin S318.below
   refine W_skip (W_block ?_)
   have hd4 : ¬ (Go.Au.digits (wasAt L sl)) = (Go.Au.digits m) := h272
   have hKlt := fch_lt hd4
   refine W_loop (fun M ρ w' => ∃ (k : Nat) (G319 : Hp), M = 67 - k ∧ k < 67 ∧ fch (Go.Au.digits m) (Go.Au.digits (wasAt L sl)) (67 - k) k = fch (Go.Au.digits m) (Go.Au.digits (wasAt L sl)) 67 0 ∧ ρ = [(5, .pointer (some ⟨b1, 0, none⟩)), (9, .pointer (some ⟨b4, 0, none⟩)), (10, .pointer (some ⟨b7, 0, none⟩)), (30, .slice a247 67 c248), (31, .int .i64 (k : Int)), (32, .slice a254 67 c255)] ∧ G266.le G319 ∧ St w H G319 [.blk b239 (gV [[.slice a227 (twoF (pubT (trueEnds seed sl 67)) (pubT (ends m v 67))).A.length c228], [.slice a229 (twoF (pubT (trueEnds seed sl 67)) (pubT (ends m v 67))).B.length c230], [.bool ((twoF (pubT (trueEnds seed sl 67)) (pubT (ends m v 67))).k)], [.int .i64 ((twoF (pubT (trueEnds seed sl 67)) (pubT (ends m v 67))).a)], [.int .i64 ((twoF (pubT (trueEnds seed sl 67)) (pubT (ends m v 67))).c)], [.int .i64 ((twoF (pubT (trueEnds seed sl 67)) (pubT (ends m v 67))).q)], ((twoF (pubT (trueEnds seed sl 67)) (pubT (ends m v 67))).x).map bV] : Value).cells 39, .blk b7 (gV [[.slice none 0 0], [.slice none 0 0], [.bool false], [.int .i64 0], [.int .i64 0], [.int .i64 0], (List.replicate 32 0).map bV] : Value).cells 39, .blk b164 (.agg #[.slice a152 (brA (brk ((2 ^ h.toNat : Nat) : Int) sl (pub seed sl) (pubH (ends m v 67)) (Go.Au.beside (rowP (mleaves seed h.toNat)) sl.toNat (lg (mleaves seed h.toNat).length)) p)).length c153, .slice a154 (brB (brk ((2 ^ h.toNat : Nat) : Int) sl (pub seed sl) (pubH (ends m v 67)) (Go.Au.beside (rowP (mleaves seed h.toNat)) sl.toNat (lg (mleaves seed h.toNat).length)) p)).length c155] : Value).cells 35] w')
    (67 - 0) [(5, .pointer (some ⟨b1, 0, none⟩)), (9, .pointer (some ⟨b4, 0, none⟩)), (10, .pointer (some ⟨b7, 0, none⟩)), (30, .slice a247 67 c248), (31, .int .i64 ((0 : Nat) : Int)), (32, .slice a254 67 c255)] ⟨rfl, rfl, rfl, rfl, ciI, rfl, trivial⟩ ⟨0, G266, rfl, (by omega), (by rfl), rfl, Hp.le.refl _, S271⟩ ?_
   rintro M ρ w321 ⟨k, G319, rfl, hk67, hfq, rfl, hl320, S322⟩
   iterate 2 refine W_seq ?_
   refine W_draw rfl (by kernel_rfl) ?_
   have S325 := S322.drew
   refine P2 ?_
   refine Af k (r268.mono hl320) fun b326 o327 hc328 => ?_
   have hc329 := hc328 0 (.int .i64 ((Go.Au.digits m).getD k 0)) (at_i (Go.Au.digits m) k (by omega))
   simp only [Nat.add_zero] at hc329
   refine Ab (r := by exact hc329) S325 ?_
   refine P2 ?_
   refine Af k (r264.mono (hl267.trans hl320)) fun b330 o331 hc332 => ?_
   have hc333 := hc332 0 (.int .i64 ((Go.Au.digits (wasAt L sl)).getD k 0)) (at_i (Go.Au.digits (wasAt L sl)) k (by omega))
   simp only [Nat.add_zero] at hc333
   refine Ab (r := by exact hc333) S325 ?_
   refine Pv (T_nil ?_)
   refine Aa (fun h334 => ?_) (fun h334 => ?_)
   ·refine W_skip (W_block (W_region (Pv ?_)))
    refine Ar ?_
    refine Pv (T_nil ?_)
    have HQ := (fch_go (d := (Go.Au.digits m)) (e := (Go.Au.digits (wasAt L sl))) (c := k) (n := 67) (by omega) (by omega)).symm.trans hfq
    exact ⟨67 - (k + 1), [(5, .pointer (some ⟨b1, 0, none⟩)), (9, .pointer (some ⟨b4, 0, none⟩)), (10, .pointer (some ⟨b7, 0, none⟩)), (30, .slice a247 67 c248), (31, .int .i64 ((k + 1 : Nat) : Int)), (32, .slice a254 67 c255)], by omega, ⟨rfl, rfl, rfl, rfl, ciI, rfl, trivial⟩, k + 1, G319, rfl, (by have := fch_ge (Go.Au.digits m) (Go.Au.digits (wasAt L sl)) (67 - (k + 1)) (k + 1); omega), (by exact HQ), rfl, hl320, S325⟩
   refine W_exit (W_seq ?_)
   have hkW : k = chW (wasAt L sl) m := by rw [chW_n (by omega), ← hfq]; exact (fch_stop (by omega) (by omega)).symm
   have hdk := digits_at m k (by omega)
   refine W_draw rfl (by kernel_rfl) ?_
   have S335 := S325.drew
   refine T_loadGA _ S335 (still_cells (hl320 _ _ (hl267 _ _ (hl263 _ _ (hl237 _ _ (hl225 _ _ (hl221 _ _ (hl209 _ _ (hl197 _ _ (hl172 _ _ (hl112 _ _ (hl35 _ _ (hl16 _ _ r13))))))))))))) rfl rfl rfl rfl rfl rfl rfl rfl (hVs hs) (Fl 1 ?_)
   refine Ab (r := by exact still_cell (hl320 _ _ (hl267 _ _ (hl263 _ _ (hl237 _ _ (hl225 _ _ (hl221 _ _ (hl209 _ _ (hl197 _ _ (hl172 _ _ (hl112 _ _ (hl35 _ _ r17))))))))))) rfl) S335 ?_
   refine P3 ?_
   refine Af k (r268.mono hl320) fun b336 o337 hc338 => ?_
   have hc339 := hc338 0 (.int .i64 ((Go.Au.digits m).getD k 0)) (at_i (Go.Au.digits m) k (by omega))
   simp only [Nat.add_zero] at hc339
   refine Ab (r := by exact hc339) S335 ?_
   refine T_re (v' := .int .i64 ((((Go.Au.digits m).getD k 0).toNat : Nat) : Int)) (congrArg (Value.int .i64) (by omega)) ?_
   refine Fl 2 ?_
   refine Ab (r := by exact still_cell (hl320 _ _ (hl267 _ _ (hl263 _ _ (hl237 _ _ (hl225 _ _ (hl221 _ _ (hl209 _ _ (hl197 _ _ (hl172 _ _ (hl112 _ _ (hl35 _ _ r17))))))))))) rfl) S335 ?_
   refine Pv ?_
   refine Af k (h1.mono (hl12.trans (hl16.trans (hl35.trans (hl112.trans (hl172.trans (hl197.trans (hl209.trans (hl221.trans (hl225.trans (hl237.trans (hl263.trans (hl267.trans hl320))))))))))))).2 fun b340 o341 hc342 => ?_
   have hc343 := cells_h (h1.mono (hl12.trans (hl16.trans (hl35.trans (hl112.trans (hl172.trans (hl197.trans (hl209.trans (hl221.trans (hl225.trans (hl237.trans (hl263.trans (hl267.trans hl320))))))))))))).1 k (by omega) hc342
   have hl344 := len_h (h1.mono (hl12.trans (hl16.trans (hl35.trans (hl112.trans (hl172.trans (hl197.trans (hl209.trans (hl221.trans (hl225.trans (hl237.trans (hl263.trans (hl267.trans hl320))))))))))))).1 k (by omega)
   refine T_loadGA _ S335 hc343 rfl rfl rfl rfl rfl rfl rfl rfl (hVs hl344) (Cs g_aumbry_mss_step ((step_ok2 S335.le (hT.mono (hl12.trans (hl16.trans (hl35.trans (hl112.trans (hl172.trans (hl197.trans (hl209.trans (hl221.trans (hl225.trans (hl237.trans (hl263.trans (hl267.trans hl320))))))))))))) hs hl344 sl (k : Int) (((Go.Au.digits m).getD k 0).toNat) (by omega) (by omega) (by omega)).mono ?_))
   rintro e w352 ⟨a345, c346, a347, c348, rfl, r349, r350, hB351⟩
   obtain ⟨G354, eG356⟩ : ∃ G, G = F.ext G319 w321.drew.drew.heap.size w352 := ⟨_, rfl⟩
   obtain ⟨hl355, S353⟩ := S335.ext hB351
   rw [← eG356] at hl355 S353 r349 r350
   refine ⟨_, rfl, trivial, ?_⟩
   refine Ag (hl := by exact gV_size (L := [[.slice a345 (stepF seed sl (k : Int) (((Go.Au.digits m).getD k 0).toNat) (v.getD k [])).A.length c346], [.slice a347 (stepF seed sl (k : Int) (((Go.Au.digits m).getD k 0).toNat) (v.getD k [])).B.length c348], [.bool ((stepF seed sl (k : Int) (((Go.Au.digits m).getD k 0).toNat) (v.getD k [])).k)], [.int .i64 ((stepF seed sl (k : Int) (((Go.Au.digits m).getD k 0).toNat) (v.getD k [])).a)], [.int .i64 ((stepF seed sl (k : Int) (((Go.Au.digits m).getD k 0).toNat) (v.getD k [])).c)], [.int .i64 ((stepF seed sl (k : Int) (((Go.Au.digits m).getD k 0).toNat) (v.getD k [])).q)], ((stepF seed sl (k : Int) (((Go.Au.digits m).getD k 0).toNat) (v.getD k [])).x).map bV]) (ns := [1, 1, 1, 1, 1, 1, 32]) (Shp.cons rfl (Shp.cons rfl (Shp.cons rfl (Shp.cons rfl (Shp.cons rfl (Shp.cons rfl (Shp.cons (lenB (stepTo_ok hl344 _).2) Shp.nil))))))) rfl) (hl2 := by exact gV_size (L := [[.slice a345 (stepF seed sl (k : Int) (((Go.Au.digits m).getD k 0).toNat) (v.getD k [])).A.length c346], [.slice a347 (stepF seed sl (k : Int) (((Go.Au.digits m).getD k 0).toNat) (v.getD k [])).B.length c348], [.bool ((stepF seed sl (k : Int) (((Go.Au.digits m).getD k 0).toNat) (v.getD k [])).k)], [.int .i64 ((stepF seed sl (k : Int) (((Go.Au.digits m).getD k 0).toNat) (v.getD k [])).a)], [.int .i64 ((stepF seed sl (k : Int) (((Go.Au.digits m).getD k 0).toNat) (v.getD k [])).c)], [.int .i64 ((stepF seed sl (k : Int) (((Go.Au.digits m).getD k 0).toNat) (v.getD k [])).q)], ((stepF seed sl (k : Int) (((Go.Au.digits m).getD k 0).toNat) (v.getD k [])).x).map bV]) (ns := [1, 1, 1, 1, 1, 1, 32]) (Shp.cons rfl (Shp.cons rfl (Shp.cons rfl (Shp.cons rfl (Shp.cons rfl (Shp.cons rfl (Shp.cons (lenB (stepTo_ok hl344 _).2) Shp.nil))))))) rfl) (h1 := by exact gV_one (OneL.one rfl (OneL.one rfl (OneL.one rfl (OneL.one rfl (OneL.one rfl (OneL.one rfl (OneL.arr OneL.nil)))))))) 1 S353 fun w357 S358 => ?_
   refine Pv (T_nil (W_ret ?_))
   refine ⟨_, ⟨_, _, _, rfl, rfl, run_loadVarA rfl rfl (gV_size (L := [[.slice a345 (stepF seed sl (k : Int) (((Go.Au.digits m).getD k 0).toNat) (v.getD k [])).A.length c346], [.slice a347 (stepF seed sl (k : Int) (((Go.Au.digits m).getD k 0).toNat) (v.getD k [])).B.length c348], [.bool ((stepF seed sl (k : Int) (((Go.Au.digits m).getD k 0).toNat) (v.getD k [])).k)], [.int .i64 ((stepF seed sl (k : Int) (((Go.Au.digits m).getD k 0).toNat) (v.getD k [])).a)], [.int .i64 ((stepF seed sl (k : Int) (((Go.Au.digits m).getD k 0).toNat) (v.getD k [])).c)], [.int .i64 ((stepF seed sl (k : Int) (((Go.Au.digits m).getD k 0).toNat) (v.getD k [])).q)], ((stepF seed sl (k : Int) (((Go.Au.digits m).getD k 0).toNat) (v.getD k [])).x).map bV]) (ns := [1, 1, 1, 1, 1, 1, 32]) (Shp.cons rfl (Shp.cons rfl (Shp.cons rfl (Shp.cons rfl (Shp.cons rfl (Shp.cons rfl (Shp.cons (lenB (stepTo_ok hl344 _).2) Shp.nil))))))) rfl) (S358.cells 1 rfl), ⟨_, _, rfl, rfl, rfl⟩⟩, ?_⟩
   exact fg_end (f := fgO (expl seed (wasAt L sl) m h sh sl v p)) (b := (expl seed (wasAt L sl) m h sh sl v p).isSome) (f' := (stepF seed sl ((k : Nat) : Int) ((Go.Au.digits m).getD k 0).toNat (v.getD k []))) (by rw [hE, explS_5 hp1 hb2 hp3 (fun x => hd4 x.2), ← hkW]; rfl) (by rw [hE]; rfl) r349 r350 S358.fin S358.below
  refine W_seq ?_
  obtain ⟨G360, hl361, S359, r362⟩ := S136.stillBlk 0 rfl
  refine W_tree (planF Tryz.prog G360 [104, 107, 109, 110, 113]) (.step 0 (.step 1 (.step 2 (.step 3 (.step 4 (.step 5 (.step 6 (.step 7 (.step 8 (.step 9 (.step 10 (.step 11 (.step 12 (.fork 13 17 (.step 14 (.step 15 (.step 16 (.step 17 (.step 18 (.step 19 .done)))))) (.step 13 (.step 14 (.step 15 (.step 16 (.step 18 (.step 19 .done)))))))))))))))))))) rfl (by kernel_rfl) S359.le ?_
  have S363 := S359.drew
  refine TT_step rfl (Pv ?_)
  refine Nt rfl (T_shl rfl rfl rfl rfl rfl rfl (by omega) ?_)
  refine T_re (v' := .int .i64 ((2 ^ h.toNat : Nat) : Int)) (congrArg (Value.int .i64) (shlI (by omega) (by omega))) ?_
  refine Nt rfl (Fl 1 ?_)
  refine Nt rfl (Ak (r := by exact still_cell (hl361 _ _ (hl112 _ _ (hl35 _ _ r17))) rfl) ?_)
  refine Nt rfl (Pv ?_)
  refine Nt rfl (Fl 1 ?_)
  refine Nt rfl (Ak (r := by exact still_cell (hl361 _ _ (hl112 _ _ (hl35 _ _ r17))) rfl) ?_)
  refine Nt rfl (Af sl.toNat (r116.mono hl361).2 fun b364 o365 hc366 => ?_)
  have hc367 := cells_h (r116.mono hl361).1 sl.toNat (by omega) hc366
  have hl368 := len_h (r116.mono hl361).1 sl.toNat (by omega)
  refine Nt rfl (T_loadGAP _ (fun _ h => h) hc367 rfl rfl rfl rfl rfl rfl rfl rfl (hVs hl368) (T_re (v' := hV (pub seed sl)) (congrArg (fun q => hV q) (by rw [mleaves_at (by omega), show ((sl.toNat : Nat) : Int) = sl by omega])) ?_))
  refine Nt rfl (T_loadGAP _ (fun _ h => h) (still_cells r362) rfl rfl rfl rfl rfl rfl rfl rfl (hVs (pubH_len _)) (Nt rfl (Pv ?_)))
  refine Nt rfl (Fl 3 ?_)
  refine Nt rfl (Ak (r := by exact still_cell (hl361 _ _ (hl112 _ _ (hl35 _ _ r17))) rfl) (T_nil ?_))
  refine TT_fork rfl rfl ?_ ?_
  ·obtain ⟨G370, hl371, S369, r372⟩ := S363.stillRow 0 rfl
   have r373 := RdH.mk (beside_all r116.1 (by omega) (Nat.le_refl _)) (by decide) r372
   refine Cs g_aumbry_tree_Break ((break_ok S369.le (hT.mono (hl12.trans (hl16.trans (hl35.trans (hl112.trans (hl361.trans hl371)))))) ((2 ^ h.toNat : Nat) : Int) sl (pub_len _ _) (pubH_len _) r373 (h2.mono (hl12.trans (hl16.trans (hl35.trans (hl112.trans (hl361.trans hl371))))))).mono ?_)
   rintro e w381 ⟨a374, c375, a376, c377, rfl, r378, r379, hB380⟩
   obtain ⟨G383, eG385⟩ : ∃ G, G = F.ext G370 w135.drew.heap.size w381 := ⟨_, rfl⟩
   obtain ⟨hl384, S382⟩ := S369.ext hB380
   rw [← eG385] at hl384 S382 r378 r379
   refine ⟨_, rfl, (((hl371.trans hl384)).trans S382.le), ?_⟩
   iterate 3 (refine T_nil ?_; refine TT_step rfl ?_; refine Pv ?_)
   refine Nt rfl (Ac (hC := fun _ h => ((hl371.trans hl384)).trans h) S382 fun b386 w387 S388 => ?_)
   refine Nt rfl (Ag (hC := fun _ h => ((hl371.trans hl384)).trans h) (hl := by first | rfl | simp [hVs, *]) (hl2 := by first | rfl | simp [hVs, *]) (h1 := by exact one_all rfl) 0 S388 fun w389 S390 => ?_)
   refine Nt rfl (Pv (T_nil (TT_done ?_)))
   have S391 := S390.drop 2
   have S392 := S391.swap01
   exact Ws (J175 _ _ ⟨_, _, _, _, _, G383, rfl, (hl361.trans (hl371.trans hl384)), S392, r378, r379⟩)
  refine Ac (hC := fun _ h => ((Hp.le.refl _)).trans h) S363 fun b393 w394 S395 => ?_
  refine Nt rfl ?_
  obtain ⟨G397, hl398, S396, r399⟩ := S395.stillRow 1 rfl
  have r400 := RdH.mk (beside_all r116.1 (by omega) (Nat.le_refl _)) (by decide) r399
  refine Cs g_aumbry_tree_Break ((break_ok S396.le (hT.mono (hl12.trans (hl16.trans (hl35.trans (hl112.trans (hl361.trans hl398)))))) ((2 ^ h.toNat : Nat) : Int) sl (pub_len _ _) (pubH_len _) r400 (h2.mono (hl12.trans (hl16.trans (hl35.trans (hl112.trans (hl361.trans hl398))))))).mono ?_)
  rintro e w408 ⟨a401, c402, a403, c404, rfl, r405, r406, hB407⟩
  obtain ⟨G410, eG412⟩ : ∃ G, G = F.ext G397 w394.heap.size w408 := ⟨_, rfl⟩
  obtain ⟨hl411, S409⟩ := S396.ext hB407
  rw [← eG412] at hl411 S409 r405 r406
  refine ⟨_, rfl, (((hl398.trans hl411)).trans S409.le), ?_⟩
  iterate 3 (refine T_nil ?_; refine TT_step rfl ?_; refine Pv ?_)
  refine Nt rfl (Ag (hC := fun _ h => ((hl398.trans hl411)).trans h) (hl := by first | rfl | simp [hVs, *]) (hl2 := by first | rfl | simp [hVs, *]) (h1 := by exact one_all rfl) 0 S409 fun w413 S414 => ?_)
  refine Nt rfl (Pv (T_nil (TT_done ?_)))
  have S415 := S414.drop 2
  have S416 := S415.swap01
  exact Ws (J175 _ _ ⟨_, _, _, _, _, G410, rfl, (hl361.trans (hl398.trans hl411)), S416, r405, r406⟩)
 refine W_seq ?_
 obtain ⟨G418, hl419, S417, r420⟩ := S57.stillBlk 0 rfl
 refine W_tree (planF Tryz.prog G418 [78, 79]) (.step 0 (.step 1 (.step 4 (.step 5 (.step 6 (.fork 2 12 (.fork 3 12 (.fork 7 12 (.fork 8 12 (.step 9 (.step 10 (.step 11 (.step 12 (.step 13 (.step 14 .done)))))) (.step 8 (.step 9 (.step 10 (.step 11 (.step 13 (.step 14 .done))))))) (.step 7 (.step 8 (.step 9 (.step 10 (.step 11 (.step 13 (.step 14 .done)))))))) (.step 3 (.step 7 (.step 8 (.step 9 (.step 10 (.step 11 (.step 13 (.step 14 .done))))))))) (.step 2 (.step 3 (.step 7 (.step 8 (.step 9 (.step 10 (.step 11 (.step 13 (.step 14 .done))))))))))))))) rfl (by kernel_rfl) S417.le ?_
 have S421 := S417.drew
 iterate 2 (refine TT_step rfl ?_; refine Pv ?_; refine T_nil ?_)
 refine TT_step rfl (Fl 0 ?_)
 refine Nt rfl (Ak (r := by exact still_cell (hl419 _ _ (hl35 _ _ r17)) rfl) ?_)
 refine Nt rfl (T_loadGAP _ (fun _ h => h) (still_cells r420) rfl rfl rfl rfl rfl rfl rfl rfl (hVs (climbS_len _ _ _ _ _)) (T_nil (TT_fork rfl rfl ?_ ?_)))
 ·obtain ⟨G423, hl424, S422, r425⟩ := S421.stillRow 0 rfl
  have r426 := RdH.mk (mleaves_all _ _) (by decide) r425
  refine Cs g_aumbry_tree_Root ((root_ok S422.le (hT.mono (hl12.trans (hl16.trans (hl35.trans (hl419.trans hl424))))) r426 (by omega)).mono ?_)
  rintro e w428 ⟨rfl, hB427⟩
  have S429 := S422.call hB427
  refine ⟨_, rfl, ((hl424).trans S429.le), ?_⟩
  refine T_nil (TT_fork rfl rfl ?_ ?_)
  ·refine Cs g_aumbry_mss_printed ((printT_ok S429.le (hT.mono (hl12.trans (hl16.trans (hl35.trans (hl419.trans hl424))))) h (by omega) (root_len r426.1)).mono ?_)
   rintro e w435 ⟨a430, c431, hc432, rfl, ho433, hB434⟩
   have S436 := S429.own hB434 ho433
   refine ⟨_, rfl, ((hl424).trans S436.le), ?_⟩
   refine T_nil (TT_fork rfl rfl ?_ ?_)
   ·refine Cs g_aumbry_mss_printed ((printT_ok S436.le (hT.mono (hl12.trans (hl16.trans (hl35.trans (hl419.trans hl424))))) sh (by omega) (climbS_len _ _ _ _ _)).mono ?_)
    rintro e w442 ⟨a437, c438, hc439, rfl, ho440, hB441⟩
    have S443 := S436.own hB441 ho440
    refine ⟨_, rfl, ((hl424).trans S443.le), ?_⟩
    refine T_nil (TT_fork rfl rfl ?_ ?_)
    ·obtain ⟨G445, hl446, S444, r447⟩ := S443.stillRow 1 rfl
     obtain ⟨G449, hl450, S448, r451⟩ := S444.stillRow 0 rfl
     refine Cs g_aumbry_mss_two ((two_ok S448.le (r447.mono hl450) r451).mono ?_)
     rintro e w459 ⟨a452, c453, a454, c455, rfl, r456, r457, hB458⟩
     obtain ⟨G461, eG463⟩ : ∃ G, G = F.ext G449 w442.heap.size w459 := ⟨_, rfl⟩
     obtain ⟨hl462, S460⟩ := S448.ext hB458
     rw [← eG463] at hl462 S460 r456 r457
     refine ⟨_, rfl, (((hl424.trans (hl446.trans (hl450.trans hl462)))).trans S460.le), ?_⟩
     iterate 3 (refine T_nil ?_; refine TT_step rfl ?_; refine Pv ?_)
     refine Nt rfl (Ac (hC := fun _ h => ((hl424.trans (hl446.trans (hl450.trans hl462)))).trans h) S460 fun b464 w465 S466 => ?_)
     refine Nt rfl (Ag (hC := fun _ h => ((hl424.trans (hl446.trans (hl450.trans hl462)))).trans h) (hl := by exact gV_size (L := [[.slice a452 (twoF (printT h (Go.Au.root (mleaves seed h.toNat))) (printT sh (climbS m sh sl v p))).A.length c453], [.slice a454 (twoF (printT h (Go.Au.root (mleaves seed h.toNat))) (printT sh (climbS m sh sl v p))).B.length c455], [.bool ((twoF (printT h (Go.Au.root (mleaves seed h.toNat))) (printT sh (climbS m sh sl v p))).k)], [.int .i64 ((twoF (printT h (Go.Au.root (mleaves seed h.toNat))) (printT sh (climbS m sh sl v p))).a)], [.int .i64 ((twoF (printT h (Go.Au.root (mleaves seed h.toNat))) (printT sh (climbS m sh sl v p))).c)], [.int .i64 ((twoF (printT h (Go.Au.root (mleaves seed h.toNat))) (printT sh (climbS m sh sl v p))).q)], ((twoF (printT h (Go.Au.root (mleaves seed h.toNat))) (printT sh (climbS m sh sl v p))).x).map bV]) (ns := [1, 1, 1, 1, 1, 1, 32]) (Shp.cons rfl (Shp.cons rfl (Shp.cons rfl (Shp.cons rfl (Shp.cons rfl (Shp.cons rfl (Shp.cons (lenB (twoF_x _ _)) Shp.nil))))))) rfl) (hl2 := by exact gV_size (L := [[.slice a452 (twoF (printT h (Go.Au.root (mleaves seed h.toNat))) (printT sh (climbS m sh sl v p))).A.length c453], [.slice a454 (twoF (printT h (Go.Au.root (mleaves seed h.toNat))) (printT sh (climbS m sh sl v p))).B.length c455], [.bool ((twoF (printT h (Go.Au.root (mleaves seed h.toNat))) (printT sh (climbS m sh sl v p))).k)], [.int .i64 ((twoF (printT h (Go.Au.root (mleaves seed h.toNat))) (printT sh (climbS m sh sl v p))).a)], [.int .i64 ((twoF (printT h (Go.Au.root (mleaves seed h.toNat))) (printT sh (climbS m sh sl v p))).c)], [.int .i64 ((twoF (printT h (Go.Au.root (mleaves seed h.toNat))) (printT sh (climbS m sh sl v p))).q)], ((twoF (printT h (Go.Au.root (mleaves seed h.toNat))) (printT sh (climbS m sh sl v p))).x).map bV]) (ns := [1, 1, 1, 1, 1, 1, 32]) (Shp.cons rfl (Shp.cons rfl (Shp.cons rfl (Shp.cons rfl (Shp.cons rfl (Shp.cons rfl (Shp.cons (lenB (twoF_x _ _)) Shp.nil))))))) rfl) (h1 := by exact gV_one (OneL.one rfl (OneL.one rfl (OneL.one rfl (OneL.one rfl (OneL.one rfl (OneL.one rfl (OneL.arr OneL.nil)))))))) 0 S466 fun w467 S468 => ?_)
     refine Nt rfl (Pv (T_nil (TT_done ?_)))
     have S469 := S468.swap01
     exact Ws (J115 _ _ ⟨_, _, _, _, _, G461, rfl, (hl419.trans (hl424.trans (hl446.trans (hl450.trans hl462)))), S469, (r426.mono (hl446.trans (hl450.trans hl462))), r456, r457⟩)
    refine Ac (hC := fun _ h => (hl424).trans h) S443 fun b470 w471 S472 => ?_
    refine Nt rfl ?_
    obtain ⟨G474, hl475, S473, r476⟩ := S472.stillRow 2 rfl
    obtain ⟨G478, hl479, S477, r480⟩ := S473.stillRow 1 rfl
    refine Cs g_aumbry_mss_two ((two_ok S477.le (r476.mono hl479) r480).mono ?_)
    rintro e w488 ⟨a481, c482, a483, c484, rfl, r485, r486, hB487⟩
    obtain ⟨G490, eG492⟩ : ∃ G, G = F.ext G478 w471.heap.size w488 := ⟨_, rfl⟩
    obtain ⟨hl491, S489⟩ := S477.ext hB487
    rw [← eG492] at hl491 S489 r485 r486
    refine ⟨_, rfl, (((hl424.trans (hl475.trans (hl479.trans hl491)))).trans S489.le), ?_⟩
    iterate 3 (refine T_nil ?_; refine TT_step rfl ?_; refine Pv ?_)
    refine Nt rfl (Ag (hC := fun _ h => ((hl424.trans (hl475.trans (hl479.trans hl491)))).trans h) (hl := by exact gV_size (L := [[.slice a481 (twoF (printT h (Go.Au.root (mleaves seed h.toNat))) (printT sh (climbS m sh sl v p))).A.length c482], [.slice a483 (twoF (printT h (Go.Au.root (mleaves seed h.toNat))) (printT sh (climbS m sh sl v p))).B.length c484], [.bool ((twoF (printT h (Go.Au.root (mleaves seed h.toNat))) (printT sh (climbS m sh sl v p))).k)], [.int .i64 ((twoF (printT h (Go.Au.root (mleaves seed h.toNat))) (printT sh (climbS m sh sl v p))).a)], [.int .i64 ((twoF (printT h (Go.Au.root (mleaves seed h.toNat))) (printT sh (climbS m sh sl v p))).c)], [.int .i64 ((twoF (printT h (Go.Au.root (mleaves seed h.toNat))) (printT sh (climbS m sh sl v p))).q)], ((twoF (printT h (Go.Au.root (mleaves seed h.toNat))) (printT sh (climbS m sh sl v p))).x).map bV]) (ns := [1, 1, 1, 1, 1, 1, 32]) (Shp.cons rfl (Shp.cons rfl (Shp.cons rfl (Shp.cons rfl (Shp.cons rfl (Shp.cons rfl (Shp.cons (lenB (twoF_x _ _)) Shp.nil))))))) rfl) (hl2 := by exact gV_size (L := [[.slice a481 (twoF (printT h (Go.Au.root (mleaves seed h.toNat))) (printT sh (climbS m sh sl v p))).A.length c482], [.slice a483 (twoF (printT h (Go.Au.root (mleaves seed h.toNat))) (printT sh (climbS m sh sl v p))).B.length c484], [.bool ((twoF (printT h (Go.Au.root (mleaves seed h.toNat))) (printT sh (climbS m sh sl v p))).k)], [.int .i64 ((twoF (printT h (Go.Au.root (mleaves seed h.toNat))) (printT sh (climbS m sh sl v p))).a)], [.int .i64 ((twoF (printT h (Go.Au.root (mleaves seed h.toNat))) (printT sh (climbS m sh sl v p))).c)], [.int .i64 ((twoF (printT h (Go.Au.root (mleaves seed h.toNat))) (printT sh (climbS m sh sl v p))).q)], ((twoF (printT h (Go.Au.root (mleaves seed h.toNat))) (printT sh (climbS m sh sl v p))).x).map bV]) (ns := [1, 1, 1, 1, 1, 1, 32]) (Shp.cons rfl (Shp.cons rfl (Shp.cons rfl (Shp.cons rfl (Shp.cons rfl (Shp.cons rfl (Shp.cons (lenB (twoF_x _ _)) Shp.nil))))))) rfl) (h1 := by exact gV_one (OneL.one rfl (OneL.one rfl (OneL.one rfl (OneL.one rfl (OneL.one rfl (OneL.one rfl (OneL.arr OneL.nil)))))))) 0 S489 fun w493 S494 => ?_)
    refine Nt rfl (Pv (T_nil (TT_done ?_)))
    have S495 := S494.swap01
    exact Ws (J115 _ _ ⟨_, _, _, _, _, G490, rfl, (hl419.trans (hl424.trans (hl475.trans (hl479.trans hl491)))), S495, (r426.mono (hl475.trans (hl479.trans hl491))), r485, r486⟩)
   refine Ac (hC := fun _ h => (hl424).trans h) S436 fun b496 w497 S498 => ?_
   refine Nt rfl (Cs g_aumbry_mss_printed ((printT_ok S498.le (hT.mono (hl12.trans (hl16.trans (hl35.trans (hl419.trans hl424))))) sh (by omega) (climbS_len _ _ _ _ _)).mono ?_))
   rintro e w504 ⟨a499, c500, hc501, rfl, ho502, hB503⟩
   have S505 := S498.own hB503 ho502
   refine ⟨_, rfl, ((hl424).trans S505.le), ?_⟩
   refine Nt rfl ?_
   obtain ⟨G507, hl508, S506, r509⟩ := S505.stillRow 2 rfl
   obtain ⟨G511, hl512, S510, r513⟩ := S506.stillRow 0 rfl
   refine Cs g_aumbry_mss_two ((two_ok S510.le (r509.mono hl512) r513).mono ?_)
   rintro e w521 ⟨a514, c515, a516, c517, rfl, r518, r519, hB520⟩
   obtain ⟨G523, eG525⟩ : ∃ G, G = F.ext G511 w504.heap.size w521 := ⟨_, rfl⟩
   obtain ⟨hl524, S522⟩ := S510.ext hB520
   rw [← eG525] at hl524 S522 r518 r519
   refine ⟨_, rfl, (((hl424.trans (hl508.trans (hl512.trans hl524)))).trans S522.le), ?_⟩
   iterate 3 (refine T_nil ?_; refine TT_step rfl ?_; refine Pv ?_)
   refine Nt rfl (Ag (hC := fun _ h => ((hl424.trans (hl508.trans (hl512.trans hl524)))).trans h) (hl := by exact gV_size (L := [[.slice a514 (twoF (printT h (Go.Au.root (mleaves seed h.toNat))) (printT sh (climbS m sh sl v p))).A.length c515], [.slice a516 (twoF (printT h (Go.Au.root (mleaves seed h.toNat))) (printT sh (climbS m sh sl v p))).B.length c517], [.bool ((twoF (printT h (Go.Au.root (mleaves seed h.toNat))) (printT sh (climbS m sh sl v p))).k)], [.int .i64 ((twoF (printT h (Go.Au.root (mleaves seed h.toNat))) (printT sh (climbS m sh sl v p))).a)], [.int .i64 ((twoF (printT h (Go.Au.root (mleaves seed h.toNat))) (printT sh (climbS m sh sl v p))).c)], [.int .i64 ((twoF (printT h (Go.Au.root (mleaves seed h.toNat))) (printT sh (climbS m sh sl v p))).q)], ((twoF (printT h (Go.Au.root (mleaves seed h.toNat))) (printT sh (climbS m sh sl v p))).x).map bV]) (ns := [1, 1, 1, 1, 1, 1, 32]) (Shp.cons rfl (Shp.cons rfl (Shp.cons rfl (Shp.cons rfl (Shp.cons rfl (Shp.cons rfl (Shp.cons (lenB (twoF_x _ _)) Shp.nil))))))) rfl) (hl2 := by exact gV_size (L := [[.slice a514 (twoF (printT h (Go.Au.root (mleaves seed h.toNat))) (printT sh (climbS m sh sl v p))).A.length c515], [.slice a516 (twoF (printT h (Go.Au.root (mleaves seed h.toNat))) (printT sh (climbS m sh sl v p))).B.length c517], [.bool ((twoF (printT h (Go.Au.root (mleaves seed h.toNat))) (printT sh (climbS m sh sl v p))).k)], [.int .i64 ((twoF (printT h (Go.Au.root (mleaves seed h.toNat))) (printT sh (climbS m sh sl v p))).a)], [.int .i64 ((twoF (printT h (Go.Au.root (mleaves seed h.toNat))) (printT sh (climbS m sh sl v p))).c)], [.int .i64 ((twoF (printT h (Go.Au.root (mleaves seed h.toNat))) (printT sh (climbS m sh sl v p))).q)], ((twoF (printT h (Go.Au.root (mleaves seed h.toNat))) (printT sh (climbS m sh sl v p))).x).map bV]) (ns := [1, 1, 1, 1, 1, 1, 32]) (Shp.cons rfl (Shp.cons rfl (Shp.cons rfl (Shp.cons rfl (Shp.cons rfl (Shp.cons rfl (Shp.cons (lenB (twoF_x _ _)) Shp.nil))))))) rfl) (h1 := by exact gV_one (OneL.one rfl (OneL.one rfl (OneL.one rfl (OneL.one rfl (OneL.one rfl (OneL.one rfl (OneL.arr OneL.nil)))))))) 0 S522 fun w526 S527 => ?_)
   refine Nt rfl (Pv (T_nil (TT_done ?_)))
   have S528 := S527.swap01
   exact Ws (J115 _ _ ⟨_, _, _, _, _, G523, rfl, (hl419.trans (hl424.trans (hl508.trans (hl512.trans hl524)))), S528, (r426.mono (hl508.trans (hl512.trans hl524))), r518, r519⟩)
  refine Ac (hC := fun _ h => (hl424).trans h) S429 fun b529 w530 S531 => ?_
  refine Nt rfl (Cs g_aumbry_mss_printed ((printT_ok S531.le (hT.mono (hl12.trans (hl16.trans (hl35.trans (hl419.trans hl424))))) h (by omega) (root_len r426.1)).mono ?_))
  rintro e w537 ⟨a532, c533, hc534, rfl, ho535, hB536⟩
  have S538 := S531.own hB536 ho535
  refine ⟨_, rfl, ((hl424).trans S538.le), ?_⟩
  refine Nt rfl (Cs g_aumbry_mss_printed ((printT_ok S538.le (hT.mono (hl12.trans (hl16.trans (hl35.trans (hl419.trans hl424))))) sh (by omega) (climbS_len _ _ _ _ _)).mono ?_))
  rintro e w544 ⟨a539, c540, hc541, rfl, ho542, hB543⟩
  have S545 := S538.own hB543 ho542
  refine ⟨_, rfl, ((hl424).trans S545.le), ?_⟩
  refine Nt rfl ?_
  obtain ⟨G547, hl548, S546, r549⟩ := S545.stillRow 1 rfl
  obtain ⟨G551, hl552, S550, r553⟩ := S546.stillRow 0 rfl
  refine Cs g_aumbry_mss_two ((two_ok S550.le (r549.mono hl552) r553).mono ?_)
  rintro e w561 ⟨a554, c555, a556, c557, rfl, r558, r559, hB560⟩
  obtain ⟨G563, eG565⟩ : ∃ G, G = F.ext G551 w544.heap.size w561 := ⟨_, rfl⟩
  obtain ⟨hl564, S562⟩ := S550.ext hB560
  rw [← eG565] at hl564 S562 r558 r559
  refine ⟨_, rfl, (((hl424.trans (hl548.trans (hl552.trans hl564)))).trans S562.le), ?_⟩
  iterate 3 (refine T_nil ?_; refine TT_step rfl ?_; refine Pv ?_)
  refine Nt rfl (Ag (hC := fun _ h => ((hl424.trans (hl548.trans (hl552.trans hl564)))).trans h) (hl := by exact gV_size (L := [[.slice a554 (twoF (printT h (Go.Au.root (mleaves seed h.toNat))) (printT sh (climbS m sh sl v p))).A.length c555], [.slice a556 (twoF (printT h (Go.Au.root (mleaves seed h.toNat))) (printT sh (climbS m sh sl v p))).B.length c557], [.bool ((twoF (printT h (Go.Au.root (mleaves seed h.toNat))) (printT sh (climbS m sh sl v p))).k)], [.int .i64 ((twoF (printT h (Go.Au.root (mleaves seed h.toNat))) (printT sh (climbS m sh sl v p))).a)], [.int .i64 ((twoF (printT h (Go.Au.root (mleaves seed h.toNat))) (printT sh (climbS m sh sl v p))).c)], [.int .i64 ((twoF (printT h (Go.Au.root (mleaves seed h.toNat))) (printT sh (climbS m sh sl v p))).q)], ((twoF (printT h (Go.Au.root (mleaves seed h.toNat))) (printT sh (climbS m sh sl v p))).x).map bV]) (ns := [1, 1, 1, 1, 1, 1, 32]) (Shp.cons rfl (Shp.cons rfl (Shp.cons rfl (Shp.cons rfl (Shp.cons rfl (Shp.cons rfl (Shp.cons (lenB (twoF_x _ _)) Shp.nil))))))) rfl) (hl2 := by exact gV_size (L := [[.slice a554 (twoF (printT h (Go.Au.root (mleaves seed h.toNat))) (printT sh (climbS m sh sl v p))).A.length c555], [.slice a556 (twoF (printT h (Go.Au.root (mleaves seed h.toNat))) (printT sh (climbS m sh sl v p))).B.length c557], [.bool ((twoF (printT h (Go.Au.root (mleaves seed h.toNat))) (printT sh (climbS m sh sl v p))).k)], [.int .i64 ((twoF (printT h (Go.Au.root (mleaves seed h.toNat))) (printT sh (climbS m sh sl v p))).a)], [.int .i64 ((twoF (printT h (Go.Au.root (mleaves seed h.toNat))) (printT sh (climbS m sh sl v p))).c)], [.int .i64 ((twoF (printT h (Go.Au.root (mleaves seed h.toNat))) (printT sh (climbS m sh sl v p))).q)], ((twoF (printT h (Go.Au.root (mleaves seed h.toNat))) (printT sh (climbS m sh sl v p))).x).map bV]) (ns := [1, 1, 1, 1, 1, 1, 32]) (Shp.cons rfl (Shp.cons rfl (Shp.cons rfl (Shp.cons rfl (Shp.cons rfl (Shp.cons rfl (Shp.cons (lenB (twoF_x _ _)) Shp.nil))))))) rfl) (h1 := by exact gV_one (OneL.one rfl (OneL.one rfl (OneL.one rfl (OneL.one rfl (OneL.one rfl (OneL.one rfl (OneL.arr OneL.nil)))))))) 0 S562 fun w566 S567 => ?_)
  refine Nt rfl (Pv (T_nil (TT_done ?_)))
  have S568 := S567.swap01
  exact Ws (J115 _ _ ⟨_, _, _, _, _, G563, rfl, (hl419.trans (hl424.trans (hl548.trans (hl552.trans hl564)))), S568, (r426.mono (hl548.trans (hl552.trans hl564))), r558, r559⟩)
 refine Ac (hC := fun _ h => ((Hp.le.refl _)).trans h) S421 fun b569 w570 S571 => ?_
 refine Nt rfl ?_
 obtain ⟨G573, hl574, S572, r575⟩ := S571.stillRow 1 rfl
 have r576 := RdH.mk (mleaves_all _ _) (by decide) r575
 refine Cs g_aumbry_tree_Root ((root_ok S572.le (hT.mono (hl12.trans (hl16.trans (hl35.trans (hl419.trans hl574))))) r576 (by omega)).mono ?_)
 rintro e w578 ⟨rfl, hB577⟩
 have S579 := S572.call hB577
 refine ⟨_, rfl, ((hl574).trans S579.le), ?_⟩
 refine Nt rfl (Cs g_aumbry_mss_printed ((printT_ok S579.le (hT.mono (hl12.trans (hl16.trans (hl35.trans (hl419.trans hl574))))) h (by omega) (root_len r576.1)).mono ?_))
 rintro e w585 ⟨a580, c581, hc582, rfl, ho583, hB584⟩
 have S586 := S579.own hB584 ho583
 refine ⟨_, rfl, ((hl574).trans S586.le), ?_⟩
 refine Nt rfl (Cs g_aumbry_mss_printed ((printT_ok S586.le (hT.mono (hl12.trans (hl16.trans (hl35.trans (hl419.trans hl574))))) sh (by omega) (climbS_len _ _ _ _ _)).mono ?_))
 rintro e w592 ⟨a587, c588, hc589, rfl, ho590, hB591⟩
 have S593 := S586.own hB591 ho590
 refine ⟨_, rfl, ((hl574).trans S593.le), ?_⟩
 refine Nt rfl ?_
 obtain ⟨G595, hl596, S594, r597⟩ := S593.stillRow 1 rfl
 obtain ⟨G599, hl600, S598, r601⟩ := S594.stillRow 0 rfl
 refine Cs g_aumbry_mss_two ((two_ok S598.le (r597.mono hl600) r601).mono ?_)
 rintro e w609 ⟨a602, c603, a604, c605, rfl, r606, r607, hB608⟩
 obtain ⟨G611, eG613⟩ : ∃ G, G = F.ext G599 w592.heap.size w609 := ⟨_, rfl⟩
 obtain ⟨hl612, S610⟩ := S598.ext hB608
 rw [← eG613] at hl612 S610 r606 r607
 refine ⟨_, rfl, (((hl574.trans (hl596.trans (hl600.trans hl612)))).trans S610.le), ?_⟩
 iterate 3 (refine T_nil ?_; refine TT_step rfl ?_; refine Pv ?_)
 refine Nt rfl (Ag (hC := fun _ h => ((hl574.trans (hl596.trans (hl600.trans hl612)))).trans h) (hl := by exact gV_size (L := [[.slice a602 (twoF (printT h (Go.Au.root (mleaves seed h.toNat))) (printT sh (climbS m sh sl v p))).A.length c603], [.slice a604 (twoF (printT h (Go.Au.root (mleaves seed h.toNat))) (printT sh (climbS m sh sl v p))).B.length c605], [.bool ((twoF (printT h (Go.Au.root (mleaves seed h.toNat))) (printT sh (climbS m sh sl v p))).k)], [.int .i64 ((twoF (printT h (Go.Au.root (mleaves seed h.toNat))) (printT sh (climbS m sh sl v p))).a)], [.int .i64 ((twoF (printT h (Go.Au.root (mleaves seed h.toNat))) (printT sh (climbS m sh sl v p))).c)], [.int .i64 ((twoF (printT h (Go.Au.root (mleaves seed h.toNat))) (printT sh (climbS m sh sl v p))).q)], ((twoF (printT h (Go.Au.root (mleaves seed h.toNat))) (printT sh (climbS m sh sl v p))).x).map bV]) (ns := [1, 1, 1, 1, 1, 1, 32]) (Shp.cons rfl (Shp.cons rfl (Shp.cons rfl (Shp.cons rfl (Shp.cons rfl (Shp.cons rfl (Shp.cons (lenB (twoF_x _ _)) Shp.nil))))))) rfl) (hl2 := by exact gV_size (L := [[.slice a602 (twoF (printT h (Go.Au.root (mleaves seed h.toNat))) (printT sh (climbS m sh sl v p))).A.length c603], [.slice a604 (twoF (printT h (Go.Au.root (mleaves seed h.toNat))) (printT sh (climbS m sh sl v p))).B.length c605], [.bool ((twoF (printT h (Go.Au.root (mleaves seed h.toNat))) (printT sh (climbS m sh sl v p))).k)], [.int .i64 ((twoF (printT h (Go.Au.root (mleaves seed h.toNat))) (printT sh (climbS m sh sl v p))).a)], [.int .i64 ((twoF (printT h (Go.Au.root (mleaves seed h.toNat))) (printT sh (climbS m sh sl v p))).c)], [.int .i64 ((twoF (printT h (Go.Au.root (mleaves seed h.toNat))) (printT sh (climbS m sh sl v p))).q)], ((twoF (printT h (Go.Au.root (mleaves seed h.toNat))) (printT sh (climbS m sh sl v p))).x).map bV]) (ns := [1, 1, 1, 1, 1, 1, 32]) (Shp.cons rfl (Shp.cons rfl (Shp.cons rfl (Shp.cons rfl (Shp.cons rfl (Shp.cons rfl (Shp.cons (lenB (twoF_x _ _)) Shp.nil))))))) rfl) (h1 := by exact gV_one (OneL.one rfl (OneL.one rfl (OneL.one rfl (OneL.one rfl (OneL.one rfl (OneL.one rfl (OneL.arr OneL.nil)))))))) 0 S610 fun w614 S615 => ?_)
 refine Nt rfl (Pv (T_nil (TT_done ?_)))
 have S616 := S615.swap01
 exact Ws (J115 _ _ ⟨_, _, _, _, _, G611, rfl, (hl419.trans (hl574.trans (hl596.trans (hl600.trans hl612)))), S616, (r576.mono (hl596.trans (hl600.trans hl612))), r606, r607⟩)


theorem explain_ok {H : Hp} {w : World} (hH : H.le (hw w)) (hT : Tabs H) (h : Int) {seed : List UInt8} (hs : seed.length = 16) {L : List (List UInt8)} {aa2 : Option Addr} {nn2 cc2 : Nat} (hL : RdL H (.slice aa2 nn2 cc2) L) {m : List UInt8} {aa3 : Option Addr} {nn3 cc3 : Nat} (hv : Rd H (.slice aa3 nn3 cc3) nn3 1 (m.map bV)) (sh sl : Int) {v p : List (List UInt8)} {a1 a2 : Option Addr} {n1 n2 c1 c2 : Nat} (h1 : RdH H (.slice a1 n1 c1) 32 v) (h2 : RdH H (.slice a2 n2 c2) 32 p) (hm : 0 ≤ h ∧ h ≤ 4) (hml : m.length < 1000) (hLb : (wasAt L sl).length < 1000) {fo : FgP} {b : Bool} (hF : fgO (expl seed (wasAt L sl) m h sh sl v p) = fo) (hb : (expl seed (wasAt L sl) m h sh sl v p).isSome = b) :
  Calls Tryz.prog 8 #[hV seed, .int .i64 h, .slice aa2 nn2 cc2, .slice aa3 nn3 cc3, .agg #[.int .i64 sh, .int .i64 sl, .slice a1 n1 c1, .slice a2 n2 c2]] w fun e w' => ∃ a1 c1 a2 c2, e = .returned (.tuple #[gV [[.slice a1 fo.A.length c1], [.slice a2 fo.B.length c2], [.bool fo.k], [.int .i64 fo.a], [.int .i64 fo.c], [.int .i64 fo.q], fo.x.map bV], .bool b]) ∧ Rd (F.ext H w.heap.size w') (.slice a1 fo.A.length c1) fo.A.length 1 (fo.A.map bV) ∧ Rd (F.ext H w.heap.size w') (.slice a2 fo.B.length c2) fo.B.length 1 (fo.B.map bV) ∧ Below w.heap.size w w' := by
 subst hF; subst hb
 cases hvt : vrf (mprint seed h) m sh sl v p with
 | false => exact explN1 hH hT h hs hL hv sh sl h1 h2 hm hml hLb hvt
 | true =>
  by_cases hW0 : 0 < (wasAt L sl).length
  ·by_cases hWm : (wasAt L sl) = m
   ·exact explN2 hH hT h hs hL hv sh sl h1 h2 hm hml hLb hvt hW0 hWm
   ·exact explE1 hH hT h hs hL hv sh sl h1 h2 hm hml hLb hvt hW0 hWm
  ·exact explE0 hH hT h hs hL hv sh sl h1 h2 hm hml hLb hvt (by omega)
end Go.Proofs.YtfcejolipdcoaaaGreatDoor
