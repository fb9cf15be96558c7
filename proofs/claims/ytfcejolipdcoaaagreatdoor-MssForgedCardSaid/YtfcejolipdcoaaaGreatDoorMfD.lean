/- Walks of the program's functions. -/
import Derived.Test.YtfcejolipdcoaaaGreatDoorMfC
import Derived.Test.YtfcejolipdcoaaaGreatDoorAuExp4
set_option linter.unusedVariables false
set_option linter.unusedSimpArgs false
set_option maxRecDepth 8192
namespace Go.Proofs.YtfcejolipdcoaaaGreatDoor
open Go Go.F Go.RowKit
open Go.Au hiding holds

theorem holdsB {H : Hp} {w : World} (hH : H.le (hw w)) (hT : Tabs H) {seed : List UInt8} (hs : seed.length = 16) (h : Int) {L : List (List UInt8)} {aa2 : Option Addr} {nn2 cc2 : Nat} (hL : RdL H (.slice aa2 nn2 cc2) L) {f : FgP} {a1 a2 : Option Addr} {n1 c1 n2 c2 : Nat} (hA : Rd H (.slice a1 n1 c1) n1 1 (f.A.map bV)) (hB : Rd H (.slice a2 n2 c2) n2 1 (f.B.map bV)) (hx : f.x.length = 32) (hm : 0 ≤ h ∧ h ≤ 4) (hLl : ((L.length : Nat) : Int) = ((2 ^ h.toNat : Nat) : Int)) (hLb : ∀ i, (L.getD i []).length < 1000) (hbA : f.A.length ≤ 100000) (hbB : f.B.length ≤ 100000) (hr : (0 ≤ f.a ∧ f.a < ((2 ^ h.toNat : Nat) : Int)) ∧ (0 ≤ f.c ∧ f.c < 67) ∧ 0 ≤ f.q ∧ f.q ≤ 15) (hk : f.k = false) (hbr : isB f.A f.B = true) :
  Calls Tryz.prog 13 #[hV seed, .int .i64 h, .slice aa2 nn2 cc2, gV [[.slice a1 n1 c1], [.slice a2 n2 c2], [.bool f.k], [.int .i64 f.a], [.int .i64 f.c], [.int .i64 f.q], f.x.map bV]] w fun e w' => e = .returned (.bool true) ∧ Below w.heap.size w w' := by
 obtain rfl : nn2 = L.length := hL.len
 obtain rfl : n1 = f.A.length := hA.lenB
 obtain rfl : n2 = f.B.length := hB.lenB
 have hp16 := pow16 (h := h) (by omega) (by omega)
 have hWa : wasAt L f.a = L.getD f.a.toNat [] := wasAt_in ⟨by omega, by omega⟩
 have hWl : (wasAt L f.a).length < 1000 := by rw [hWa]; exact hLb _
 have hdw := digits_len (wasAt L f.a)
 refine enter4 _ Tryz.func13 rfl Tryz.ntmps13 Tryz.results13 rfl ?_
 have S0 := St.start w hH
 refine Wr (Ah S0 fun b1 w2 S3 => ?_)
 refine Ah S3 fun b4 w5 S6 => ?_
 refine Pv (T_nil ?_)
 iterate 2 refine W_seq ?_
 obtain ⟨G8, hl9, S7, r10⟩ := S6.stillBlk 1 rfl
 obtain ⟨G12, hl13, S11, r14⟩ := S7.stillBlk 0 rfl
 refine W_draw rfl (by kernel_rfl) ?_
 have S15 := S11.drew
 refine Pv ?_
 refine Cs g_aumbry_mss_may ((mssMay_ok S15.le h).mono ?_)
 rintro e w17 ⟨rfl, hB16⟩
 have S18 := S15.call hB16
 refine ⟨_, rfl, trivial, ?_⟩
 refine P2 ?_
 refine T_bool 13 false rfl (may_is hm) (Ys ?_)
 refine Fl 3 ?_
 refine Ys ?_
 refine Ab (r := by exact still_cell r14 (gV_cell (ns := [1, 1, 1, 1, 1, 1, 32]) (Shp.cons rfl (Shp.cons rfl (Shp.cons rfl (Shp.cons rfl (Shp.cons rfl (Shp.cons rfl (Shp.cons (lenB hx) Shp.nil))))))) 3 rfl rfl)) S18 ?_
 refine Ys ?_
 refine P3 ?_
 refine T_bool 18 false rfl (decide_eq_false (by omega)) ?_
 refine Ys ?_
 refine Fl 3 ?_
 refine Ys ?_
 refine Ab (r := by exact still_cell r14 (gV_cell (ns := [1, 1, 1, 1, 1, 1, 32]) (Shp.cons rfl (Shp.cons rfl (Shp.cons rfl (Shp.cons rfl (Shp.cons rfl (Shp.cons rfl (Shp.cons (lenB hx) Shp.nil))))))) 3 rfl rfl)) S18 ?_
 refine Ys ?_
 refine Pv ?_
 refine Ys ?_
 refine T_shl rfl rfl rfl rfl rfl rfl (by omega) ?_
 refine T_re (v' := .int .i64 ((2 ^ h.toNat : Nat) : Int)) (congrArg (Value.int .i64) (shlI (by omega) (by omega))) ?_
 refine Ys ?_
 refine P3 ?_
 refine T_bool 25 false rfl (decide_eq_false (by omega)) ?_
 refine Ys ?_
 refine Fl 4 ?_
 refine Ys ?_
 refine Ab (r := by exact still_cell r14 (gV_cell (ns := [1, 1, 1, 1, 1, 1, 32]) (Shp.cons rfl (Shp.cons rfl (Shp.cons rfl (Shp.cons rfl (Shp.cons rfl (Shp.cons rfl (Shp.cons (lenB hx) Shp.nil))))))) 4 rfl rfl)) S18 ?_
 refine Ys ?_
 refine P3 ?_
 refine T_bool 30 false rfl (decide_eq_false (by omega)) ?_
 refine Ys ?_
 refine Fl 4 ?_
 refine Ys ?_
 refine Ab (r := by exact still_cell r14 (gV_cell (ns := [1, 1, 1, 1, 1, 1, 32]) (Shp.cons rfl (Shp.cons rfl (Shp.cons rfl (Shp.cons rfl (Shp.cons rfl (Shp.cons rfl (Shp.cons (lenB hx) Shp.nil))))))) 4 rfl rfl)) S18 ?_
 refine Ys ?_
 refine P3 ?_
 refine T_bool 35 false rfl (decide_eq_false (by omega)) ?_
 refine Ys ?_
 refine Fl 5 ?_
 refine Ys ?_
 refine Ab (r := by exact still_cell r14 (gV_cell (ns := [1, 1, 1, 1, 1, 1, 32]) (Shp.cons rfl (Shp.cons rfl (Shp.cons rfl (Shp.cons rfl (Shp.cons rfl (Shp.cons rfl (Shp.cons (lenB hx) Shp.nil))))))) 5 rfl rfl)) S18 ?_
 refine Ys ?_
 refine P3 ?_
 refine T_bool 40 false rfl (decide_eq_false (by omega)) ?_
 refine Ys ?_
 refine Fl 5 ?_
 refine Ys ?_
 refine Ab (r := by exact still_cell r14 (gV_cell (ns := [1, 1, 1, 1, 1, 1, 32]) (Shp.cons rfl (Shp.cons rfl (Shp.cons rfl (Shp.cons rfl (Shp.cons rfl (Shp.cons rfl (Shp.cons (lenB hx) Shp.nil))))))) 5 rfl rfl)) S18 ?_
 refine Ys ?_
 refine P2 (T_nil ?_)
 refine W_bool 44 false rfl (decide_eq_false (by omega)) ?_
 refine W_cond_false rfl (W_skip (W_seq (Wr (Fl 0 ?_))))
 refine T_loadGA (.agg #[.slice a1 f.A.length c1, .slice a2 f.B.length c2] : Value).cells S18 (still_part r14 (gV_sub (ns := [1, 1, 1, 1, 1, 1, 32]) (Shp.cons rfl (Shp.cons rfl (Shp.cons rfl (Shp.cons rfl (Shp.cons rfl (Shp.cons rfl (Shp.cons (lenB hx) Shp.nil))))))) 0 2 (c := [.slice a1 f.A.length c1, .slice a2 f.B.length c2]) (rfl) rfl)) rfl rfl rfl rfl rfl rfl rfl rfl (by first | rfl | simp [hVs, *]) ?_
 refine Cs g_aumbry_sha_Same ((isbr_ok S18.le (hT.mono (hl9.trans hl13)) (hA.mono (hl9.trans hl13)) (hB.mono (hl9.trans hl13)) (by omega) (by omega)).mono ?_)
 rintro e w20 ⟨rfl, hB19⟩
 have S21 := S18.call hB19
 refine ⟨_, rfl, trivial, ?_⟩
 refine T_nil (W_bool 47 true rfl hbr (W_cond_true rfl (Wr (Pv (T_nil (W_ret ?_))))))
 refine ⟨_, ⟨_, _, rfl, rfl, rfl⟩, ?_⟩
 exact ⟨rfl, S21.below⟩


theorem holdsL {H : Hp} {w : World} (hH : H.le (hw w)) (hT : Tabs H) {seed : List UInt8} (hs : seed.length = 16) (h : Int) {L : List (List UInt8)} {aa2 : Option Addr} {nn2 cc2 : Nat} (hL : RdL H (.slice aa2 nn2 cc2) L) {f : FgP} {a1 a2 : Option Addr} {n1 c1 n2 c2 : Nat} (hA : Rd H (.slice a1 n1 c1) n1 1 (f.A.map bV)) (hB : Rd H (.slice a2 n2 c2) n2 1 (f.B.map bV)) (hx : f.x.length = 32) (hm : 0 ≤ h ∧ h ≤ 4) (hLl : ((L.length : Nat) : Int) = ((2 ^ h.toNat : Nat) : Int)) (hLb : ∀ i, (L.getD i []).length < 1000) (hbA : f.A.length ≤ 100000) (hbB : f.B.length ≤ 100000) (hr : (0 ≤ f.a ∧ f.a < ((2 ^ h.toNat : Nat) : Int)) ∧ (0 ≤ f.c ∧ f.c < 67) ∧ 0 ≤ f.q ∧ f.q ≤ 15) (hk : f.k = true) (hA0 : f.A = []) (hB0 : f.B = []) (hv : f.x = Go.Au.steps (max (0 : Int) (min f.q 15)).toNat (Go.Au.start seed f.a f.c)) (hd : (((wasAt L f.a).length : Nat) : Int) = 0 ∨ f.q < (Go.Au.digits (wasAt L f.a)).getD f.c.toNat 0) :
  Calls Tryz.prog 13 #[hV seed, .int .i64 h, .slice aa2 nn2 cc2, gV [[.slice a1 n1 c1], [.slice a2 n2 c2], [.bool f.k], [.int .i64 f.a], [.int .i64 f.c], [.int .i64 f.q], f.x.map bV]] w fun e w' => e = .returned (.bool true) ∧ Below w.heap.size w w' := by
 obtain rfl : nn2 = L.length := hL.len
 obtain rfl : n1 = f.A.length := hA.lenB
 obtain rfl : n2 = f.B.length := hB.lenB
 have hp16 := pow16 (h := h) (by omega) (by omega)
 have hWa : wasAt L f.a = L.getD f.a.toNat [] := wasAt_in ⟨by omega, by omega⟩
 have hWl : (wasAt L f.a).length < 1000 := by rw [hWa]; exact hLb _
 have hdw := digits_len (wasAt L f.a)
 refine enter4 _ Tryz.func13 rfl Tryz.ntmps13 Tryz.results13 rfl ?_
 have S0 := St.start w hH
 refine Wr (Ah S0 fun b1 w2 S3 => ?_)
 refine Ah S3 fun b4 w5 S6 => ?_
 refine Pv (T_nil ?_)
 iterate 2 refine W_seq ?_
 obtain ⟨G8, hl9, S7, r10⟩ := S6.stillBlk 1 rfl
 obtain ⟨G12, hl13, S11, r14⟩ := S7.stillBlk 0 rfl
 refine W_draw rfl (by kernel_rfl) ?_
 have S15 := S11.drew
 refine Pv ?_
 refine Cs g_aumbry_mss_may ((mssMay_ok S15.le h).mono ?_)
 rintro e w17 ⟨rfl, hB16⟩
 have S18 := S15.call hB16
 refine ⟨_, rfl, trivial, ?_⟩
 refine P2 ?_
 refine T_bool 13 false rfl (may_is hm) (Ys ?_)
 refine Fl 3 ?_
 refine Ys ?_
 refine Ab (r := by exact still_cell r14 (gV_cell (ns := [1, 1, 1, 1, 1, 1, 32]) (Shp.cons rfl (Shp.cons rfl (Shp.cons rfl (Shp.cons rfl (Shp.cons rfl (Shp.cons rfl (Shp.cons (lenB hx) Shp.nil))))))) 3 rfl rfl)) S18 ?_
 refine Ys ?_
 refine P3 ?_
 refine T_bool 18 false rfl (decide_eq_false (by omega)) ?_
 refine Ys ?_
 refine Fl 3 ?_
 refine Ys ?_
 refine Ab (r := by exact still_cell r14 (gV_cell (ns := [1, 1, 1, 1, 1, 1, 32]) (Shp.cons rfl (Shp.cons rfl (Shp.cons rfl (Shp.cons rfl (Shp.cons rfl (Shp.cons rfl (Shp.cons (lenB hx) Shp.nil))))))) 3 rfl rfl)) S18 ?_
 refine Ys ?_
 refine Pv ?_
 refine Ys ?_
 refine T_shl rfl rfl rfl rfl rfl rfl (by omega) ?_
 refine T_re (v' := .int .i64 ((2 ^ h.toNat : Nat) : Int)) (congrArg (Value.int .i64) (shlI (by omega) (by omega))) ?_
 refine Ys ?_
 refine P3 ?_
 refine T_bool 25 false rfl (decide_eq_false (by omega)) ?_
 refine Ys ?_
 refine Fl 4 ?_
 refine Ys ?_
 refine Ab (r := by exact still_cell r14 (gV_cell (ns := [1, 1, 1, 1, 1, 1, 32]) (Shp.cons rfl (Shp.cons rfl (Shp.cons rfl (Shp.cons rfl (Shp.cons rfl (Shp.cons rfl (Shp.cons (lenB hx) Shp.nil))))))) 4 rfl rfl)) S18 ?_
 refine Ys ?_
 refine P3 ?_
 refine T_bool 30 false rfl (decide_eq_false (by omega)) ?_
 refine Ys ?_
 refine Fl 4 ?_
 refine Ys ?_
 refine Ab (r := by exact still_cell r14 (gV_cell (ns := [1, 1, 1, 1, 1, 1, 32]) (Shp.cons rfl (Shp.cons rfl (Shp.cons rfl (Shp.cons rfl (Shp.cons rfl (Shp.cons rfl (Shp.cons (lenB hx) Shp.nil))))))) 4 rfl rfl)) S18 ?_
 refine Ys ?_
 refine P3 ?_
 refine T_bool 35 false rfl (decide_eq_false (by omega)) ?_
 refine Ys ?_
 refine Fl 5 ?_
 refine Ys ?_
 refine Ab (r := by exact still_cell r14 (gV_cell (ns := [1, 1, 1, 1, 1, 1, 32]) (Shp.cons rfl (Shp.cons rfl (Shp.cons rfl (Shp.cons rfl (Shp.cons rfl (Shp.cons rfl (Shp.cons (lenB hx) Shp.nil))))))) 5 rfl rfl)) S18 ?_
 refine Ys ?_
 refine P3 ?_
 refine T_bool 40 false rfl (decide_eq_false (by omega)) ?_
 refine Ys ?_
 refine Fl 5 ?_
 refine Ys ?_
 refine Ab (r := by exact still_cell r14 (gV_cell (ns := [1, 1, 1, 1, 1, 1, 32]) (Shp.cons rfl (Shp.cons rfl (Shp.cons rfl (Shp.cons rfl (Shp.cons rfl (Shp.cons rfl (Shp.cons (lenB hx) Shp.nil))))))) 5 rfl rfl)) S18 ?_
 refine Ys ?_
 refine P2 (T_nil ?_)
 refine W_bool 44 false rfl (decide_eq_false (by omega)) ?_
 refine W_cond_false rfl (W_skip (W_seq (Wr (Fl 0 ?_))))
 refine T_loadGA (.agg #[.slice a1 f.A.length c1, .slice a2 f.B.length c2] : Value).cells S18 (still_part r14 (gV_sub (ns := [1, 1, 1, 1, 1, 1, 32]) (Shp.cons rfl (Shp.cons rfl (Shp.cons rfl (Shp.cons rfl (Shp.cons rfl (Shp.cons rfl (Shp.cons (lenB hx) Shp.nil))))))) 0 2 (c := [.slice a1 f.A.length c1, .slice a2 f.B.length c2]) (rfl) rfl)) rfl rfl rfl rfl rfl rfl rfl rfl (by first | rfl | simp [hVs, *]) ?_
 refine Cs g_aumbry_sha_Same ((isbr_ok S18.le (hT.mono (hl9.trans hl13)) (hA.mono (hl9.trans hl13)) (hB.mono (hl9.trans hl13)) (by omega) (by omega)).mono ?_)
 rintro e w20 ⟨rfl, hB19⟩
 have S21 := S18.call hB19
 refine ⟨_, rfl, trivial, ?_⟩
 refine T_nil (W_bool 47 false rfl (by rw [hA0, hB0]; simp) ?_)
 refine W_cond_false rfl (W_skip ?_)
 iterate 2 refine W_seq ?_
 refine W_plan (planF Tryz.prog G12 [53, 61]) rfl (by kernel_rfl) S21.le ?_
 have S22 := S21.drew
 refine Fl 2 ?_
 refine Ab (r := by exact still_cell r14 (gV_cell (ns := [1, 1, 1, 1, 1, 1, 32]) (Shp.cons rfl (Shp.cons rfl (Shp.cons rfl (Shp.cons rfl (Shp.cons rfl (Shp.cons rfl (Shp.cons (lenB hx) Shp.nil))))))) 2 rfl rfl)) S22 ?_
 refine P2 ?_
 refine T_bool 51 false rfl (by rw [hk]; rfl) ?_
 refine Ys ?_
 refine Fl 6 ?_
 refine Ys ?_
 refine T_loadGAP (hV f.x : Value).cells (fun _ h => h) (still_part r14 (gV_sub (ns := [1, 1, 1, 1, 1, 1, 32]) (Shp.cons rfl (Shp.cons rfl (Shp.cons rfl (Shp.cons rfl (Shp.cons rfl (Shp.cons rfl (Shp.cons (lenB hx) Shp.nil))))))) 6 1 (c := f.x.map bV) (flat1) rfl)) rfl rfl rfl rfl rfl rfl rfl rfl (hVs hx) (Ys ?_)
 refine T_loadGA _ S22 (still_cells (hl13 _ _ r10)) rfl rfl rfl rfl rfl rfl rfl rfl (hVs hs) (Ys ?_)
 refine Fl 3 ?_
 refine Ys ?_
 refine Ab (r := by exact still_cell r14 (gV_cell (ns := [1, 1, 1, 1, 1, 1, 32]) (Shp.cons rfl (Shp.cons rfl (Shp.cons rfl (Shp.cons rfl (Shp.cons rfl (Shp.cons rfl (Shp.cons (lenB hx) Shp.nil))))))) 3 rfl rfl)) S22 ?_
 refine Ys ?_
 refine Fl 4 ?_
 refine Ys ?_
 refine Ab (r := by exact still_cell r14 (gV_cell (ns := [1, 1, 1, 1, 1, 1, 32]) (Shp.cons rfl (Shp.cons rfl (Shp.cons rfl (Shp.cons rfl (Shp.cons rfl (Shp.cons rfl (Shp.cons (lenB hx) Shp.nil))))))) 4 rfl rfl)) S22 ?_
 refine Ys ?_
 refine Cs g_aumbry_wots_Start ((start_ok S22.le (hT.mono (hl9.trans hl13)) f.a f.c hs (by omega) (by omega)).mono ?_)
 rintro e w24 ⟨rfl, hB23⟩
 have S25 := S22.call hB23
 refine ⟨_, rfl, (((Hp.le.refl _)).trans S25.le), ?_⟩
 refine Ys ?_
 refine Fl 5 ?_
 refine Ys ?_
 refine Ak (r := by exact still_cell r14 (gV_cell (ns := [1, 1, 1, 1, 1, 1, 32]) (Shp.cons rfl (Shp.cons rfl (Shp.cons rfl (Shp.cons rfl (Shp.cons rfl (Shp.cons rfl (Shp.cons (lenB hx) Shp.nil))))))) 5 rfl rfl)) ?_
 refine Ys ?_
 refine Cs g_aumbry_wots_Along ((along_ok S25.le (hT.mono (hl9.trans hl13)) f.q (start_len _ _ _)).mono ?_)
 rintro e w27 ⟨rfl, hB26⟩
 have S28 := S25.call hB26
 refine ⟨_, rfl, (((Hp.le.refl _)).trans S28.le), ?_⟩
 refine Ys ?_
 refine T_neB (xs := f.x) (ys := Go.Au.steps (max (0 : Int) (min f.q 15)).toNat (Go.Au.start seed f.a f.c)) rfl rfl rfl rfl rfl rfl rfl rfl rfl rfl rfl hx (steps_len _ (start_len _ _ _)) (Pv (T_nil ?_))
 refine W_bool 64 false rfl (ndec_f hv) (W_cond_false rfl (W_skip (Wr (Pv ?_))))
 refine Fl 3 ?_
 refine Ab (r := by exact still_cell r14 (gV_cell (ns := [1, 1, 1, 1, 1, 1, 32]) (Shp.cons rfl (Shp.cons rfl (Shp.cons rfl (Shp.cons rfl (Shp.cons rfl (Shp.cons rfl (Shp.cons (lenB hx) Shp.nil))))))) 3 rfl rfl)) S28 ?_
 refine Cs g_aumbry_mss_told ((told_ok S28.le (hL.mono (hl9.trans hl13)) f.a).mono ?_)
 rintro e w34 ⟨a29, c30, hc31, rfl, hr32, hB33⟩
 have S35 := S28.call hB33
 refine ⟨_, rfl, trivial, ?_⟩
 refine Pv (T_nil (W_seq ?_))
 refine W_plan (planF Tryz.prog G12 [76, 80]) rfl (by kernel_rfl) S35.le ?_
 have S36 := S35.drew
 iterate 4 refine Pv ?_
 refine Td 72 (fun h37 => ?_) (fun h37 => ?_)
 ·iterate 9 refine No ?_
  refine P2 (T_nil (W_ret ?_))
  refine ⟨_, ⟨_, _, rfl, rfl, rfl⟩, ?_⟩
  exact ⟨rfl, S36.below⟩
 refine Ys ?_
 refine Pv ?_
 refine Ys ?_
 refine Cs g_aumbry_wots_Digits ((digits_w_ok S36.le (hT.mono (hl9.trans hl13)) hr32 (by omega)).mono ?_)
 rintro e w43 ⟨a38, c39, hc40, rfl, ho41, hB42⟩
 have S44 := S36.own hB42 ho41
 refine ⟨_, rfl, (((Hp.le.refl _)).trans S44.le), ?_⟩
 refine Ys ?_
 refine Fl 4 ?_
 refine Ys ?_
 refine Ak (r := by exact still_cell r14 (gV_cell (ns := [1, 1, 1, 1, 1, 1, 32]) (Shp.cons rfl (Shp.cons rfl (Shp.cons rfl (Shp.cons rfl (Shp.cons rfl (Shp.cons rfl (Shp.cons (lenB hx) Shp.nil))))))) 4 rfl rfl)) ?_
 refine Ys ?_
 obtain ⟨G46, hl47, S45, r48⟩ := S44.stillRow 0 rfl
 refine Af f.c.toNat r48 fun b49 o50 hc51 => ?_
 have hc52 := hc51 0 (.int .i64 ((Go.Au.digits (wasAt L f.a)).getD f.c.toNat 0)) (at_i (Go.Au.digits (wasAt L f.a)) f.c.toNat (by omega))
 simp only [Nat.add_zero] at hc52
 refine Ys ?_
 refine Ab (r := by exact hc52) S45 ?_
 refine Ys ?_
 refine Fl 5 ?_
 refine Ys ?_
 refine Ak (r := by exact still_cell r14 (gV_cell (ns := [1, 1, 1, 1, 1, 1, 32]) (Shp.cons rfl (Shp.cons rfl (Shp.cons rfl (Shp.cons rfl (Shp.cons rfl (Shp.cons rfl (Shp.cons (lenB hx) Shp.nil))))))) 5 rfl rfl)) ?_
 refine Ys ?_
 refine P3 (T_nil (W_ret ?_))
 refine ⟨_, ⟨_, _, rfl, rfl, rfl⟩, ?_⟩
 exact ⟨congrArg (fun z => Ending.returned (Value.bool z)) (decide_eq_true (hd.resolve_left (by omega))), S45.below⟩


theorem holdsT_ok {H : Hp} {w : World} (hH : H.le (hw w)) (hT : Tabs H) {seed : List UInt8} (hs : seed.length = 16) (h : Int) {L : List (List UInt8)} {aa2 : Option Addr} {nn2 cc2 : Nat} (hL : RdL H (.slice aa2 nn2 cc2) L) {f : FgP} {a1 a2 : Option Addr} {n1 c1 n2 c2 : Nat} (hA : Rd H (.slice a1 n1 c1) n1 1 (f.A.map bV)) (hB : Rd H (.slice a2 n2 c2) n2 1 (f.B.map bV)) (hx : f.x.length = 32) (hm : 0 ≤ h ∧ h ≤ 4) (hLl : ((L.length : Nat) : Int) = ((2 ^ h.toNat : Nat) : Int)) (hLb : ∀ i, (L.getD i []).length < 1000) (hbA : f.A.length ≤ 100000) (hbB : f.B.length ≤ 100000) (hr : (0 ≤ f.a ∧ f.a < ((2 ^ h.toNat : Nat) : Int)) ∧ (0 ≤ f.c ∧ f.c < 67) ∧ 0 ≤ f.q ∧ f.q ≤ 15) (hok : f.ok) (hh : holdsF seed h L f = true) :
  Calls Tryz.prog 13 #[hV seed, .int .i64 h, .slice aa2 nn2 cc2, gV [[.slice a1 n1 c1], [.slice a2 n2 c2], [.bool f.k], [.int .i64 f.a], [.int .i64 f.c], [.int .i64 f.q], f.x.map bV]] w fun e w' => e = .returned (.bool true) ∧ Below w.heap.size w w' := by
 rcases Bool.eq_false_or_eq_true f.k with hk | hk
 case inr => exact holdsB hH hT hs h hL hA hB hx hm hLl hLb hbA hbB hr hk (holdsF_b hh hk).2
 case inl =>
  have hi := holds_inv (holdsF_l hh hk).2
  have hWa : wasAt L f.a = L.getD f.a.toNat [] := wasAt_in ⟨by omega, by omega⟩
  exact holdsL hH hT hs h hL hA hB hx hm hLl hLb hbA hbB hr hk (hok.1 hk).1 (hok.1 hk).2 hi.1 (by rw [hWa]; exact hi.2)

theorem holdsRB {H : Hp} {w : World} (hH : H.le (hw w)) {seed : List UInt8} (hs : seed.length = 16) (h : Int) {L : List (List UInt8)} {aa2 : Option Addr} {nn2 cc2 : Nat} (hL : RdL H (.slice aa2 nn2 cc2) L) {f : FgP} {a1 a2 : Option Addr} {n1 c1 n2 c2 : Nat} (hA : Rd H (.slice a1 n1 c1) n1 1 (f.A.map bV)) (hB : Rd H (.slice a2 n2 c2) n2 1 (f.B.map bV)) (hx : f.x.length = 32) (hm : 0 ≤ h ∧ h ≤ 4) (hLl : ((L.length : Nat) : Int) = ((2 ^ h.toNat : Nat) : Int)) (hLb : ∀ i, (L.getD i []).length < 1000) (hbA : f.A.length ≤ 100000) (hbB : f.B.length ≤ 100000) (hr : (0 ≤ f.a ∧ f.a < ((2 ^ h.toNat : Nat) : Int)) ∧ (0 ≤ f.c ∧ f.c < 67) ∧ 0 ≤ f.q ∧ f.q ≤ 15) (hk : f.k = false) (hbr : isB f.A f.B = true) :
  Calls Tryz.prog 14 #[hV seed, .int .i64 h, .slice aa2 nn2 cc2, gV [[.slice a1 n1 c1], [.slice a2 n2 c2], [.bool f.k], [.int .i64 f.a], [.int .i64 f.c], [.int .i64 f.q], f.x.map bV]] w fun e w' => e = .returned (.bool true) ∧ Below w.heap.size w w' := by
 obtain rfl : nn2 = L.length := hL.len
 obtain rfl : n1 = f.A.length := hA.lenB
 obtain rfl : n2 = f.B.length := hB.lenB
 have hp16 := pow16 (h := h) (by omega) (by omega)
 have hWa : wasAt L f.a = L.getD f.a.toNat [] := wasAt_in ⟨by omega, by omega⟩
 have hWl : (wasAt L f.a).length < 1000 := by rw [hWa]; exact hLb _
 have hdw := digits_len (wasAt L f.a)
 refine enter4 _ Tryz.func14 rfl Tryz.ntmps14 Tryz.results14 rfl ?_
 have S0 := St.start w hH
 refine Wr (Ah S0 fun b1 w2 S3 => ?_)
 refine Ah S3 fun b4 w5 S6 => ?_
 refine Pv (T_nil ?_)
 iterate 2 refine W_seq ?_
 obtain ⟨G8, hl9, S7, r10⟩ := S6.stillBlk 1 rfl
 obtain ⟨G12, hl13, S11, r14⟩ := S7.stillBlk 0 rfl
 refine W_region (Fl 3 ?_)
 refine Ab (r := by exact still_cell r14 (gV_cell (ns := [1, 1, 1, 1, 1, 1, 32]) (Shp.cons rfl (Shp.cons rfl (Shp.cons rfl (Shp.cons rfl (Shp.cons rfl (Shp.cons rfl (Shp.cons (lenB hx) Shp.nil))))))) 3 rfl rfl)) S11 ?_
 refine P2 ?_
 refine T_bool 13 false rfl (decide_eq_false (by omega)) ?_
 refine Ys ?_
 refine Fl 3 ?_
 refine Ys ?_
 refine Ab (r := by exact still_cell r14 (gV_cell (ns := [1, 1, 1, 1, 1, 1, 32]) (Shp.cons rfl (Shp.cons rfl (Shp.cons rfl (Shp.cons rfl (Shp.cons rfl (Shp.cons rfl (Shp.cons (lenB hx) Shp.nil))))))) 3 rfl rfl)) S11 ?_
 iterate 2 (refine Ys ?_; refine Pv ?_)
 refine T_re (v' := .int .u64 h) (congrArg (Value.int .u64) (by rw [IntKind.wrap_u64]; omega)) ?_
 refine Ys ?_
 refine T_shl rfl rfl rfl rfl rfl rfl (by omega) ?_
 refine T_re (v' := .int .i64 ((2 ^ h.toNat : Nat) : Int)) (congrArg (Value.int .i64) (shlI (by omega) (by omega))) ?_
 refine Ys ?_
 refine P3 ?_
 refine T_bool 21 false rfl (decide_eq_false (by omega)) ?_
 refine Ys ?_
 refine Fl 4 ?_
 refine Ys ?_
 refine Ab (r := by exact still_cell r14 (gV_cell (ns := [1, 1, 1, 1, 1, 1, 32]) (Shp.cons rfl (Shp.cons rfl (Shp.cons rfl (Shp.cons rfl (Shp.cons rfl (Shp.cons rfl (Shp.cons (lenB hx) Shp.nil))))))) 4 rfl rfl)) S11 ?_
 refine Ys ?_
 refine P3 ?_
 refine T_bool 26 false rfl (decide_eq_false (by omega)) ?_
 refine Ys ?_
 refine Fl 4 ?_
 refine Ys ?_
 refine Ab (r := by exact still_cell r14 (gV_cell (ns := [1, 1, 1, 1, 1, 1, 32]) (Shp.cons rfl (Shp.cons rfl (Shp.cons rfl (Shp.cons rfl (Shp.cons rfl (Shp.cons rfl (Shp.cons (lenB hx) Shp.nil))))))) 4 rfl rfl)) S11 ?_
 refine Ys ?_
 refine P3 ?_
 refine T_bool 31 false rfl (decide_eq_false (by omega)) ?_
 refine Ys ?_
 refine Fl 5 ?_
 refine Ys ?_
 refine Ab (r := by exact still_cell r14 (gV_cell (ns := [1, 1, 1, 1, 1, 1, 32]) (Shp.cons rfl (Shp.cons rfl (Shp.cons rfl (Shp.cons rfl (Shp.cons rfl (Shp.cons rfl (Shp.cons (lenB hx) Shp.nil))))))) 5 rfl rfl)) S11 ?_
 refine Ys ?_
 refine P3 ?_
 refine T_bool 36 false rfl (decide_eq_false (by omega)) ?_
 refine Ys ?_
 refine Fl 5 ?_
 refine Ys ?_
 refine Ab (r := by exact still_cell r14 (gV_cell (ns := [1, 1, 1, 1, 1, 1, 32]) (Shp.cons rfl (Shp.cons rfl (Shp.cons rfl (Shp.cons rfl (Shp.cons rfl (Shp.cons rfl (Shp.cons (lenB hx) Shp.nil))))))) 5 rfl rfl)) S11 ?_
 refine Ys ?_
 refine P2 (T_nil ?_)
 refine W_bool 40 false rfl (decide_eq_false (by omega)) ?_
 refine W_cond_false rfl (W_skip (W_seq (Wr (Fl 2 ?_))))
 refine Ab (r := by exact still_cell r14 (gV_cell (ns := [1, 1, 1, 1, 1, 1, 32]) (Shp.cons rfl (Shp.cons rfl (Shp.cons rfl (Shp.cons rfl (Shp.cons rfl (Shp.cons rfl (Shp.cons (lenB hx) Shp.nil))))))) 2 rfl rfl)) S11 ?_
 refine Pv (T_nil ?_)
 refine W_bool 43 true rfl (by rw [hk]; rfl) ?_
 refine W_cond_true rfl (Wr (Fl 0 ?_))
 refine T_loadGA (.agg #[.slice a1 f.A.length c1, .slice a2 f.B.length c2] : Value).cells S11 (still_part r14 (gV_sub (ns := [1, 1, 1, 1, 1, 1, 32]) (Shp.cons rfl (Shp.cons rfl (Shp.cons rfl (Shp.cons rfl (Shp.cons rfl (Shp.cons rfl (Shp.cons (lenB hx) Shp.nil))))))) 0 2 (c := [.slice a1 f.A.length c1, .slice a2 f.B.length c2]) (rfl) rfl)) rfl rfl rfl rfl rfl rfl rfl rfl (by first | rfl | simp [hVs, *]) ?_
 refine Cs g_aumbry_aumbryref01_Same ((isbrR_ok S11.le (hA.mono (hl9.trans hl13)) (hB.mono (hl9.trans hl13)) (by omega) (by omega)).mono ?_)
 rintro e w16 ⟨rfl, hB15⟩
 have S17 := S11.call hB15
 refine ⟨_, rfl, trivial, ?_⟩
 refine Pv (T_nil (W_ret ?_))
 refine ⟨_, ⟨_, _, rfl, rfl, rfl⟩, ?_⟩
 exact ⟨congrArg (fun z => Ending.returned (Value.bool z)) hbr, S17.below⟩


theorem holdsRL0 {H : Hp} {w : World} (hH : H.le (hw w)) {seed : List UInt8} (hs : seed.length = 16) (h : Int) {L : List (List UInt8)} {aa2 : Option Addr} {nn2 cc2 : Nat} (hL : RdL H (.slice aa2 nn2 cc2) L) {f : FgP} {a1 a2 : Option Addr} {n1 c1 n2 c2 : Nat} (hA : Rd H (.slice a1 n1 c1) n1 1 (f.A.map bV)) (hB : Rd H (.slice a2 n2 c2) n2 1 (f.B.map bV)) (hx : f.x.length = 32) (hm : 0 ≤ h ∧ h ≤ 4) (hLl : ((L.length : Nat) : Int) = ((2 ^ h.toNat : Nat) : Int)) (hLb : ∀ i, (L.getD i []).length < 1000) (hbA : f.A.length ≤ 100000) (hbB : f.B.length ≤ 100000) (hr : (0 ≤ f.a ∧ f.a < ((2 ^ h.toNat : Nat) : Int)) ∧ (0 ≤ f.c ∧ f.c < 67) ∧ 0 ≤ f.q ∧ f.q ≤ 15) (hk : f.k = true) (hA0 : f.A = []) (hB0 : f.B = []) (hv : f.x = Go.Au.steps (max (0 : Int) (min f.q 15)).toNat (Go.Au.start seed f.a f.c)) (hd : (((wasAt L f.a).length : Nat) : Int) = 0 ∨ f.q < (Go.Au.digits (wasAt L f.a)).getD f.c.toNat 0) (h0 : (wasAt L f.a).length = 0) :
  Calls Tryz.prog 14 #[hV seed, .int .i64 h, .slice aa2 nn2 cc2, gV [[.slice a1 n1 c1], [.slice a2 n2 c2], [.bool f.k], [.int .i64 f.a], [.int .i64 f.c], [.int .i64 f.q], f.x.map bV]] w fun e w' => e = .returned (.bool true) ∧ Below w.heap.size w w' := by
 obtain rfl : nn2 = L.length := hL.len
 obtain rfl : n1 = f.A.length := hA.lenB
 obtain rfl : n2 = f.B.length := hB.lenB
 have hp16 := pow16 (h := h) (by omega) (by omega)
 have hWa : wasAt L f.a = L.getD f.a.toNat [] := wasAt_in ⟨by omega, by omega⟩
 have hWl : (wasAt L f.a).length < 1000 := by rw [hWa]; exact hLb _
 have hdw := digits_len (wasAt L f.a)
 refine enter4 _ Tryz.func14 rfl Tryz.ntmps14 Tryz.results14 rfl ?_
 have S0 := St.start w hH
 refine Wr (Ah S0 fun b1 w2 S3 => ?_)
 refine Ah S3 fun b4 w5 S6 => ?_
 refine Pv (T_nil ?_)
 iterate 2 refine W_seq ?_
 obtain ⟨G8, hl9, S7, r10⟩ := S6.stillBlk 1 rfl
 obtain ⟨G12, hl13, S11, r14⟩ := S7.stillBlk 0 rfl
 refine W_region (Fl 3 ?_)
 refine Ab (r := by exact still_cell r14 (gV_cell (ns := [1, 1, 1, 1, 1, 1, 32]) (Shp.cons rfl (Shp.cons rfl (Shp.cons rfl (Shp.cons rfl (Shp.cons rfl (Shp.cons rfl (Shp.cons (lenB hx) Shp.nil))))))) 3 rfl rfl)) S11 ?_
 refine P2 ?_
 refine T_bool 13 false rfl (decide_eq_false (by omega)) ?_
 refine Ys ?_
 refine Fl 3 ?_
 refine Ys ?_
 refine Ab (r := by exact still_cell r14 (gV_cell (ns := [1, 1, 1, 1, 1, 1, 32]) (Shp.cons rfl (Shp.cons rfl (Shp.cons rfl (Shp.cons rfl (Shp.cons rfl (Shp.cons rfl (Shp.cons (lenB hx) Shp.nil))))))) 3 rfl rfl)) S11 ?_
 iterate 2 (refine Ys ?_; refine Pv ?_)
 refine T_re (v' := .int .u64 h) (congrArg (Value.int .u64) (by rw [IntKind.wrap_u64]; omega)) ?_
 refine Ys ?_
 refine T_shl rfl rfl rfl rfl rfl rfl (by omega) ?_
 refine T_re (v' := .int .i64 ((2 ^ h.toNat : Nat) : Int)) (congrArg (Value.int .i64) (shlI (by omega) (by omega))) ?_
 refine Ys ?_
 refine P3 ?_
 refine T_bool 21 false rfl (decide_eq_false (by omega)) ?_
 refine Ys ?_
 refine Fl 4 ?_
 refine Ys ?_
 refine Ab (r := by exact still_cell r14 (gV_cell (ns := [1, 1, 1, 1, 1, 1, 32]) (Shp.cons rfl (Shp.cons rfl (Shp.cons rfl (Shp.cons rfl (Shp.cons rfl (Shp.cons rfl (Shp.cons (lenB hx) Shp.nil))))))) 4 rfl rfl)) S11 ?_
 refine Ys ?_
 refine P3 ?_
 refine T_bool 26 false rfl (decide_eq_false (by omega)) ?_
 refine Ys ?_
 refine Fl 4 ?_
 refine Ys ?_
 refine Ab (r := by exact still_cell r14 (gV_cell (ns := [1, 1, 1, 1, 1, 1, 32]) (Shp.cons rfl (Shp.cons rfl (Shp.cons rfl (Shp.cons rfl (Shp.cons rfl (Shp.cons rfl (Shp.cons (lenB hx) Shp.nil))))))) 4 rfl rfl)) S11 ?_
 refine Ys ?_
 refine P3 ?_
 refine T_bool 31 false rfl (decide_eq_false (by omega)) ?_
 refine Ys ?_
 refine Fl 5 ?_
 refine Ys ?_
 refine Ab (r := by exact still_cell r14 (gV_cell (ns := [1, 1, 1, 1, 1, 1, 32]) (Shp.cons rfl (Shp.cons rfl (Shp.cons rfl (Shp.cons rfl (Shp.cons rfl (Shp.cons rfl (Shp.cons (lenB hx) Shp.nil))))))) 5 rfl rfl)) S11 ?_
 refine Ys ?_
 refine P3 ?_
 refine T_bool 36 false rfl (decide_eq_false (by omega)) ?_
 refine Ys ?_
 refine Fl 5 ?_
 refine Ys ?_
 refine Ab (r := by exact still_cell r14 (gV_cell (ns := [1, 1, 1, 1, 1, 1, 32]) (Shp.cons rfl (Shp.cons rfl (Shp.cons rfl (Shp.cons rfl (Shp.cons rfl (Shp.cons rfl (Shp.cons (lenB hx) Shp.nil))))))) 5 rfl rfl)) S11 ?_
 refine Ys ?_
 refine P2 (T_nil ?_)
 refine W_bool 40 false rfl (decide_eq_false (by omega)) ?_
 refine W_cond_false rfl (W_skip (W_seq (Wr (Fl 2 ?_))))
 refine Ab (r := by exact still_cell r14 (gV_cell (ns := [1, 1, 1, 1, 1, 1, 32]) (Shp.cons rfl (Shp.cons rfl (Shp.cons rfl (Shp.cons rfl (Shp.cons rfl (Shp.cons rfl (Shp.cons (lenB hx) Shp.nil))))))) 2 rfl rfl)) S11 ?_
 refine Pv (T_nil ?_)
 refine W_bool 43 false rfl (by rw [hk]; rfl) ?_
 refine W_cond_false rfl (W_skip ?_)
 iterate 2 refine W_seq ?_
 refine W_plan (planF Tryz.prog G12 [48, 56]) rfl (by kernel_rfl) S11.le ?_
 have S15 := S11.drew
 refine Fl 6 ?_
 refine T_loadGAP (hV f.x : Value).cells (fun _ h => h) (still_part r14 (gV_sub (ns := [1, 1, 1, 1, 1, 1, 32]) (Shp.cons rfl (Shp.cons rfl (Shp.cons rfl (Shp.cons rfl (Shp.cons rfl (Shp.cons rfl (Shp.cons (lenB hx) Shp.nil))))))) 6 1 (c := f.x.map bV) (flat1) rfl)) rfl rfl rfl rfl rfl rfl rfl rfl (hVs hx) (T_loadGA _ S15 (still_cells (hl13 _ _ r10)) rfl rfl rfl rfl rfl rfl rfl rfl (hVs hs) (Fl 3 ?_))
 refine Ab (r := by exact still_cell r14 (gV_cell (ns := [1, 1, 1, 1, 1, 1, 32]) (Shp.cons rfl (Shp.cons rfl (Shp.cons rfl (Shp.cons rfl (Shp.cons rfl (Shp.cons rfl (Shp.cons (lenB hx) Shp.nil))))))) 3 rfl rfl)) S15 ?_
 refine Fl 4 ?_
 refine Ab (r := by exact still_cell r14 (gV_cell (ns := [1, 1, 1, 1, 1, 1, 32]) (Shp.cons rfl (Shp.cons rfl (Shp.cons rfl (Shp.cons rfl (Shp.cons rfl (Shp.cons rfl (Shp.cons (lenB hx) Shp.nil))))))) 4 rfl rfl)) S15 ?_
 refine Cs g_aumbry_aumbryref07_Start ((startR_ok S15.le f.a f.c hs (by omega) (by omega)).mono ?_)
 rintro e w17 ⟨rfl, hB16⟩
 have S18 := S15.call hB16
 refine ⟨_, rfl, (((Hp.le.refl _)).trans S18.le), ?_⟩
 refine Fl 5 ?_
 refine Ak (r := by exact still_cell r14 (gV_cell (ns := [1, 1, 1, 1, 1, 1, 32]) (Shp.cons rfl (Shp.cons rfl (Shp.cons rfl (Shp.cons rfl (Shp.cons rfl (Shp.cons rfl (Shp.cons (lenB hx) Shp.nil))))))) 5 rfl rfl)) ?_
 refine Cs g_aumbry_aumbryref07_Along ((alongR_ok S18.le f.q (start_len _ _ _)).mono ?_)
 rintro e w20 ⟨rfl, hB19⟩
 have S21 := S18.call hB19
 refine ⟨_, rfl, (((Hp.le.refl _)).trans S21.le), ?_⟩
 refine T_neB (xs := f.x) (ys := Go.Au.steps (max (0 : Int) (min f.q 15)).toNat (Go.Au.start seed f.a f.c)) rfl rfl rfl rfl rfl rfl rfl rfl rfl rfl rfl hx (steps_len _ (start_len _ _ _)) (T_nil (W_bool 58 false rfl (ndec_f hv) (W_cond_false rfl (W_skip (Wr (Pv ?_))))))
 refine Fl 3 ?_
 refine Ab (r := by exact still_cell r14 (gV_cell (ns := [1, 1, 1, 1, 1, 1, 32]) (Shp.cons rfl (Shp.cons rfl (Shp.cons rfl (Shp.cons rfl (Shp.cons rfl (Shp.cons rfl (Shp.cons (lenB hx) Shp.nil))))))) 3 rfl rfl)) S21 ?_
 refine Cs g_aumbry_aumbryref07_signedBy ((signedNo_ok S21.le (hL.mono (hl9.trans hl13)) f.a h0).mono ?_)
 rintro e w23 ⟨rfl, hB22⟩
 have S24 := S21.call hB22
 refine ⟨_, rfl, trivial, ?_⟩
 refine Pv (T_nil (W_seq ?_))
 refine W_plan (planF Tryz.prog G12 [69, 73]) rfl (by kernel_rfl) S24.le ?_
 have S25 := S24.drew
 refine Pv ?_
 refine T_snil rfl rfl rfl rfl rfl rfl rfl (Pv ?_)
 refine T_bool 65 true rfl rfl ?_
 iterate 9 refine No ?_
 refine P2 (T_nil (W_ret ?_))
 refine ⟨_, ⟨_, _, rfl, rfl, rfl⟩, ?_⟩
 exact ⟨rfl, S25.below⟩


theorem holdsRL1 {H : Hp} {w : World} (hH : H.le (hw w)) {seed : List UInt8} (hs : seed.length = 16) (h : Int) {L : List (List UInt8)} {aa2 : Option Addr} {nn2 cc2 : Nat} (hL : RdL H (.slice aa2 nn2 cc2) L) {f : FgP} {a1 a2 : Option Addr} {n1 c1 n2 c2 : Nat} (hA : Rd H (.slice a1 n1 c1) n1 1 (f.A.map bV)) (hB : Rd H (.slice a2 n2 c2) n2 1 (f.B.map bV)) (hx : f.x.length = 32) (hm : 0 ≤ h ∧ h ≤ 4) (hLl : ((L.length : Nat) : Int) = ((2 ^ h.toNat : Nat) : Int)) (hLb : ∀ i, (L.getD i []).length < 1000) (hbA : f.A.length ≤ 100000) (hbB : f.B.length ≤ 100000) (hr : (0 ≤ f.a ∧ f.a < ((2 ^ h.toNat : Nat) : Int)) ∧ (0 ≤ f.c ∧ f.c < 67) ∧ 0 ≤ f.q ∧ f.q ≤ 15) (hk : f.k = true) (hA0 : f.A = []) (hB0 : f.B = []) (hv : f.x = Go.Au.steps (max (0 : Int) (min f.q 15)).toNat (Go.Au.start seed f.a f.c)) (hd : (((wasAt L f.a).length : Nat) : Int) = 0 ∨ f.q < (Go.Au.digits (wasAt L f.a)).getD f.c.toNat 0) (h0 : ¬ (wasAt L f.a).length = 0) :
  Calls Tryz.prog 14 #[hV seed, .int .i64 h, .slice aa2 nn2 cc2, gV [[.slice a1 n1 c1], [.slice a2 n2 c2], [.bool f.k], [.int .i64 f.a], [.int .i64 f.c], [.int .i64 f.q], f.x.map bV]] w fun e w' => e = .returned (.bool true) ∧ Below w.heap.size w w' := by
 obtain rfl : nn2 = L.length := hL.len
 obtain rfl : n1 = f.A.length := hA.lenB
 obtain rfl : n2 = f.B.length := hB.lenB
 have hp16 := pow16 (h := h) (by omega) (by omega)
 have hWa : wasAt L f.a = L.getD f.a.toNat [] := wasAt_in ⟨by omega, by omega⟩
 have hWl : (wasAt L f.a).length < 1000 := by rw [hWa]; exact hLb _
 have hdw := digits_len (wasAt L f.a)
 refine enter4 _ Tryz.func14 rfl Tryz.ntmps14 Tryz.results14 rfl ?_
 have S0 := St.start w hH
 refine Wr (Ah S0 fun b1 w2 S3 => ?_)
 refine Ah S3 fun b4 w5 S6 => ?_
 refine Pv (T_nil ?_)
 iterate 2 refine W_seq ?_
 obtain ⟨G8, hl9, S7, r10⟩ := S6.stillBlk 1 rfl
 obtain ⟨G12, hl13, S11, r14⟩ := S7.stillBlk 0 rfl
 refine W_region (Fl 3 ?_)
 refine Ab (r := by exact still_cell r14 (gV_cell (ns := [1, 1, 1, 1, 1, 1, 32]) (Shp.cons rfl (Shp.cons rfl (Shp.cons rfl (Shp.cons rfl (Shp.cons rfl (Shp.cons rfl (Shp.cons (lenB hx) Shp.nil))))))) 3 rfl rfl)) S11 ?_
 refine P2 ?_
 refine T_bool 13 false rfl (decide_eq_false (by omega)) ?_
 refine Ys ?_
 refine Fl 3 ?_
 refine Ys ?_
 refine Ab (r := by exact still_cell r14 (gV_cell (ns := [1, 1, 1, 1, 1, 1, 32]) (Shp.cons rfl (Shp.cons rfl (Shp.cons rfl (Shp.cons rfl (Shp.cons rfl (Shp.cons rfl (Shp.cons (lenB hx) Shp.nil))))))) 3 rfl rfl)) S11 ?_
 iterate 2 (refine Ys ?_; refine Pv ?_)
 refine T_re (v' := .int .u64 h) (congrArg (Value.int .u64) (by rw [IntKind.wrap_u64]; omega)) ?_
 refine Ys ?_
 refine T_shl rfl rfl rfl rfl rfl rfl (by omega) ?_
 refine T_re (v' := .int .i64 ((2 ^ h.toNat : Nat) : Int)) (congrArg (Value.int .i64) (shlI (by omega) (by omega))) ?_
 refine Ys ?_
 refine P3 ?_
 refine T_bool 21 false rfl (decide_eq_false (by omega)) ?_
 refine Ys ?_
 refine Fl 4 ?_
 refine Ys ?_
 refine Ab (r := by exact still_cell r14 (gV_cell (ns := [1, 1, 1, 1, 1, 1, 32]) (Shp.cons rfl (Shp.cons rfl (Shp.cons rfl (Shp.cons rfl (Shp.cons rfl (Shp.cons rfl (Shp.cons (lenB hx) Shp.nil))))))) 4 rfl rfl)) S11 ?_
 refine Ys ?_
 refine P3 ?_
 refine T_bool 26 false rfl (decide_eq_false (by omega)) ?_
 refine Ys ?_
 refine Fl 4 ?_
 refine Ys ?_
 refine Ab (r := by exact still_cell r14 (gV_cell (ns := [1, 1, 1, 1, 1, 1, 32]) (Shp.cons rfl (Shp.cons rfl (Shp.cons rfl (Shp.cons rfl (Shp.cons rfl (Shp.cons rfl (Shp.cons (lenB hx) Shp.nil))))))) 4 rfl rfl)) S11 ?_
 refine Ys ?_
 refine P3 ?_
 refine T_bool 31 false rfl (decide_eq_false (by omega)) ?_
 refine Ys ?_
 refine Fl 5 ?_
 refine Ys ?_
 refine Ab (r := by exact still_cell r14 (gV_cell (ns := [1, 1, 1, 1, 1, 1, 32]) (Shp.cons rfl (Shp.cons rfl (Shp.cons rfl (Shp.cons rfl (Shp.cons rfl (Shp.cons rfl (Shp.cons (lenB hx) Shp.nil))))))) 5 rfl rfl)) S11 ?_
 refine Ys ?_
 refine P3 ?_
 refine T_bool 36 false rfl (decide_eq_false (by omega)) ?_
 refine Ys ?_
 refine Fl 5 ?_
 refine Ys ?_
 refine Ab (r := by exact still_cell r14 (gV_cell (ns := [1, 1, 1, 1, 1, 1, 32]) (Shp.cons rfl (Shp.cons rfl (Shp.cons rfl (Shp.cons rfl (Shp.cons rfl (Shp.cons rfl (Shp.cons (lenB hx) Shp.nil))))))) 5 rfl rfl)) S11 ?_
 refine Ys ?_
 refine P2 (T_nil ?_)
 refine W_bool 40 false rfl (decide_eq_false (by omega)) ?_
 refine W_cond_false rfl (W_skip (W_seq (Wr (Fl 2 ?_))))
 refine Ab (r := by exact still_cell r14 (gV_cell (ns := [1, 1, 1, 1, 1, 1, 32]) (Shp.cons rfl (Shp.cons rfl (Shp.cons rfl (Shp.cons rfl (Shp.cons rfl (Shp.cons rfl (Shp.cons (lenB hx) Shp.nil))))))) 2 rfl rfl)) S11 ?_
 refine Pv (T_nil ?_)
 refine W_bool 43 false rfl (by rw [hk]; rfl) ?_
 refine W_cond_false rfl (W_skip ?_)
 iterate 2 refine W_seq ?_
 refine W_plan (planF Tryz.prog G12 [48, 56]) rfl (by kernel_rfl) S11.le ?_
 have S15 := S11.drew
 refine Fl 6 ?_
 refine T_loadGAP (hV f.x : Value).cells (fun _ h => h) (still_part r14 (gV_sub (ns := [1, 1, 1, 1, 1, 1, 32]) (Shp.cons rfl (Shp.cons rfl (Shp.cons rfl (Shp.cons rfl (Shp.cons rfl (Shp.cons rfl (Shp.cons (lenB hx) Shp.nil))))))) 6 1 (c := f.x.map bV) (flat1) rfl)) rfl rfl rfl rfl rfl rfl rfl rfl (hVs hx) (T_loadGA _ S15 (still_cells (hl13 _ _ r10)) rfl rfl rfl rfl rfl rfl rfl rfl (hVs hs) (Fl 3 ?_))
 refine Ab (r := by exact still_cell r14 (gV_cell (ns := [1, 1, 1, 1, 1, 1, 32]) (Shp.cons rfl (Shp.cons rfl (Shp.cons rfl (Shp.cons rfl (Shp.cons rfl (Shp.cons rfl (Shp.cons (lenB hx) Shp.nil))))))) 3 rfl rfl)) S15 ?_
 refine Fl 4 ?_
 refine Ab (r := by exact still_cell r14 (gV_cell (ns := [1, 1, 1, 1, 1, 1, 32]) (Shp.cons rfl (Shp.cons rfl (Shp.cons rfl (Shp.cons rfl (Shp.cons rfl (Shp.cons rfl (Shp.cons (lenB hx) Shp.nil))))))) 4 rfl rfl)) S15 ?_
 refine Cs g_aumbry_aumbryref07_Start ((startR_ok S15.le f.a f.c hs (by omega) (by omega)).mono ?_)
 rintro e w17 ⟨rfl, hB16⟩
 have S18 := S15.call hB16
 refine ⟨_, rfl, (((Hp.le.refl _)).trans S18.le), ?_⟩
 refine Fl 5 ?_
 refine Ak (r := by exact still_cell r14 (gV_cell (ns := [1, 1, 1, 1, 1, 1, 32]) (Shp.cons rfl (Shp.cons rfl (Shp.cons rfl (Shp.cons rfl (Shp.cons rfl (Shp.cons rfl (Shp.cons (lenB hx) Shp.nil))))))) 5 rfl rfl)) ?_
 refine Cs g_aumbry_aumbryref07_Along ((alongR_ok S18.le f.q (start_len _ _ _)).mono ?_)
 rintro e w20 ⟨rfl, hB19⟩
 have S21 := S18.call hB19
 refine ⟨_, rfl, (((Hp.le.refl _)).trans S21.le), ?_⟩
 refine T_neB (xs := f.x) (ys := Go.Au.steps (max (0 : Int) (min f.q 15)).toNat (Go.Au.start seed f.a f.c)) rfl rfl rfl rfl rfl rfl rfl rfl rfl rfl rfl hx (steps_len _ (start_len _ _ _)) (T_nil (W_bool 58 false rfl (ndec_f hv) (W_cond_false rfl (W_skip (Wr (Pv ?_))))))
 refine Fl 3 ?_
 refine Ab (r := by exact still_cell r14 (gV_cell (ns := [1, 1, 1, 1, 1, 1, 32]) (Shp.cons rfl (Shp.cons rfl (Shp.cons rfl (Shp.cons rfl (Shp.cons rfl (Shp.cons rfl (Shp.cons (lenB hx) Shp.nil))))))) 3 rfl rfl)) S21 ?_
 refine Cs g_aumbry_aumbryref07_signedBy ((signedYes_ok S21.le (hL.mono (hl9.trans hl13)) f.a h0).mono ?_)
 rintro e w27 ⟨a22, c23, hc24, rfl, hr25, hB26⟩
 have S28 := S21.call hB26
 refine ⟨_, rfl, trivial, ?_⟩
 have hnn := isNone_no hr25 (by omega)
 refine Pv (T_nil (W_seq ?_))
 refine W_plan (planF Tryz.prog G12 [69, 73]) rfl (by kernel_rfl) S28.le ?_
 have S29 := S28.drew
 refine Pv ?_
 refine T_snil rfl rfl rfl rfl rfl rfl rfl (Pv ?_)
 refine T_bool 65 false rfl hnn (Ys ?_)
 refine Pv ?_
 refine Ys ?_
 refine Cs g_aumbry_aumbryref07_Digits ((digitsR_w_ok S29.le hr25 (by omega)).mono ?_)
 rintro e w35 ⟨a30, c31, hc32, rfl, ho33, hB34⟩
 have S36 := S29.own hB34 ho33
 refine ⟨_, rfl, (((Hp.le.refl _)).trans S36.le), ?_⟩
 refine Ys ?_
 refine Fl 4 ?_
 refine Ys ?_
 refine Ak (r := by exact still_cell r14 (gV_cell (ns := [1, 1, 1, 1, 1, 1, 32]) (Shp.cons rfl (Shp.cons rfl (Shp.cons rfl (Shp.cons rfl (Shp.cons rfl (Shp.cons rfl (Shp.cons (lenB hx) Shp.nil))))))) 4 rfl rfl)) ?_
 refine Ys ?_
 obtain ⟨G38, hl39, S37, r40⟩ := S36.stillRow 0 rfl
 refine Af f.c.toNat r40 fun b41 o42 hc43 => ?_
 have hc44 := hc43 0 (.int .i64 ((Go.Au.digits (wasAt L f.a)).getD f.c.toNat 0)) (at_i (Go.Au.digits (wasAt L f.a)) f.c.toNat (by omega))
 simp only [Nat.add_zero] at hc44
 refine Ys ?_
 refine Ab (r := by exact hc44) S37 ?_
 refine Ys ?_
 refine Fl 5 ?_
 refine Ys ?_
 refine Ak (r := by exact still_cell r14 (gV_cell (ns := [1, 1, 1, 1, 1, 1, 32]) (Shp.cons rfl (Shp.cons rfl (Shp.cons rfl (Shp.cons rfl (Shp.cons rfl (Shp.cons rfl (Shp.cons (lenB hx) Shp.nil))))))) 5 rfl rfl)) ?_
 refine Ys ?_
 refine P3 (T_nil (W_ret ?_))
 refine ⟨_, ⟨_, _, rfl, rfl, rfl⟩, ?_⟩
 exact ⟨congrArg (fun z => Ending.returned (Value.bool z)) (decide_eq_true (hd.resolve_left (by omega))), S37.below⟩


theorem holdsRT_ok {H : Hp} {w : World} (hH : H.le (hw w)) {seed : List UInt8} (hs : seed.length = 16) (h : Int) {L : List (List UInt8)} {aa2 : Option Addr} {nn2 cc2 : Nat} (hL : RdL H (.slice aa2 nn2 cc2) L) {f : FgP} {a1 a2 : Option Addr} {n1 c1 n2 c2 : Nat} (hA : Rd H (.slice a1 n1 c1) n1 1 (f.A.map bV)) (hB : Rd H (.slice a2 n2 c2) n2 1 (f.B.map bV)) (hx : f.x.length = 32) (hm : 0 ≤ h ∧ h ≤ 4) (hLl : ((L.length : Nat) : Int) = ((2 ^ h.toNat : Nat) : Int)) (hLb : ∀ i, (L.getD i []).length < 1000) (hbA : f.A.length ≤ 100000) (hbB : f.B.length ≤ 100000) (hr : (0 ≤ f.a ∧ f.a < ((2 ^ h.toNat : Nat) : Int)) ∧ (0 ≤ f.c ∧ f.c < 67) ∧ 0 ≤ f.q ∧ f.q ≤ 15) (hok : f.ok) (hh : holdsF seed h L f = true) :
  Calls Tryz.prog 14 #[hV seed, .int .i64 h, .slice aa2 nn2 cc2, gV [[.slice a1 n1 c1], [.slice a2 n2 c2], [.bool f.k], [.int .i64 f.a], [.int .i64 f.c], [.int .i64 f.q], f.x.map bV]] w fun e w' => e = .returned (.bool true) ∧ Below w.heap.size w w' := by
 rcases Bool.eq_false_or_eq_true f.k with hk | hk
 case inr => exact holdsRB hH hs h hL hA hB hx hm hLl hLb hbA hbB hr hk (holdsF_b hh hk).2
 case inl =>
  have hi := holds_inv (holdsF_l hh hk).2
  have hWa : wasAt L f.a = L.getD f.a.toNat [] := wasAt_in ⟨by omega, by omega⟩
  by_cases h0 : (wasAt L f.a).length = 0
  ·exact holdsRL0 hH hs h hL hA hB hx hm hLl hLb hbA hbB hr hk (hok.1 hk).1 (hok.1 hk).2 hi.1 (by rw [hWa]; exact hi.2) h0
  ·exact holdsRL1 hH hs h hL hA hB hx hm hLl hLb hbA hbB hr hk (hok.1 hk).1 (hok.1 hk).2 hi.1 (by rw [hWa]; exact hi.2) h0
end Go.Proofs.YtfcejolipdcoaaaGreatDoor
namespace Go.Proofs.YtfcejolipdcoaaaGreatDoor
open Go Go.F Go.RowKit
open Go.Au

theorem g_aumbry_aumbryref07_Explain : goFn Tryz.prog 9 = true := by kernel_rfl
theorem lk_bd {n q : Nat} {M : List UInt8} (h : M.length < 1000) : ∀ i, (((List.replicate n ([] : List UInt8)).set q M).getD i []).length < 1000 := by
 intro i
 by_cases e : q = i
 ·subst e
  by_cases hq : q < n
  ·rw [set_get hq]; exact h
  ·rw [List.getD_eq_getElem?_getD, List.getElem?_eq_none (by simp; omega)]; exact of_decide_eq_true rfl
 ·rw [set_oth e]; exact of_decide_eq_true rfl
theorem holds_rng {seed : List UInt8} {h : Int} {L : List (List UInt8)} {f : FgP} (e : holdsF seed h L f = true) : rngF h f.a f.c f.q = true := by
 unfold holdsF at e
 exact ((Bool.and_eq_true _ _).mp e).1
theorem wakes_ok {H : Hp} {w : World} (hH : H.le (hw w)) (hT : Tabs H) :
  Calls Tryz.prog 15 #[] w fun e w' => e = .returned (.bool true) ∧ Below w.heap.size w w' := by
 refine enter0 _ Tryz.func15 rfl Tryz.ntmps15 Tryz.results15 ?_
 have S0 := St.start w hH
 refine Wr (Pv (Nr ?_))
 refine T_buildA (cells := (hV (List.replicate 16 0)).cells) rfl rfl rfl rfl rfl rfl rfl rfl rfl rfl (Cs g_aumbry_mss_Leaves ((leaves_ok S0.le hT (0 : Int) List.length_replicate (by omega)).mono ?_))
 rintro e w6 ⟨a1, c2, hc3, rfl, ho4, hB5⟩
 have S7 := S0.own hB5 ho4
 refine ⟨_, rfl, trivial, ?_⟩
 refine P2 ?_
 refine T_re (v' := .bool true) (congrArg Value.bool (decide_eq_true rfl)) (Pv (T_nil (W_ret ?_)))
 refine ⟨_, ⟨_, _, rfl, rfl, rfl⟩, ?_⟩
 exact ⟨rfl, S7.below⟩


set_option maxHeartbeats 2000000 in
theorem mssForged_t {H : Hp} {w : World} (hH : H.le (hw w)) (hT : Tabs H) (h leaf w0 b : Int) {seed : List UInt8} (hs : seed.length = 16) {m : List UInt8} {aa3 : Option Addr} {nn3 cc3 : Nat} (hv : Rd H (.slice aa3 nn3 cc3) nn3 1 (m.map bV)) {q : List UInt8} {aa4 : Option Addr} {nn4 cc4 : Nat} (hu : Rd H (.slice aa4 nn4 cc4) nn4 1 (q.map bV)) (hb2 : -9223372036854775808 ≤ b ∧ b ≤ 9223372036854775807) :
  Calls Tryz.prog 3 #[hV seed, .int .i64 h, .int .i64 leaf, .slice aa3 nn3 cc3, .slice aa4 nn4 cc4, .bool true, .int .i64 w0, .int .i64 b] w fun e w' => e = .returned (.bool true) ∧ Below w.heap.size w w' := by
 obtain rfl : nn3 = m.length := hv.lenB
 have hvcap : m.length ≤ cc3 := hv.capOf
 obtain rfl : nn4 = q.length := hu.lenB
 have hucap : q.length ≤ cc4 := hu.capOf
 have hm30 : (m.take 30).length ≤ 30 := by rw [List.length_take]; omega
 have hq30 : (q.take 30).length ≤ 30 := by rw [List.length_take]; omega
 have hp16 := pow16 (h := (h % 3)) (by omega) (by omega)
 have hp0 : 0 < (2 ^ (h % 3).toNat) := Nat.pow_pos (by omega)
 have hl1 := Int.emod_nonneg leaf (show ((2 ^ (h % 3).toNat : Nat) : Int) ≠ 0 by omega)
 have hl2 := Int.emod_lt_of_pos leaf (show 0 < ((2 ^ (h % 3).toNat : Nat) : Int) by omega)
 obtain ⟨lf, hlf⟩ : ∃ zz : Nat, leaf % ((2 ^ (h % 3).toNat : Nat) : Int) = (zz : Int) := ⟨(leaf % ((2 ^ (h % 3).toNat : Nat) : Int)).toNat, by omega⟩
 have hlf2 : lf < (2 ^ (h % 3).toNat) := by omega
 obtain ⟨M, hM⟩ : ∃ M : List UInt8, [(1 : UInt8)] ++ m.take 30 = M := ⟨_, rfl⟩
 have hMl : M.length = 1 + (m.take 30).length := by rw [← hM, List.length_append]; rfl
 obtain ⟨N, hN⟩ : ∃ N : List UInt8, [(1 : UInt8)] ++ q.take 30 = N := ⟨_, rfl⟩
 have hNl : N.length = 1 + (q.take 30).length := by rw [← hN, List.length_append]; rfl
 have hll := lg_mleaves seed (h % 3).toNat
 have hsl := sign_len seed ((lf : Nat) : Int) N 67
 have hbl := beside_len (rowP (mleaves seed (h % 3).toNat)) ((lf : Nat) : Int).toNat (lg (mleaves seed (h % 3).toNat).length)
 have ht9 : (h % 3).toNat ≤ 4 := by omega
 refine enter8 _ Tryz.func3 rfl Tryz.ntmps3 Tryz.results3 rfl ?_
 have S0 := St.start w hH
 refine Wr (Ah S0 fun b1 w2 S3 => ?_)
 refine Pv (Nr ?_)
 refine Pv ?_
 refine Cs g_aumbry_aumbrykeep_Within ((withinN_ok S3.le h (3 : Int) (by omega)).mono ?_)
 rintro e w5 ⟨rfl, hB4⟩
 have S6 := S3.call hB4
 refine ⟨_, rfl, trivial, ?_⟩
 refine Pv (Nr ?_)
 refine P3 ?_
 refine T_re (v' := .int .u64 (h % 3)) (congrArg (Value.int .u64) (by rw [IntKind.wrap_u64]; omega)) ?_
 refine T_shl rfl rfl rfl rfl rfl rfl (by omega) ?_
 refine T_re (v' := .int .i64 ((2 ^ (h % 3).toNat : Nat) : Int)) (congrArg (Value.int .i64) (shlI (by omega) (by omega))) ?_
 refine Cs g_aumbry_aumbrykeep_Within ((withinN_ok S6.le leaf ((2 ^ (h % 3).toNat : Nat) : Int) (by omega)).mono ?_)
 rintro e w8 ⟨rfl, hB7⟩
 have S9 := S6.call hB7
 refine ⟨_, rfl, trivial, ?_⟩
 refine T_re (v' := .int .i64 ((lf : Nat) : Int)) (congrArg (Value.int .i64) hlf) (Pv (Nr ?_))
 refine Ad (hone := by simp [Value.cells]; rfl) ([(1 : UInt8)].map bV) fun a10 w11 hB12 ho13 => ?_
 have S14 := S9.own hB12 ho13
 refine ⟨trivial, ?_⟩
 refine Pv ?_
 refine Cs g_aumbry_aumbrykeep_Cut_byte ((cutB_ok S14.le hv 30).mono ?_)
 rintro e w20 ⟨a15, c16, hc17, rfl, hr18, hB19⟩
 have S21 := S14.call hB19
 refine ⟨_, rfl, trivial, ?_⟩
 have hD22 : ([(1 : UInt8)] ++ (m.take 30)) = M := hM
 refine Ae (h1 := by exact one_bV _) (hn' := by rw [← hD22]; first | rfl | (simp; done) | (simp; omega) | omega) (hx' := by rw [← hD22]; simp) (h63 := by unfold maxLen; rw [← hD22]; simp only [List.length_append, List.length_cons, List.length_nil]; omega) (hbytes := by show _ * 1 ≤ _; rw [← hD22]; simp only [List.length_append, List.length_cons, List.length_nil]; omega) 0 M.length (M.map bV) S21 (hr18.mono S21.le) fun a23 c24 w25 hc26 S27 => ?_
 refine Ad (hone := by simp [Value.cells]; rfl) ([(1 : UInt8)].map bV) fun a28 w29 hB30 ho31 => ?_
 have S32 := S27.own hB30 ho31
 refine ⟨trivial, ?_⟩
 refine Pv ?_
 refine Cs g_aumbry_aumbrykeep_Cut_byte ((cutB_ok S32.le hu 30).mono ?_)
 rintro e w38 ⟨a33, c34, hc35, rfl, hr36, hB37⟩
 have S39 := S32.call hB37
 refine ⟨_, rfl, trivial, ?_⟩
 have hD40 : ([(1 : UInt8)] ++ (q.take 30)) = N := hN
 refine Ae (h1 := by exact one_bV _) (hn' := by rw [← hD40]; first | rfl | (simp; done) | (simp; omega) | omega) (hx' := by rw [← hD40]; simp) (h63 := by unfold maxLen; rw [← hD40]; simp only [List.length_append, List.length_cons, List.length_nil]; omega) (hbytes := by show _ * 1 ≤ _; rw [← hD40]; simp only [List.length_append, List.length_cons, List.length_nil]; omega) 0 N.length (N.map bV) S39 (hr36.mono S39.le) fun a41 c42 w43 hc44 S45 => ?_
 refine P2 (Nr ?_)
 refine P2 ?_
 refine T_re (v' := .int .u64 (h % 3)) (congrArg (Value.int .u64) (by rw [IntKind.wrap_u64]; omega)) ?_
 refine T_shl rfl rfl rfl rfl rfl rfl (by omega) ?_
 refine T_re (v' := .int .i64 ((2 ^ (h % 3).toNat : Nat) : Int)) (congrArg (Value.int .i64) (shlI (by omega) (by omega))) ?_
 refine T_makeS (2 ^ (h % 3).toNat) S45 (fun _ _ => trivial) rfl rfl rfl rfl rfl rfl rfl rfl rfl rfl (by omega) (by omega) (by show 24 * _ ≤ _; omega) (by unfold maxLen; omega) fun b46 w47 S48 => ?_
 have S49 := S48.toRow (size := 1) (m := (2 ^ (h % 3).toNat)) (xs := (List.replicate (2 ^ (h % 3).toNat) (Value.slice none 0 0))) 0 rfl (made_s rfl) (by rw [List.length_replicate, Nat.mul_one]) (by unfold maxLen; omega)
 have rs50 := Rds.nils H (2 ^ (h % 3).toNat)
 refine Pv (T_nil (W_seq (Wr ?_)))
 refine P2 (T_nil ?_)
 refine W_cond_false rfl (W_skip (Wr (Ai (hl := by exact hVs hs) 3 S49 ?_)))
 refine P3 ?_
 obtain ⟨G52, hl53, S51, r54⟩ := S49.stillRow 1 rfl
 refine Cs g_aumbry_aumbryref07_Sign ((mssSignR_ok S51.le (h % (3 : Int)) ((lf : Nat) : Int) hs r54 (by omega) ⟨by omega, by omega⟩ (by omega)).mono ?_)
 rintro e w62 ⟨a55, c56, a57, c58, rfl, r59, r60, hB61⟩
 obtain ⟨G64, eG66⟩ : ∃ G, G = F.ext G52 w47.heap.size w62 := ⟨_, rfl⟩
 obtain ⟨hl65, S63⟩ := S51.ext hB61
 rw [← eG66] at hl65 S63 r59 r60
 refine ⟨_, rfl, trivial, ?_⟩
 refine P2 ?_
 refine Cs g_aumbry_aumbrylaw09_spoilt ((spoilt_ok S63.le (h % (3 : Int)) ((lf : Nat) : Int) r59 r60 w0 b (by omega) (by omega) (by omega) (by omega) (by omega)).mono ?_)
 rintro e w76 ⟨a67, n68, c69, a70, n71, c72, rfl, r73, r74, hB75⟩
 obtain ⟨G78, eG80⟩ : ∃ G, G = F.ext G64 w62.heap.size w76 := ⟨_, rfl⟩
 obtain ⟨hl79, S77⟩ := S63.ext hB75
 rw [← eG80] at hl79 S77 r73 r74
 refine ⟨_, rfl, trivial, ?_⟩
 refine Ac S77 fun b81 w82 S83 => ?_
 refine Ag (hl := by first | rfl | simp [hVs, *]) (hl2 := by first | rfl | simp [hVs, *]) (h1 := by exact one_all rfl) 0 S83 fun w84 S85 => (T_nil (W_seq ?_))
 obtain ⟨G87, hl88, S86, r89⟩ := S85.stillRow 1 rfl
 have r90 := RdL.mk r89 (rs50.mono (hl53.trans (hl65.trans (hl79.trans hl88))))
 have hLb : ∀ i, ((List.replicate (2 ^ (h % 3).toNat) ([] : List UInt8)).getD i []).length < 1000 := rep_bd _
 have hLl : (((List.replicate (2 ^ (h % 3).toNat) ([] : List UInt8)).length : Nat) : Int) = ((2 ^ (h % 3).toNat : Nat) : Int) := by rw [List.length_replicate]
 have hWl : (wasAt (List.replicate (2 ^ (h % 3).toNat) ([] : List UInt8)) (spL w0 b ((lf : Nat) : Int))).length < 1000 := wasAt_lt hLb
 have hsg1 := (r73).1
 have hsg2 := (r74).1
 have hFok0 := expl_ok (seed := seed) (W := (wasAt (List.replicate (2 ^ (h % 3).toNat) ([] : List UInt8)) (spL w0 b ((lf : Nat) : Int)))) (m := N) (h := (h % 3)) (sh := (spH w0 b (h % (3 : Int)))) (sl := (spL w0 b ((lf : Nat) : Int))) (v := (spV w0 b (Go.Au.sign seed ((lf : Nat) : Int) N 67))) (p := (spP w0 b (Go.Au.beside (rowP (mleaves seed (h % (3 : Int)).toNat)) ((lf : Nat) : Int).toNat (lg (mleaves seed (h % (3 : Int)).toNat).length)))) hsg1
 have hFb0 := expl_bd (seed := seed) (W := (wasAt (List.replicate (2 ^ (h % 3).toNat) ([] : List UInt8)) (spL w0 b ((lf : Nat) : Int)))) (m := N) (h := (h % 3)) (sh := (spH w0 b (h % (3 : Int)))) (sl := (spL w0 b ((lf : Nat) : Int))) (v := (spV w0 b (Go.Au.sign seed ((lf : Nat) : Int) N 67))) (p := (spP w0 b (Go.Au.beside (rowP (mleaves seed (h % (3 : Int)).toNat)) ((lf : Nat) : Int).toNat (lg (mleaves seed (h % (3 : Int)).toNat).length)))) (by omega) hsg1 hsg2 (by omega) hWl
 obtain ⟨fo, hFo⟩ : ∃ ff, fgO (expl seed (wasAt (List.replicate (2 ^ (h % 3).toNat) ([] : List UInt8)) (spL w0 b ((lf : Nat) : Int))) N (h % 3) (spH w0 b (h % (3 : Int))) (spL w0 b ((lf : Nat) : Int)) (spV w0 b (Go.Au.sign seed ((lf : Nat) : Int) N 67)) (spP w0 b (Go.Au.beside (rowP (mleaves seed (h % (3 : Int)).toNat)) ((lf : Nat) : Int).toNat (lg (mleaves seed (h % (3 : Int)).toNat).length)))) = ff := ⟨_, rfl⟩
 obtain ⟨bo, hbo⟩ : ∃ bb, (expl seed (wasAt (List.replicate (2 ^ (h % 3).toNat) ([] : List UInt8)) (spL w0 b ((lf : Nat) : Int))) N (h % 3) (spH w0 b (h % (3 : Int))) (spL w0 b ((lf : Nat) : Int)) (spV w0 b (Go.Au.sign seed ((lf : Nat) : Int) N 67)) (spP w0 b (Go.Au.beside (rowP (mleaves seed (h % (3 : Int)).toNat)) ((lf : Nat) : Int).toNat (lg (mleaves seed (h % (3 : Int)).toNat).length)))).isSome = bb := ⟨_, rfl⟩
 rw [hFo] at hFok0 hFb0
 have hFok := hFok0
 have hFx := hFok.2
 have hFb := hFb0
 refine W_region (Ai (hl := by exact hVs hs) 2 S86 ?_)
 refine P3 ?_
 refine Ai (hl := by first | rfl | simp [hVs, *]) 0 S86 ?_
 refine Cs g_aumbry_mss_Explain ((explain_ok S86.le (hT.mono (hl53.trans (hl65.trans (hl79.trans hl88)))) (h % (3 : Int)) hs r90 (r54.mono (hl65.trans (hl79.trans hl88))) (spH w0 b (h % (3 : Int))) (spL w0 b ((lf : Nat) : Int)) (r73.mono hl88) (r74.mono hl88) (by omega) (by omega) hWl hFo hbo).mono ?_)
 rintro e w98 ⟨a91, c92, a93, c94, rfl, r95, r96, hB97⟩
 obtain ⟨G100, eG102⟩ : ∃ G, G = F.ext G87 w84.heap.size w98 := ⟨_, rfl⟩
 obtain ⟨hl101, S99⟩ := S86.ext hB97
 rw [← eG102] at hl101 S99 r95 r96
 refine ⟨_, rfl, trivial, ?_⟩
 refine P3 ?_
 refine Ac S99 fun b103 w104 S105 => ?_
 refine Ag (hl := by exact gV_size (L := [[.slice a91 fo.A.length c92], [.slice a93 fo.B.length c94], [.bool fo.k], [.int .i64 fo.a], [.int .i64 fo.c], [.int .i64 fo.q], fo.x.map bV]) (ns := [1, 1, 1, 1, 1, 1, 32]) (Shp.cons rfl (Shp.cons rfl (Shp.cons rfl (Shp.cons rfl (Shp.cons rfl (Shp.cons rfl (Shp.cons (lenB hFx) Shp.nil))))))) rfl) (hl2 := by exact gV_size (L := [[.slice a91 fo.A.length c92], [.slice a93 fo.B.length c94], [.bool fo.k], [.int .i64 fo.a], [.int .i64 fo.c], [.int .i64 fo.q], fo.x.map bV]) (ns := [1, 1, 1, 1, 1, 1, 32]) (Shp.cons rfl (Shp.cons rfl (Shp.cons rfl (Shp.cons rfl (Shp.cons rfl (Shp.cons rfl (Shp.cons (lenB hFx) Shp.nil))))))) rfl) (h1 := by exact gV_one (OneL.one rfl (OneL.one rfl (OneL.one rfl (OneL.one rfl (OneL.one rfl (OneL.one rfl (OneL.arr OneL.nil)))))))) 0 S105 fun w106 S107 => ?_
 refine Pv (Nr ?_)
 refine Ai (hl := by exact hVs hs) 3 S107 ?_
 refine P3 ?_
 refine Ai (hl := by first | rfl | simp [hVs, *]) 1 S107 ?_
 refine Cs g_aumbry_aumbryref07_Explain ((explainR_ok S107.le (h % (3 : Int)) hs (r90.mono hl101) (r54.mono (hl65.trans (hl79.trans (hl88.trans hl101)))) (spH w0 b (h % (3 : Int))) (spL w0 b ((lf : Nat) : Int)) (r73.mono (hl88.trans hl101)) (r74.mono (hl88.trans hl101)) (by omega) (by omega) hWl hFo hbo).mono ?_)
 rintro e w115 ⟨a108, c109, a110, c111, rfl, r112, r113, hB114⟩
 obtain ⟨G117, eG119⟩ : ∃ G, G = F.ext G100 w106.heap.size w115 := ⟨_, rfl⟩
 obtain ⟨hl118, S116⟩ := S107.ext hB114
 rw [← eG119] at hl118 S116 r112 r113
 refine ⟨_, rfl, trivial, ?_⟩
 refine P3 ?_
 refine Ac S116 fun b120 w121 S122 => ?_
 refine Ag (hl := by exact gV_size (L := [[.slice a108 fo.A.length c109], [.slice a110 fo.B.length c111], [.bool fo.k], [.int .i64 fo.a], [.int .i64 fo.c], [.int .i64 fo.q], fo.x.map bV]) (ns := [1, 1, 1, 1, 1, 1, 32]) (Shp.cons rfl (Shp.cons rfl (Shp.cons rfl (Shp.cons rfl (Shp.cons rfl (Shp.cons rfl (Shp.cons (lenB hFx) Shp.nil))))))) rfl) (hl2 := by exact gV_size (L := [[.slice a108 fo.A.length c109], [.slice a110 fo.B.length c111], [.bool fo.k], [.int .i64 fo.a], [.int .i64 fo.c], [.int .i64 fo.q], fo.x.map bV]) (ns := [1, 1, 1, 1, 1, 1, 32]) (Shp.cons rfl (Shp.cons rfl (Shp.cons rfl (Shp.cons rfl (Shp.cons rfl (Shp.cons rfl (Shp.cons (lenB hFx) Shp.nil))))))) rfl) (h1 := by exact gV_one (OneL.one rfl (OneL.one rfl (OneL.one rfl (OneL.one rfl (OneL.one rfl (OneL.one rfl (OneL.arr OneL.nil)))))))) 0 S122 fun w123 S124 => ?_
 refine Pv (T_nil (W_seq (Wr ?_)))
 refine P2 ?_
 refine T_bne rfl rfl rfl rfl rfl rfl rfl (Pv ?_)
 refine T_bool 79 false rfl (ndec_f (by simp)) ?_
 refine Ys ?_
 refine Fl 2 ?_
 refine Ys ?_
 refine Aj 1 2 S124 (gV_cell (ns := [1, 1, 1, 1, 1, 1, 32]) (Shp.cons rfl (Shp.cons rfl (Shp.cons rfl (Shp.cons rfl (Shp.cons rfl (Shp.cons rfl (Shp.cons (lenB hFx) Shp.nil))))))) 2 rfl rfl) ?_
 refine Ys ?_
 refine Fl 2 ?_
 refine Ys ?_
 refine Aj 0 2 S124 (gV_cell (ns := [1, 1, 1, 1, 1, 1, 32]) (Shp.cons rfl (Shp.cons rfl (Shp.cons rfl (Shp.cons rfl (Shp.cons rfl (Shp.cons rfl (Shp.cons (lenB hFx) Shp.nil))))))) 2 rfl rfl) ?_
 refine Ys ?_
 refine T_bne rfl rfl rfl rfl rfl rfl rfl (P2 ?_)
 refine T_bool 86 false rfl (ndec_f (by simp)) ?_
 refine Ys ?_
 refine Fl 3 ?_
 refine Ys ?_
 refine Aj 1 3 S124 (gV_cell (ns := [1, 1, 1, 1, 1, 1, 32]) (Shp.cons rfl (Shp.cons rfl (Shp.cons rfl (Shp.cons rfl (Shp.cons rfl (Shp.cons rfl (Shp.cons (lenB hFx) Shp.nil))))))) 3 rfl rfl) ?_
 refine Ys ?_
 refine Fl 3 ?_
 refine Ys ?_
 refine Aj 0 3 S124 (gV_cell (ns := [1, 1, 1, 1, 1, 1, 32]) (Shp.cons rfl (Shp.cons rfl (Shp.cons rfl (Shp.cons rfl (Shp.cons rfl (Shp.cons rfl (Shp.cons (lenB hFx) Shp.nil))))))) 3 rfl rfl) ?_
 refine Ys ?_
 refine P3 ?_
 refine T_bool 93 false rfl (ndec_f (by simp)) ?_
 refine Ys ?_
 refine Fl 4 ?_
 refine Ys ?_
 refine Aj 1 4 S124 (gV_cell (ns := [1, 1, 1, 1, 1, 1, 32]) (Shp.cons rfl (Shp.cons rfl (Shp.cons rfl (Shp.cons rfl (Shp.cons rfl (Shp.cons rfl (Shp.cons (lenB hFx) Shp.nil))))))) 4 rfl rfl) ?_
 refine Ys ?_
 refine Fl 4 ?_
 refine Ys ?_
 refine Aj 0 4 S124 (gV_cell (ns := [1, 1, 1, 1, 1, 1, 32]) (Shp.cons rfl (Shp.cons rfl (Shp.cons rfl (Shp.cons rfl (Shp.cons rfl (Shp.cons rfl (Shp.cons (lenB hFx) Shp.nil))))))) 4 rfl rfl) ?_
 refine Ys ?_
 refine P3 ?_
 refine T_bool 100 false rfl (ndec_f (by simp)) ?_
 refine Ys ?_
 refine Fl 5 ?_
 refine Ys ?_
 refine Aj 1 5 S124 (gV_cell (ns := [1, 1, 1, 1, 1, 1, 32]) (Shp.cons rfl (Shp.cons rfl (Shp.cons rfl (Shp.cons rfl (Shp.cons rfl (Shp.cons rfl (Shp.cons (lenB hFx) Shp.nil))))))) 5 rfl rfl) ?_
 refine Ys ?_
 refine Fl 5 ?_
 refine Ys ?_
 refine Aj 0 5 S124 (gV_cell (ns := [1, 1, 1, 1, 1, 1, 32]) (Shp.cons rfl (Shp.cons rfl (Shp.cons rfl (Shp.cons rfl (Shp.cons rfl (Shp.cons rfl (Shp.cons (lenB hFx) Shp.nil))))))) 5 rfl rfl) ?_
 refine Ys ?_
 refine P3 ?_
 refine T_bool 107 false rfl (ndec_f (by simp)) ?_
 refine Ys ?_
 refine Fl 6 ?_
 refine Ys ?_
 refine T_loadAS (hV fo.x : Value).cells 1 S124 rfl rfl rfl rfl rfl rfl rfl rfl rfl (hVs hFx) (gV_sub (ns := [1, 1, 1, 1, 1, 1, 32]) (Shp.cons rfl (Shp.cons rfl (Shp.cons rfl (Shp.cons rfl (Shp.cons rfl (Shp.cons rfl (Shp.cons (lenB hFx) Shp.nil))))))) 6 1 (c := fo.x.map bV) (flat1) rfl) (Ys ?_)
 refine Fl 6 ?_
 refine Ys ?_
 refine T_loadAS (hV fo.x : Value).cells 0 S124 rfl rfl rfl rfl rfl rfl rfl rfl rfl (hVs hFx) (gV_sub (ns := [1, 1, 1, 1, 1, 1, 32]) (Shp.cons rfl (Shp.cons rfl (Shp.cons rfl (Shp.cons rfl (Shp.cons rfl (Shp.cons rfl (Shp.cons (lenB hFx) Shp.nil))))))) 6 1 (c := fo.x.map bV) (flat1) rfl) (Ys ?_)
 refine T_neB (xs := fo.x) (ys := fo.x) rfl rfl rfl rfl rfl rfl rfl rfl rfl rfl rfl hFx hFx (P2 ?_)
 refine T_bool 114 false rfl (ndec_f (by simp)) ?_
 refine Ys ?_
 refine Fl 0 ?_
 refine Ys ?_
 refine Fl 0 ?_
 refine Ys ?_
 refine Aj 1 0 S124 (gV_cell (ns := [1, 1, 1, 1, 1, 1, 32]) (Shp.cons rfl (Shp.cons rfl (Shp.cons rfl (Shp.cons rfl (Shp.cons rfl (Shp.cons rfl (Shp.cons (lenB hFx) Shp.nil))))))) 0 rfl rfl) ?_
 refine Ys ?_
 refine Fl 0 ?_
 refine Ys ?_
 refine Fl 0 ?_
 refine Ys ?_
 refine Aj 0 0 S124 (gV_cell (ns := [1, 1, 1, 1, 1, 1, 32]) (Shp.cons rfl (Shp.cons rfl (Shp.cons rfl (Shp.cons rfl (Shp.cons rfl (Shp.cons rfl (Shp.cons (lenB hFx) Shp.nil))))))) 0 rfl rfl) ?_
 refine Ys ?_
 refine T_callS rfl rfl g_aumbry_aumbrykeep_Same_byte rfl rfl rfl rfl ((sameB_ok S124.le (r95.mono hl118) r112 (by first | omega | (simp; done) | (simp only [List.length_take, List.length_drop]; omega))).mono ?_)
 rintro e w126 ⟨rfl, hB125⟩
 have S127 := S124.call hB125
 refine ⟨_, rfl, trivial, ?_⟩
 refine Ys ?_
 refine P3 ?_
 refine T_bool 124 false rfl (ndec_f (by simp)) ?_
 refine Ys ?_
 refine Fl 0 ?_
 refine Ys ?_
 refine Fl 1 ?_
 refine Ys ?_
 refine Aj 1 1 S127 (gV_cell (ns := [1, 1, 1, 1, 1, 1, 32]) (Shp.cons rfl (Shp.cons rfl (Shp.cons rfl (Shp.cons rfl (Shp.cons rfl (Shp.cons rfl (Shp.cons (lenB hFx) Shp.nil))))))) 1 rfl rfl) ?_
 refine Ys ?_
 refine Fl 0 ?_
 refine Ys ?_
 refine Fl 1 ?_
 refine Ys ?_
 refine Aj 0 1 S127 (gV_cell (ns := [1, 1, 1, 1, 1, 1, 32]) (Shp.cons rfl (Shp.cons rfl (Shp.cons rfl (Shp.cons rfl (Shp.cons rfl (Shp.cons rfl (Shp.cons (lenB hFx) Shp.nil))))))) 1 rfl rfl) ?_
 refine Ys ?_
 refine T_callS rfl rfl g_aumbry_aumbrykeep_Same_byte rfl rfl rfl rfl ((sameB_ok S127.le (r96.mono hl118) r113 (by first | omega | (simp; done) | (simp only [List.length_take, List.length_drop]; omega))).mono ?_)
 rintro e w129 ⟨rfl, hB128⟩
 have S130 := S127.call hB128
 refine ⟨_, rfl, trivial, ?_⟩
 refine Ys ?_
 refine P2 (T_nil ?_)
 refine W_bool 133 false rfl (ndec_f (by simp)) ?_
 refine W_cond_false rfl (W_skip (Wr (Ai (hl := by exact hVs hs) 4 S130 ?_)))
 refine Pv ?_
 refine Cs g_aumbry_aumbryref07_Print ((mssPrintR_ok S130.le (h % (3 : Int)) hs (by omega)).mono ?_)
 rintro e w132 ⟨rfl, hB131⟩
 have S133 := S130.call hB131
 refine ⟨_, rfl, trivial, ?_⟩
 refine Ac S133 fun b134 w135 S136 => ?_
 refine Ag (hl := by exact hVs (mprint_len _ _)) (hl2 := by exact hVs (mprint_len _ _)) (h1 := by exact one_hA _) 0 S136 fun w137 S138 => (Nr ?_)
 refine Ai (hl := by exact hVs (mprint_len _ _)) 0 S138 ?_
 refine Pv ?_
 refine Ai (hl := by first | rfl | simp [hVs, *]) 3 S138 ?_
 refine Cs g_aumbry_aumbryref07_Verify ((verifyR_ok S138.le (mprint_len _ _) (spH w0 b (h % (3 : Int))) (spL w0 b ((lf : Nat) : Int)) (r73.mono (hl88.trans (hl101.trans hl118))) (r74.mono (hl88.trans (hl101.trans hl118))) (r54.mono (hl65.trans (hl79.trans (hl88.trans (hl101.trans hl118))))) (by omega)).mono ?_)
 rintro e w140 ⟨rfl, hB139⟩
 have S141 := S138.call hB139
 refine ⟨_, rfl, trivial, ?_⟩
 refine Pv ?_
 refine Tp 141 (fun h142' => ?_) (fun h142' => ?_)
 ·have h142 := h142'
  iterate 2 (refine Ys ?_; refine Pv ?_)
  iterate 5 refine No ?_
  iterate 2 (refine Ys ?_; refine Pv ?_)
  iterate 4 refine No ?_
  refine Ys ?_
  refine P3 (T_nil (W_seq (Wr ?_)))
  refine P2 ?_
  refine T_bne rfl rfl rfl rfl rfl rfl rfl (T_nil (W_bool 159 false rfl (ndec_f (by rw [← hbo, mst_0 (by simpa using h142) wasAt_rep])) ?_))
  refine W_cond_false rfl (W_skip (Wr (P3 ?_)))
  refine Tp 162 (fun h143' => ?_) (fun h143' => ?_)
  ·have h143 := h143'
   iterate 6 refine No ?_
   iterate 5 refine T_un rfl rfl rfl rfl rfl ?_
   refine No ?_
   refine P2 ?_
   refine Ys ?_
   refine Cs g_aumbry_aumbrylaw09_wakes ((wakes_ok S141.le (hT.mono (hl53.trans (hl65.trans (hl79.trans (hl88.trans (hl101.trans hl118))))))).mono ?_)
   rintro e w145 ⟨rfl, hB144⟩
   have S146 := S141.call hB144
   refine ⟨_, rfl, trivial, ?_⟩
   refine P2 (T_nil (W_ret ?_))
   refine ⟨_, ⟨_, _, rfl, rfl, rfl⟩, ?_⟩
   exact ⟨rfl, S146.below⟩
  have h143 := h143'
  refine Ys ?_
  have hhF := expl_holds (seed := seed) (m := N) (h := (h % 3)) (sh := (spH w0 b (h % (3 : Int)))) (sl := (spL w0 b ((lf : Nat) : Int))) (v := (spV w0 b (Go.Au.sign seed ((lf : Nat) : Int) N 67))) (p := (spP w0 b (Go.Au.beside (rowP (mleaves seed (h % (3 : Int)).toNat)) ((lf : Nat) : Int).toNat (lg (mleaves seed (h % (3 : Int)).toNat).length)))) (L := (List.replicate (2 ^ (h % 3).toNat) ([] : List UInt8))) hLl (by omega) hsg2 (by rw [hbo]; simpa using h143)
  rw [hFo] at hhF
  have hrg := holds_rng hhF
  refine Ai (hl := by exact hVs hs) 5 S141 ?_
  iterate 2 (refine Ys ?_; refine Pv ?_)
  refine Ys ?_
  refine Ai (hl := by exact gV_size (L := [[.slice a91 fo.A.length c92], [.slice a93 fo.B.length c94], [.bool fo.k], [.int .i64 fo.a], [.int .i64 fo.c], [.int .i64 fo.q], fo.x.map bV]) (ns := [1, 1, 1, 1, 1, 1, 32]) (Shp.cons rfl (Shp.cons rfl (Shp.cons rfl (Shp.cons rfl (Shp.cons rfl (Shp.cons rfl (Shp.cons (lenB hFx) Shp.nil))))))) rfl) 2 S141 ?_
  refine Ys ?_
  refine Cs g_aumbry_mss_Holds ((holdsT_ok S141.le (hT.mono (hl53.trans (hl65.trans (hl79.trans (hl88.trans (hl101.trans hl118)))))) hs (h % (3 : Int)) (r90.mono (hl101.trans hl118)) (r95.mono hl118) (r96.mono hl118) hFx (by omega) hLl hLb hFb.1 hFb.2 (rngF_of hrg) hFok hhF).mono ?_)
  rintro e w148 ⟨rfl, hB147⟩
  have S149 := S141.call hB147
  refine ⟨_, rfl, trivial, ?_⟩
  refine Ys ?_
  refine Pv ?_
  refine Ys ?_
  refine Ai (hl := by exact hVs hs) 5 S149 ?_
  iterate 2 (refine Ys ?_; refine Pv ?_)
  refine Ys ?_
  refine Ai (hl := by exact gV_size (L := [[.slice a108 fo.A.length c109], [.slice a110 fo.B.length c111], [.bool fo.k], [.int .i64 fo.a], [.int .i64 fo.c], [.int .i64 fo.q], fo.x.map bV]) (ns := [1, 1, 1, 1, 1, 1, 32]) (Shp.cons rfl (Shp.cons rfl (Shp.cons rfl (Shp.cons rfl (Shp.cons rfl (Shp.cons rfl (Shp.cons (lenB hFx) Shp.nil))))))) rfl) 1 S149 ?_
  refine Ys ?_
  refine Cs g_aumbry_aumbryref07_Holds ((holdsRT_ok S149.le hs (h % (3 : Int)) (r90.mono (hl101.trans hl118)) r112 r113 hFx (by omega) hLl hLb hFb.1 hFb.2 (rngF_of hrg) hFok hhF).mono ?_)
  rintro e w151 ⟨rfl, hB150⟩
  have S152 := S149.call hB150
  refine ⟨_, rfl, trivial, ?_⟩
  refine Ys ?_
  refine P3 ?_
  refine Ys ?_
  refine Cs g_aumbry_aumbrylaw09_wakes ((wakes_ok S152.le (hT.mono (hl53.trans (hl65.trans (hl79.trans (hl88.trans (hl101.trans hl118))))))).mono ?_)
  rintro e w154 ⟨rfl, hB153⟩
  have S155 := S152.call hB153
  refine ⟨_, rfl, trivial, ?_⟩
  refine P2 (T_nil (W_ret ?_))
  refine ⟨_, ⟨_, _, rfl, rfl, rfl⟩, ?_⟩
  exact ⟨rfl, S155.below⟩
 have h142 := h142'
 iterate 2 refine No ?_
 iterate 5 refine T_un rfl rfl rfl rfl rfl ?_
 iterate 2 refine No ?_
 iterate 4 refine T_un rfl rfl rfl rfl rfl ?_
 refine No ?_
 refine P2 (T_nil (W_seq (Wr ?_)))
 refine P2 ?_
 refine T_bne rfl rfl rfl rfl rfl rfl rfl (T_nil (W_bool 159 false rfl (ndec_f (by rw [← hbo, mst_v (by simpa using h142)])) ?_))
 refine W_cond_false rfl (W_skip (Wr (P3 ?_)))
 refine Tp 162 (fun h156' => ?_) (fun h156' => ?_)
 ·have h156 := h156'
  iterate 6 refine No ?_
  iterate 5 refine T_un rfl rfl rfl rfl rfl ?_
  refine No ?_
  refine P2 ?_
  refine Ys ?_
  refine Cs g_aumbry_aumbrylaw09_wakes ((wakes_ok S141.le (hT.mono (hl53.trans (hl65.trans (hl79.trans (hl88.trans (hl101.trans hl118))))))).mono ?_)
  rintro e w158 ⟨rfl, hB157⟩
  have S159 := S141.call hB157
  refine ⟨_, rfl, trivial, ?_⟩
  refine P2 (T_nil (W_ret ?_))
  refine ⟨_, ⟨_, _, rfl, rfl, rfl⟩, ?_⟩
  exact ⟨rfl, S159.below⟩
 have h156 := h156'
 refine Ys ?_
 have hhF := expl_holds (seed := seed) (m := N) (h := (h % 3)) (sh := (spH w0 b (h % (3 : Int)))) (sl := (spL w0 b ((lf : Nat) : Int))) (v := (spV w0 b (Go.Au.sign seed ((lf : Nat) : Int) N 67))) (p := (spP w0 b (Go.Au.beside (rowP (mleaves seed (h % (3 : Int)).toNat)) ((lf : Nat) : Int).toNat (lg (mleaves seed (h % (3 : Int)).toNat).length)))) (L := (List.replicate (2 ^ (h % 3).toNat) ([] : List UInt8))) hLl (by omega) hsg2 (by rw [hbo]; simpa using h156)
 rw [hFo] at hhF
 have hrg := holds_rng hhF
 refine Ai (hl := by exact hVs hs) 5 S141 ?_
 iterate 2 (refine Ys ?_; refine Pv ?_)
 refine Ys ?_
 refine Ai (hl := by exact gV_size (L := [[.slice a91 fo.A.length c92], [.slice a93 fo.B.length c94], [.bool fo.k], [.int .i64 fo.a], [.int .i64 fo.c], [.int .i64 fo.q], fo.x.map bV]) (ns := [1, 1, 1, 1, 1, 1, 32]) (Shp.cons rfl (Shp.cons rfl (Shp.cons rfl (Shp.cons rfl (Shp.cons rfl (Shp.cons rfl (Shp.cons (lenB hFx) Shp.nil))))))) rfl) 2 S141 ?_
 refine Ys ?_
 refine Cs g_aumbry_mss_Holds ((holdsT_ok S141.le (hT.mono (hl53.trans (hl65.trans (hl79.trans (hl88.trans (hl101.trans hl118)))))) hs (h % (3 : Int)) (r90.mono (hl101.trans hl118)) (r95.mono hl118) (r96.mono hl118) hFx (by omega) hLl hLb hFb.1 hFb.2 (rngF_of hrg) hFok hhF).mono ?_)
 rintro e w161 ⟨rfl, hB160⟩
 have S162 := S141.call hB160
 refine ⟨_, rfl, trivial, ?_⟩
 refine Ys ?_
 refine Pv ?_
 refine Ys ?_
 refine Ai (hl := by exact hVs hs) 5 S162 ?_
 iterate 2 (refine Ys ?_; refine Pv ?_)
 refine Ys ?_
 refine Ai (hl := by exact gV_size (L := [[.slice a108 fo.A.length c109], [.slice a110 fo.B.length c111], [.bool fo.k], [.int .i64 fo.a], [.int .i64 fo.c], [.int .i64 fo.q], fo.x.map bV]) (ns := [1, 1, 1, 1, 1, 1, 32]) (Shp.cons rfl (Shp.cons rfl (Shp.cons rfl (Shp.cons rfl (Shp.cons rfl (Shp.cons rfl (Shp.cons (lenB hFx) Shp.nil))))))) rfl) 1 S162 ?_
 refine Ys ?_
 refine Cs g_aumbry_aumbryref07_Holds ((holdsRT_ok S162.le hs (h % (3 : Int)) (r90.mono (hl101.trans hl118)) r112 r113 hFx (by omega) hLl hLb hFb.1 hFb.2 (rngF_of hrg) hFok hhF).mono ?_)
 rintro e w164 ⟨rfl, hB163⟩
 have S165 := S162.call hB163
 refine ⟨_, rfl, trivial, ?_⟩
 refine Ys ?_
 refine P3 ?_
 refine Ys ?_
 refine Cs g_aumbry_aumbrylaw09_wakes ((wakes_ok S165.le (hT.mono (hl53.trans (hl65.trans (hl79.trans (hl88.trans (hl101.trans hl118))))))).mono ?_)
 rintro e w167 ⟨rfl, hB166⟩
 have S168 := S165.call hB166
 refine ⟨_, rfl, trivial, ?_⟩
 refine P2 (T_nil (W_ret ?_))
 refine ⟨_, ⟨_, _, rfl, rfl, rfl⟩, ?_⟩
 exact ⟨rfl, S168.below⟩


set_option maxHeartbeats 2000000 in
theorem mssForged_f {H : Hp} {w : World} (hH : H.le (hw w)) (hT : Tabs H) (h leaf w0 b : Int) {seed : List UInt8} (hs : seed.length = 16) {m : List UInt8} {aa3 : Option Addr} {nn3 cc3 : Nat} (hv : Rd H (.slice aa3 nn3 cc3) nn3 1 (m.map bV)) {q : List UInt8} {aa4 : Option Addr} {nn4 cc4 : Nat} (hu : Rd H (.slice aa4 nn4 cc4) nn4 1 (q.map bV)) (hb2 : -9223372036854775808 ≤ b ∧ b ≤ 9223372036854775807) :
  Calls Tryz.prog 3 #[hV seed, .int .i64 h, .int .i64 leaf, .slice aa3 nn3 cc3, .slice aa4 nn4 cc4, .bool false, .int .i64 w0, .int .i64 b] w fun e w' => e = .returned (.bool true) ∧ Below w.heap.size w w' := by
 obtain rfl : nn3 = m.length := hv.lenB
 have hvcap : m.length ≤ cc3 := hv.capOf
 obtain rfl : nn4 = q.length := hu.lenB
 have hucap : q.length ≤ cc4 := hu.capOf
 have hm30 : (m.take 30).length ≤ 30 := by rw [List.length_take]; omega
 have hq30 : (q.take 30).length ≤ 30 := by rw [List.length_take]; omega
 have hp16 := pow16 (h := (h % 3)) (by omega) (by omega)
 have hp0 : 0 < (2 ^ (h % 3).toNat) := Nat.pow_pos (by omega)
 have hl1 := Int.emod_nonneg leaf (show ((2 ^ (h % 3).toNat : Nat) : Int) ≠ 0 by omega)
 have hl2 := Int.emod_lt_of_pos leaf (show 0 < ((2 ^ (h % 3).toNat : Nat) : Int) by omega)
 obtain ⟨lf, hlf⟩ : ∃ zz : Nat, leaf % ((2 ^ (h % 3).toNat : Nat) : Int) = (zz : Int) := ⟨(leaf % ((2 ^ (h % 3).toNat : Nat) : Int)).toNat, by omega⟩
 have hlf2 : lf < (2 ^ (h % 3).toNat) := by omega
 obtain ⟨M, hM⟩ : ∃ M : List UInt8, [(1 : UInt8)] ++ m.take 30 = M := ⟨_, rfl⟩
 have hMl : M.length = 1 + (m.take 30).length := by rw [← hM, List.length_append]; rfl
 obtain ⟨N, hN⟩ : ∃ N : List UInt8, [(1 : UInt8)] ++ q.take 30 = N := ⟨_, rfl⟩
 have hNl : N.length = 1 + (q.take 30).length := by rw [← hN, List.length_append]; rfl
 have hll := lg_mleaves seed (h % 3).toNat
 have hsl := sign_len seed ((lf : Nat) : Int) N 67
 have hbl := beside_len (rowP (mleaves seed (h % 3).toNat)) ((lf : Nat) : Int).toNat (lg (mleaves seed (h % 3).toNat).length)
 have ht9 : (h % 3).toNat ≤ 4 := by omega
 refine enter8 _ Tryz.func3 rfl Tryz.ntmps3 Tryz.results3 rfl ?_
 have S0 := St.start w hH
 refine Wr (Ah S0 fun b1 w2 S3 => ?_)
 refine Pv (Nr ?_)
 refine Pv ?_
 refine Cs g_aumbry_aumbrykeep_Within ((withinN_ok S3.le h (3 : Int) (by omega)).mono ?_)
 rintro e w5 ⟨rfl, hB4⟩
 have S6 := S3.call hB4
 refine ⟨_, rfl, trivial, ?_⟩
 refine Pv (Nr ?_)
 refine P3 ?_
 refine T_re (v' := .int .u64 (h % 3)) (congrArg (Value.int .u64) (by rw [IntKind.wrap_u64]; omega)) ?_
 refine T_shl rfl rfl rfl rfl rfl rfl (by omega) ?_
 refine T_re (v' := .int .i64 ((2 ^ (h % 3).toNat : Nat) : Int)) (congrArg (Value.int .i64) (shlI (by omega) (by omega))) ?_
 refine Cs g_aumbry_aumbrykeep_Within ((withinN_ok S6.le leaf ((2 ^ (h % 3).toNat : Nat) : Int) (by omega)).mono ?_)
 rintro e w8 ⟨rfl, hB7⟩
 have S9 := S6.call hB7
 refine ⟨_, rfl, trivial, ?_⟩
 refine T_re (v' := .int .i64 ((lf : Nat) : Int)) (congrArg (Value.int .i64) hlf) (Pv (Nr ?_))
 refine Ad (hone := by simp [Value.cells]; rfl) ([(1 : UInt8)].map bV) fun a10 w11 hB12 ho13 => ?_
 have S14 := S9.own hB12 ho13
 refine ⟨trivial, ?_⟩
 refine Pv ?_
 refine Cs g_aumbry_aumbrykeep_Cut_byte ((cutB_ok S14.le hv 30).mono ?_)
 rintro e w20 ⟨a15, c16, hc17, rfl, hr18, hB19⟩
 have S21 := S14.call hB19
 refine ⟨_, rfl, trivial, ?_⟩
 have hD22 : ([(1 : UInt8)] ++ (m.take 30)) = M := hM
 refine Ae (h1 := by exact one_bV _) (hn' := by rw [← hD22]; first | rfl | (simp; done) | (simp; omega) | omega) (hx' := by rw [← hD22]; simp) (h63 := by unfold maxLen; rw [← hD22]; simp only [List.length_append, List.length_cons, List.length_nil]; omega) (hbytes := by show _ * 1 ≤ _; rw [← hD22]; simp only [List.length_append, List.length_cons, List.length_nil]; omega) 0 M.length (M.map bV) S21 (hr18.mono S21.le) fun a23 c24 w25 hc26 S27 => ?_
 refine Ad (hone := by simp [Value.cells]; rfl) ([(1 : UInt8)].map bV) fun a28 w29 hB30 ho31 => ?_
 have S32 := S27.own hB30 ho31
 refine ⟨trivial, ?_⟩
 refine Pv ?_
 refine Cs g_aumbry_aumbrykeep_Cut_byte ((cutB_ok S32.le hu 30).mono ?_)
 rintro e w38 ⟨a33, c34, hc35, rfl, hr36, hB37⟩
 have S39 := S32.call hB37
 refine ⟨_, rfl, trivial, ?_⟩
 have hD40 : ([(1 : UInt8)] ++ (q.take 30)) = N := hN
 refine Ae (h1 := by exact one_bV _) (hn' := by rw [← hD40]; first | rfl | (simp; done) | (simp; omega) | omega) (hx' := by rw [← hD40]; simp) (h63 := by unfold maxLen; rw [← hD40]; simp only [List.length_append, List.length_cons, List.length_nil]; omega) (hbytes := by show _ * 1 ≤ _; rw [← hD40]; simp only [List.length_append, List.length_cons, List.length_nil]; omega) 0 N.length (N.map bV) S39 (hr36.mono S39.le) fun a41 c42 w43 hc44 S45 => ?_
 refine P2 (Nr ?_)
 refine P2 ?_
 refine T_re (v' := .int .u64 (h % 3)) (congrArg (Value.int .u64) (by rw [IntKind.wrap_u64]; omega)) ?_
 refine T_shl rfl rfl rfl rfl rfl rfl (by omega) ?_
 refine T_re (v' := .int .i64 ((2 ^ (h % 3).toNat : Nat) : Int)) (congrArg (Value.int .i64) (shlI (by omega) (by omega))) ?_
 refine T_makeS (2 ^ (h % 3).toNat) S45 (fun _ _ => trivial) rfl rfl rfl rfl rfl rfl rfl rfl rfl rfl (by omega) (by omega) (by show 24 * _ ≤ _; omega) (by unfold maxLen; omega) fun b46 w47 S48 => ?_
 have S49 := S48.toRow (size := 1) (m := (2 ^ (h % 3).toNat)) (xs := (List.replicate (2 ^ (h % 3).toNat) (Value.slice none 0 0))) 0 rfl (made_s rfl) (by rw [List.length_replicate, Nat.mul_one]) (by unfold maxLen; omega)
 have rs50 := Rds.nils H (2 ^ (h % 3).toNat)
 refine Pv (T_nil (W_seq (Wr ?_)))
 refine P2 (T_nil ?_)
 refine W_cond_true rfl (W_region (P3 ?_))
 refine T_idxm (lf * 1) rfl rfl rfl rfl rfl rfl rfl rfl (by omega) (by show 0 + Int.toNat _ * 1 = _; omega) ?_
 obtain ⟨G54, hl55, S53, r56⟩ := S49.stillRow 2 rfl
 refine T_storeRow 0 ((List.replicate (2 ^ (h % 3).toNat) (Value.slice none 0 0)).set lf (.slice a23 M.length c24)) S53 (fun _ _ => trivial) rfl rfl rfl rfl rfl rfl rfl rfl rfl (by show _ + 1 ≤ _ * 1; omega) (one_all rfl) (set_cells (by simp; omega) rfl) fun w51 S52 => ?_
 have rs57 := Rds.set (rs50.mono hl55) lf (Rd.canonB r56)
 refine Nr (Ai (hl := by exact hVs hs) 2 S52 ?_)
 refine P3 ?_
 obtain ⟨G59, hl60, S58, r61⟩ := S52.stillRow 1 rfl
 refine Cs g_aumbry_aumbryref07_Sign ((mssSignR_ok S58.le (h % (3 : Int)) ((lf : Nat) : Int) hs r61 (by omega) ⟨by omega, by omega⟩ (by omega)).mono ?_)
 rintro e w69 ⟨a62, c63, a64, c65, rfl, r66, r67, hB68⟩
 obtain ⟨G71, eG73⟩ : ∃ G, G = F.ext G59 w51.heap.size w69 := ⟨_, rfl⟩
 obtain ⟨hl72, S70⟩ := S58.ext hB68
 rw [← eG73] at hl72 S70 r66 r67
 refine ⟨_, rfl, trivial, ?_⟩
 refine P2 ?_
 refine Cs g_aumbry_aumbrylaw09_spoilt ((spoilt_ok S70.le (h % (3 : Int)) ((lf : Nat) : Int) r66 r67 w0 b (by omega) (by omega) (by omega) (by omega) (by omega)).mono ?_)
 rintro e w83 ⟨a74, n75, c76, a77, n78, c79, rfl, r80, r81, hB82⟩
 obtain ⟨G85, eG87⟩ : ∃ G, G = F.ext G71 w69.heap.size w83 := ⟨_, rfl⟩
 obtain ⟨hl86, S84⟩ := S70.ext hB82
 rw [← eG87] at hl86 S84 r80 r81
 refine ⟨_, rfl, trivial, ?_⟩
 refine Ac S84 fun b88 w89 S90 => ?_
 refine Ag (hl := by first | rfl | simp [hVs, *]) (hl2 := by first | rfl | simp [hVs, *]) (h1 := by exact one_all rfl) 0 S90 fun w91 S92 => (T_nil (W_seq ?_))
 obtain ⟨G94, hl95, S93, r96⟩ := S92.stillRow 1 rfl
 have r97 := RdL.mk r96 (rs57.mono (hl60.trans (hl72.trans (hl86.trans hl95))))
 have hLb : ∀ i, (((List.replicate (2 ^ (h % 3).toNat) ([] : List UInt8)).set lf M).getD i []).length < 1000 := lk_bd (by omega)
 have hLl : ((((List.replicate (2 ^ (h % 3).toNat) ([] : List UInt8)).set lf M).length : Nat) : Int) = ((2 ^ (h % 3).toNat : Nat) : Int) := by rw [List.length_set]; rw [List.length_replicate]
 have hWl : (wasAt ((List.replicate (2 ^ (h % 3).toNat) ([] : List UInt8)).set lf M) (spL w0 b ((lf : Nat) : Int))).length < 1000 := wasAt_lt hLb
 have hsg1 := (r80).1
 have hsg2 := (r81).1
 have hFok0 := expl_ok (seed := seed) (W := (wasAt ((List.replicate (2 ^ (h % 3).toNat) ([] : List UInt8)).set lf M) (spL w0 b ((lf : Nat) : Int)))) (m := N) (h := (h % 3)) (sh := (spH w0 b (h % (3 : Int)))) (sl := (spL w0 b ((lf : Nat) : Int))) (v := (spV w0 b (Go.Au.sign seed ((lf : Nat) : Int) N 67))) (p := (spP w0 b (Go.Au.beside (rowP (mleaves seed (h % (3 : Int)).toNat)) ((lf : Nat) : Int).toNat (lg (mleaves seed (h % (3 : Int)).toNat).length)))) hsg1
 have hFb0 := expl_bd (seed := seed) (W := (wasAt ((List.replicate (2 ^ (h % 3).toNat) ([] : List UInt8)).set lf M) (spL w0 b ((lf : Nat) : Int)))) (m := N) (h := (h % 3)) (sh := (spH w0 b (h % (3 : Int)))) (sl := (spL w0 b ((lf : Nat) : Int))) (v := (spV w0 b (Go.Au.sign seed ((lf : Nat) : Int) N 67))) (p := (spP w0 b (Go.Au.beside (rowP (mleaves seed (h % (3 : Int)).toNat)) ((lf : Nat) : Int).toNat (lg (mleaves seed (h % (3 : Int)).toNat).length)))) (by omega) hsg1 hsg2 (by omega) hWl
 obtain ⟨fo, hFo⟩ : ∃ ff, fgO (expl seed (wasAt ((List.replicate (2 ^ (h % 3).toNat) ([] : List UInt8)).set lf M) (spL w0 b ((lf : Nat) : Int))) N (h % 3) (spH w0 b (h % (3 : Int))) (spL w0 b ((lf : Nat) : Int)) (spV w0 b (Go.Au.sign seed ((lf : Nat) : Int) N 67)) (spP w0 b (Go.Au.beside (rowP (mleaves seed (h % (3 : Int)).toNat)) ((lf : Nat) : Int).toNat (lg (mleaves seed (h % (3 : Int)).toNat).length)))) = ff := ⟨_, rfl⟩
 obtain ⟨bo, hbo⟩ : ∃ bb, (expl seed (wasAt ((List.replicate (2 ^ (h % 3).toNat) ([] : List UInt8)).set lf M) (spL w0 b ((lf : Nat) : Int))) N (h % 3) (spH w0 b (h % (3 : Int))) (spL w0 b ((lf : Nat) : Int)) (spV w0 b (Go.Au.sign seed ((lf : Nat) : Int) N 67)) (spP w0 b (Go.Au.beside (rowP (mleaves seed (h % (3 : Int)).toNat)) ((lf : Nat) : Int).toNat (lg (mleaves seed (h % (3 : Int)).toNat).length)))).isSome = bb := ⟨_, rfl⟩
 rw [hFo] at hFok0 hFb0
 have hFok := hFok0
 have hFx := hFok.2
 have hFb := hFb0
 refine W_region (Ai (hl := by exact hVs hs) 1 S93 ?_)
 refine P3 ?_
 refine Ai (hl := by first | rfl | simp [hVs, *]) 0 S93 ?_
 refine Cs g_aumbry_mss_Explain ((explain_ok S93.le (hT.mono (hl55.trans (hl60.trans (hl72.trans (hl86.trans hl95))))) (h % (3 : Int)) hs r97 (r61.mono (hl72.trans (hl86.trans hl95))) (spH w0 b (h % (3 : Int))) (spL w0 b ((lf : Nat) : Int)) (r80.mono hl95) (r81.mono hl95) (by omega) (by omega) hWl hFo hbo).mono ?_)
 rintro e w105 ⟨a98, c99, a100, c101, rfl, r102, r103, hB104⟩
 obtain ⟨G107, eG109⟩ : ∃ G, G = F.ext G94 w91.heap.size w105 := ⟨_, rfl⟩
 obtain ⟨hl108, S106⟩ := S93.ext hB104
 rw [← eG109] at hl108 S106 r102 r103
 refine ⟨_, rfl, trivial, ?_⟩
 refine P3 ?_
 refine Ac S106 fun b110 w111 S112 => ?_
 refine Ag (hl := by exact gV_size (L := [[.slice a98 fo.A.length c99], [.slice a100 fo.B.length c101], [.bool fo.k], [.int .i64 fo.a], [.int .i64 fo.c], [.int .i64 fo.q], fo.x.map bV]) (ns := [1, 1, 1, 1, 1, 1, 32]) (Shp.cons rfl (Shp.cons rfl (Shp.cons rfl (Shp.cons rfl (Shp.cons rfl (Shp.cons rfl (Shp.cons (lenB hFx) Shp.nil))))))) rfl) (hl2 := by exact gV_size (L := [[.slice a98 fo.A.length c99], [.slice a100 fo.B.length c101], [.bool fo.k], [.int .i64 fo.a], [.int .i64 fo.c], [.int .i64 fo.q], fo.x.map bV]) (ns := [1, 1, 1, 1, 1, 1, 32]) (Shp.cons rfl (Shp.cons rfl (Shp.cons rfl (Shp.cons rfl (Shp.cons rfl (Shp.cons rfl (Shp.cons (lenB hFx) Shp.nil))))))) rfl) (h1 := by exact gV_one (OneL.one rfl (OneL.one rfl (OneL.one rfl (OneL.one rfl (OneL.one rfl (OneL.one rfl (OneL.arr OneL.nil)))))))) 0 S112 fun w113 S114 => ?_
 refine Pv (Nr ?_)
 refine Ai (hl := by exact hVs hs) 2 S114 ?_
 refine P3 ?_
 refine Ai (hl := by first | rfl | simp [hVs, *]) 1 S114 ?_
 refine Cs g_aumbry_aumbryref07_Explain ((explainR_ok S114.le (h % (3 : Int)) hs (r97.mono hl108) (r61.mono (hl72.trans (hl86.trans (hl95.trans hl108)))) (spH w0 b (h % (3 : Int))) (spL w0 b ((lf : Nat) : Int)) (r80.mono (hl95.trans hl108)) (r81.mono (hl95.trans hl108)) (by omega) (by omega) hWl hFo hbo).mono ?_)
 rintro e w122 ⟨a115, c116, a117, c118, rfl, r119, r120, hB121⟩
 obtain ⟨G124, eG126⟩ : ∃ G, G = F.ext G107 w113.heap.size w122 := ⟨_, rfl⟩
 obtain ⟨hl125, S123⟩ := S114.ext hB121
 rw [← eG126] at hl125 S123 r119 r120
 refine ⟨_, rfl, trivial, ?_⟩
 refine P3 ?_
 refine Ac S123 fun b127 w128 S129 => ?_
 refine Ag (hl := by exact gV_size (L := [[.slice a115 fo.A.length c116], [.slice a117 fo.B.length c118], [.bool fo.k], [.int .i64 fo.a], [.int .i64 fo.c], [.int .i64 fo.q], fo.x.map bV]) (ns := [1, 1, 1, 1, 1, 1, 32]) (Shp.cons rfl (Shp.cons rfl (Shp.cons rfl (Shp.cons rfl (Shp.cons rfl (Shp.cons rfl (Shp.cons (lenB hFx) Shp.nil))))))) rfl) (hl2 := by exact gV_size (L := [[.slice a115 fo.A.length c116], [.slice a117 fo.B.length c118], [.bool fo.k], [.int .i64 fo.a], [.int .i64 fo.c], [.int .i64 fo.q], fo.x.map bV]) (ns := [1, 1, 1, 1, 1, 1, 32]) (Shp.cons rfl (Shp.cons rfl (Shp.cons rfl (Shp.cons rfl (Shp.cons rfl (Shp.cons rfl (Shp.cons (lenB hFx) Shp.nil))))))) rfl) (h1 := by exact gV_one (OneL.one rfl (OneL.one rfl (OneL.one rfl (OneL.one rfl (OneL.one rfl (OneL.one rfl (OneL.arr OneL.nil)))))))) 0 S129 fun w130 S131 => ?_
 refine Pv (T_nil (W_seq (Wr ?_)))
 refine P2 ?_
 refine T_bne rfl rfl rfl rfl rfl rfl rfl (Pv ?_)
 refine T_bool 79 false rfl (ndec_f (by simp)) ?_
 refine Ys ?_
 refine Fl 2 ?_
 refine Ys ?_
 refine Aj 1 2 S131 (gV_cell (ns := [1, 1, 1, 1, 1, 1, 32]) (Shp.cons rfl (Shp.cons rfl (Shp.cons rfl (Shp.cons rfl (Shp.cons rfl (Shp.cons rfl (Shp.cons (lenB hFx) Shp.nil))))))) 2 rfl rfl) ?_
 refine Ys ?_
 refine Fl 2 ?_
 refine Ys ?_
 refine Aj 0 2 S131 (gV_cell (ns := [1, 1, 1, 1, 1, 1, 32]) (Shp.cons rfl (Shp.cons rfl (Shp.cons rfl (Shp.cons rfl (Shp.cons rfl (Shp.cons rfl (Shp.cons (lenB hFx) Shp.nil))))))) 2 rfl rfl) ?_
 refine Ys ?_
 refine T_bne rfl rfl rfl rfl rfl rfl rfl (P2 ?_)
 refine T_bool 86 false rfl (ndec_f (by simp)) ?_
 refine Ys ?_
 refine Fl 3 ?_
 refine Ys ?_
 refine Aj 1 3 S131 (gV_cell (ns := [1, 1, 1, 1, 1, 1, 32]) (Shp.cons rfl (Shp.cons rfl (Shp.cons rfl (Shp.cons rfl (Shp.cons rfl (Shp.cons rfl (Shp.cons (lenB hFx) Shp.nil))))))) 3 rfl rfl) ?_
 refine Ys ?_
 refine Fl 3 ?_
 refine Ys ?_
 refine Aj 0 3 S131 (gV_cell (ns := [1, 1, 1, 1, 1, 1, 32]) (Shp.cons rfl (Shp.cons rfl (Shp.cons rfl (Shp.cons rfl (Shp.cons rfl (Shp.cons rfl (Shp.cons (lenB hFx) Shp.nil))))))) 3 rfl rfl) ?_
 refine Ys ?_
 refine P3 ?_
 refine T_bool 93 false rfl (ndec_f (by simp)) ?_
 refine Ys ?_
 refine Fl 4 ?_
 refine Ys ?_
 refine Aj 1 4 S131 (gV_cell (ns := [1, 1, 1, 1, 1, 1, 32]) (Shp.cons rfl (Shp.cons rfl (Shp.cons rfl (Shp.cons rfl (Shp.cons rfl (Shp.cons rfl (Shp.cons (lenB hFx) Shp.nil))))))) 4 rfl rfl) ?_
 refine Ys ?_
 refine Fl 4 ?_
 refine Ys ?_
 refine Aj 0 4 S131 (gV_cell (ns := [1, 1, 1, 1, 1, 1, 32]) (Shp.cons rfl (Shp.cons rfl (Shp.cons rfl (Shp.cons rfl (Shp.cons rfl (Shp.cons rfl (Shp.cons (lenB hFx) Shp.nil))))))) 4 rfl rfl) ?_
 refine Ys ?_
 refine P3 ?_
 refine T_bool 100 false rfl (ndec_f (by simp)) ?_
 refine Ys ?_
 refine Fl 5 ?_
 refine Ys ?_
 refine Aj 1 5 S131 (gV_cell (ns := [1, 1, 1, 1, 1, 1, 32]) (Shp.cons rfl (Shp.cons rfl (Shp.cons rfl (Shp.cons rfl (Shp.cons rfl (Shp.cons rfl (Shp.cons (lenB hFx) Shp.nil))))))) 5 rfl rfl) ?_
 refine Ys ?_
 refine Fl 5 ?_
 refine Ys ?_
 refine Aj 0 5 S131 (gV_cell (ns := [1, 1, 1, 1, 1, 1, 32]) (Shp.cons rfl (Shp.cons rfl (Shp.cons rfl (Shp.cons rfl (Shp.cons rfl (Shp.cons rfl (Shp.cons (lenB hFx) Shp.nil))))))) 5 rfl rfl) ?_
 refine Ys ?_
 refine P3 ?_
 refine T_bool 107 false rfl (ndec_f (by simp)) ?_
 refine Ys ?_
 refine Fl 6 ?_
 refine Ys ?_
 refine T_loadAS (hV fo.x : Value).cells 1 S131 rfl rfl rfl rfl rfl rfl rfl rfl rfl (hVs hFx) (gV_sub (ns := [1, 1, 1, 1, 1, 1, 32]) (Shp.cons rfl (Shp.cons rfl (Shp.cons rfl (Shp.cons rfl (Shp.cons rfl (Shp.cons rfl (Shp.cons (lenB hFx) Shp.nil))))))) 6 1 (c := fo.x.map bV) (flat1) rfl) (Ys ?_)
 refine Fl 6 ?_
 refine Ys ?_
 refine T_loadAS (hV fo.x : Value).cells 0 S131 rfl rfl rfl rfl rfl rfl rfl rfl rfl (hVs hFx) (gV_sub (ns := [1, 1, 1, 1, 1, 1, 32]) (Shp.cons rfl (Shp.cons rfl (Shp.cons rfl (Shp.cons rfl (Shp.cons rfl (Shp.cons rfl (Shp.cons (lenB hFx) Shp.nil))))))) 6 1 (c := fo.x.map bV) (flat1) rfl) (Ys ?_)
 refine T_neB (xs := fo.x) (ys := fo.x) rfl rfl rfl rfl rfl rfl rfl rfl rfl rfl rfl hFx hFx (P2 ?_)
 refine T_bool 114 false rfl (ndec_f (by simp)) ?_
 refine Ys ?_
 refine Fl 0 ?_
 refine Ys ?_
 refine Fl 0 ?_
 refine Ys ?_
 refine Aj 1 0 S131 (gV_cell (ns := [1, 1, 1, 1, 1, 1, 32]) (Shp.cons rfl (Shp.cons rfl (Shp.cons rfl (Shp.cons rfl (Shp.cons rfl (Shp.cons rfl (Shp.cons (lenB hFx) Shp.nil))))))) 0 rfl rfl) ?_
 refine Ys ?_
 refine Fl 0 ?_
 refine Ys ?_
 refine Fl 0 ?_
 refine Ys ?_
 refine Aj 0 0 S131 (gV_cell (ns := [1, 1, 1, 1, 1, 1, 32]) (Shp.cons rfl (Shp.cons rfl (Shp.cons rfl (Shp.cons rfl (Shp.cons rfl (Shp.cons rfl (Shp.cons (lenB hFx) Shp.nil))))))) 0 rfl rfl) ?_
 refine Ys ?_
 refine T_callS rfl rfl g_aumbry_aumbrykeep_Same_byte rfl rfl rfl rfl ((sameB_ok S131.le (r102.mono hl125) r119 (by first | omega | (simp; done) | (simp only [List.length_take, List.length_drop]; omega))).mono ?_)
 rintro e w133 ⟨rfl, hB132⟩
 have S134 := S131.call hB132
 refine ⟨_, rfl, trivial, ?_⟩
 refine Ys ?_
 refine P3 ?_
 refine T_bool 124 false rfl (ndec_f (by simp)) ?_
 refine Ys ?_
 refine Fl 0 ?_
 refine Ys ?_
 refine Fl 1 ?_
 refine Ys ?_
 refine Aj 1 1 S134 (gV_cell (ns := [1, 1, 1, 1, 1, 1, 32]) (Shp.cons rfl (Shp.cons rfl (Shp.cons rfl (Shp.cons rfl (Shp.cons rfl (Shp.cons rfl (Shp.cons (lenB hFx) Shp.nil))))))) 1 rfl rfl) ?_
 refine Ys ?_
 refine Fl 0 ?_
 refine Ys ?_
 refine Fl 1 ?_
 refine Ys ?_
 refine Aj 0 1 S134 (gV_cell (ns := [1, 1, 1, 1, 1, 1, 32]) (Shp.cons rfl (Shp.cons rfl (Shp.cons rfl (Shp.cons rfl (Shp.cons rfl (Shp.cons rfl (Shp.cons (lenB hFx) Shp.nil))))))) 1 rfl rfl) ?_
 refine Ys ?_
 refine T_callS rfl rfl g_aumbry_aumbrykeep_Same_byte rfl rfl rfl rfl ((sameB_ok S134.le (r103.mono hl125) r120 (by first | omega | (simp; done) | (simp only [List.length_take, List.length_drop]; omega))).mono ?_)
 rintro e w136 ⟨rfl, hB135⟩
 have S137 := S134.call hB135
 refine ⟨_, rfl, trivial, ?_⟩
 refine Ys ?_
 refine P2 (T_nil ?_)
 refine W_bool 133 false rfl (ndec_f (by simp)) ?_
 refine W_cond_false rfl (W_skip (Wr (Ai (hl := by exact hVs hs) 3 S137 ?_)))
 refine Pv ?_
 refine Cs g_aumbry_aumbryref07_Print ((mssPrintR_ok S137.le (h % (3 : Int)) hs (by omega)).mono ?_)
 rintro e w139 ⟨rfl, hB138⟩
 have S140 := S137.call hB138
 refine ⟨_, rfl, trivial, ?_⟩
 refine Ac S140 fun b141 w142 S143 => ?_
 refine Ag (hl := by exact hVs (mprint_len _ _)) (hl2 := by exact hVs (mprint_len _ _)) (h1 := by exact one_hA _) 0 S143 fun w144 S145 => (Nr ?_)
 refine Ai (hl := by exact hVs (mprint_len _ _)) 0 S145 ?_
 refine Pv ?_
 refine Ai (hl := by first | rfl | simp [hVs, *]) 3 S145 ?_
 refine Cs g_aumbry_aumbryref07_Verify ((verifyR_ok S145.le (mprint_len _ _) (spH w0 b (h % (3 : Int))) (spL w0 b ((lf : Nat) : Int)) (r80.mono (hl95.trans (hl108.trans hl125))) (r81.mono (hl95.trans (hl108.trans hl125))) (r61.mono (hl72.trans (hl86.trans (hl95.trans (hl108.trans hl125))))) (by omega)).mono ?_)
 rintro e w147 ⟨rfl, hB146⟩
 have S148 := S145.call hB146
 refine ⟨_, rfl, trivial, ?_⟩
 refine Pv ?_
 refine Tp 141 (fun h149' => ?_) (fun h149' => ?_)
 ·have h149 := h149'
  iterate 3 (refine Ys ?_; refine Pv ?_)
  refine Ys ?_
  refine T_convG S148 (r56.mono (hl60.trans (hl72.trans (hl86.trans (hl95.trans (hl108.trans hl125)))))) rfl rfl rfl rfl rfl rfl rfl rfl rfl (Ys ?_)
  refine Pv ?_
  refine Ys ?_
  refine T_convG S148 (r61.mono (hl72.trans (hl86.trans (hl95.trans (hl108.trans hl125))))) rfl rfl rfl rfl rfl rfl rfl rfl rfl (Ys ?_)
  refine T_strne rfl rfl rfl rfl rfl rfl ?_
  iterate 2 (refine Ys ?_; refine Pv ?_)
  refine Tn 150 (fun h150 => ?_) (fun h150 => ?_)
  ·iterate 4 refine No ?_
   refine Ys ?_
   refine P3 (T_nil (W_seq (Wr ?_)))
   refine P2 ?_
   refine T_bne rfl rfl rfl rfl rfl rfl rfl (T_nil (W_bool 159 false rfl (ndec_f (by rw [← hbo, mst_n (by simpa using h149) hlf2 (by simpa using h150)])) ?_))
   refine W_cond_false rfl (W_skip (Wr (P3 ?_)))
   refine Tp 162 (fun h151' => ?_) (fun h151' => ?_)
   ·have h151 := h151'
    iterate 6 refine No ?_
    iterate 5 refine T_un rfl rfl rfl rfl rfl ?_
    refine No ?_
    refine P2 ?_
    refine Ys ?_
    refine Cs g_aumbry_aumbrylaw09_wakes ((wakes_ok S148.le (hT.mono (hl55.trans (hl60.trans (hl72.trans (hl86.trans (hl95.trans (hl108.trans hl125)))))))).mono ?_)
    rintro e w153 ⟨rfl, hB152⟩
    have S154 := S148.call hB152
    refine ⟨_, rfl, trivial, ?_⟩
    refine P2 (T_nil (W_ret ?_))
    refine ⟨_, ⟨_, _, rfl, rfl, rfl⟩, ?_⟩
    exact ⟨rfl, S154.below⟩
   have h151 := h151'
   refine Ys ?_
   have hhF := expl_holds (seed := seed) (m := N) (h := (h % 3)) (sh := (spH w0 b (h % (3 : Int)))) (sl := (spL w0 b ((lf : Nat) : Int))) (v := (spV w0 b (Go.Au.sign seed ((lf : Nat) : Int) N 67))) (p := (spP w0 b (Go.Au.beside (rowP (mleaves seed (h % (3 : Int)).toNat)) ((lf : Nat) : Int).toNat (lg (mleaves seed (h % (3 : Int)).toNat).length)))) (L := ((List.replicate (2 ^ (h % 3).toNat) ([] : List UInt8)).set lf M)) hLl (by omega) hsg2 (by rw [hbo]; simpa using h151)
   rw [hFo] at hhF
   have hrg := holds_rng hhF
   refine Ai (hl := by exact hVs hs) 4 S148 ?_
   iterate 2 (refine Ys ?_; refine Pv ?_)
   refine Ys ?_
   refine Ai (hl := by exact gV_size (L := [[.slice a98 fo.A.length c99], [.slice a100 fo.B.length c101], [.bool fo.k], [.int .i64 fo.a], [.int .i64 fo.c], [.int .i64 fo.q], fo.x.map bV]) (ns := [1, 1, 1, 1, 1, 1, 32]) (Shp.cons rfl (Shp.cons rfl (Shp.cons rfl (Shp.cons rfl (Shp.cons rfl (Shp.cons rfl (Shp.cons (lenB hFx) Shp.nil))))))) rfl) 2 S148 ?_
   refine Ys ?_
   refine Cs g_aumbry_mss_Holds ((holdsT_ok S148.le (hT.mono (hl55.trans (hl60.trans (hl72.trans (hl86.trans (hl95.trans (hl108.trans hl125))))))) hs (h % (3 : Int)) (r97.mono (hl108.trans hl125)) (r102.mono hl125) (r103.mono hl125) hFx (by omega) hLl hLb hFb.1 hFb.2 (rngF_of hrg) hFok hhF).mono ?_)
   rintro e w156 ⟨rfl, hB155⟩
   have S157 := S148.call hB155
   refine ⟨_, rfl, trivial, ?_⟩
   refine Ys ?_
   refine Pv ?_
   refine Ys ?_
   refine Ai (hl := by exact hVs hs) 4 S157 ?_
   iterate 2 (refine Ys ?_; refine Pv ?_)
   refine Ys ?_
   refine Ai (hl := by exact gV_size (L := [[.slice a115 fo.A.length c116], [.slice a117 fo.B.length c118], [.bool fo.k], [.int .i64 fo.a], [.int .i64 fo.c], [.int .i64 fo.q], fo.x.map bV]) (ns := [1, 1, 1, 1, 1, 1, 32]) (Shp.cons rfl (Shp.cons rfl (Shp.cons rfl (Shp.cons rfl (Shp.cons rfl (Shp.cons rfl (Shp.cons (lenB hFx) Shp.nil))))))) rfl) 1 S157 ?_
   refine Ys ?_
   refine Cs g_aumbry_aumbryref07_Holds ((holdsRT_ok S157.le hs (h % (3 : Int)) (r97.mono (hl108.trans hl125)) r119 r120 hFx (by omega) hLl hLb hFb.1 hFb.2 (rngF_of hrg) hFok hhF).mono ?_)
   rintro e w159 ⟨rfl, hB158⟩
   have S160 := S157.call hB158
   refine ⟨_, rfl, trivial, ?_⟩
   refine Ys ?_
   refine P3 ?_
   refine Ys ?_
   refine Cs g_aumbry_aumbrylaw09_wakes ((wakes_ok S160.le (hT.mono (hl55.trans (hl60.trans (hl72.trans (hl86.trans (hl95.trans (hl108.trans hl125)))))))).mono ?_)
   rintro e w162 ⟨rfl, hB161⟩
   have S163 := S160.call hB161
   refine ⟨_, rfl, trivial, ?_⟩
   refine P2 (T_nil (W_ret ?_))
   refine ⟨_, ⟨_, _, rfl, rfl, rfl⟩, ?_⟩
   exact ⟨rfl, S163.below⟩
  refine Ys ?_
  refine Fl 1 ?_
  refine Ys ?_
  refine Aj 3 1 S148 rfl ?_
  iterate 3 (refine Ys ?_; refine Pv ?_)
  refine P2 (T_nil (W_seq (Wr ?_)))
  refine P2 ?_
  refine T_bne rfl rfl rfl rfl rfl rfl rfl (T_nil (W_bool 159 false rfl (ndec_f (by rw [← hbo, mst_d (by simpa using h149) hlf2 (by simpa using h150) (by omega)])) ?_))
  refine W_cond_false rfl (W_skip (Wr (P3 ?_)))
  refine Tp 162 (fun h164' => ?_) (fun h164' => ?_)
  ·have h164 := h164'
   iterate 6 refine No ?_
   iterate 5 refine T_un rfl rfl rfl rfl rfl ?_
   refine No ?_
   refine P2 ?_
   refine Ys ?_
   refine Cs g_aumbry_aumbrylaw09_wakes ((wakes_ok S148.le (hT.mono (hl55.trans (hl60.trans (hl72.trans (hl86.trans (hl95.trans (hl108.trans hl125)))))))).mono ?_)
   rintro e w166 ⟨rfl, hB165⟩
   have S167 := S148.call hB165
   refine ⟨_, rfl, trivial, ?_⟩
   refine P2 (T_nil (W_ret ?_))
   refine ⟨_, ⟨_, _, rfl, rfl, rfl⟩, ?_⟩
   exact ⟨rfl, S167.below⟩
  have h164 := h164'
  refine Ys ?_
  have hhF := expl_holds (seed := seed) (m := N) (h := (h % 3)) (sh := (spH w0 b (h % (3 : Int)))) (sl := (spL w0 b ((lf : Nat) : Int))) (v := (spV w0 b (Go.Au.sign seed ((lf : Nat) : Int) N 67))) (p := (spP w0 b (Go.Au.beside (rowP (mleaves seed (h % (3 : Int)).toNat)) ((lf : Nat) : Int).toNat (lg (mleaves seed (h % (3 : Int)).toNat).length)))) (L := ((List.replicate (2 ^ (h % 3).toNat) ([] : List UInt8)).set lf M)) hLl (by omega) hsg2 (by rw [hbo]; simpa using h164)
  rw [hFo] at hhF
  have hrg := holds_rng hhF
  refine Ai (hl := by exact hVs hs) 4 S148 ?_
  iterate 2 (refine Ys ?_; refine Pv ?_)
  refine Ys ?_
  refine Ai (hl := by exact gV_size (L := [[.slice a98 fo.A.length c99], [.slice a100 fo.B.length c101], [.bool fo.k], [.int .i64 fo.a], [.int .i64 fo.c], [.int .i64 fo.q], fo.x.map bV]) (ns := [1, 1, 1, 1, 1, 1, 32]) (Shp.cons rfl (Shp.cons rfl (Shp.cons rfl (Shp.cons rfl (Shp.cons rfl (Shp.cons rfl (Shp.cons (lenB hFx) Shp.nil))))))) rfl) 2 S148 ?_
  refine Ys ?_
  refine Cs g_aumbry_mss_Holds ((holdsT_ok S148.le (hT.mono (hl55.trans (hl60.trans (hl72.trans (hl86.trans (hl95.trans (hl108.trans hl125))))))) hs (h % (3 : Int)) (r97.mono (hl108.trans hl125)) (r102.mono hl125) (r103.mono hl125) hFx (by omega) hLl hLb hFb.1 hFb.2 (rngF_of hrg) hFok hhF).mono ?_)
  rintro e w169 ⟨rfl, hB168⟩
  have S170 := S148.call hB168
  refine ⟨_, rfl, trivial, ?_⟩
  refine Ys ?_
  refine Pv ?_
  refine Ys ?_
  refine Ai (hl := by exact hVs hs) 4 S170 ?_
  iterate 2 (refine Ys ?_; refine Pv ?_)
  refine Ys ?_
  refine Ai (hl := by exact gV_size (L := [[.slice a115 fo.A.length c116], [.slice a117 fo.B.length c118], [.bool fo.k], [.int .i64 fo.a], [.int .i64 fo.c], [.int .i64 fo.q], fo.x.map bV]) (ns := [1, 1, 1, 1, 1, 1, 32]) (Shp.cons rfl (Shp.cons rfl (Shp.cons rfl (Shp.cons rfl (Shp.cons rfl (Shp.cons rfl (Shp.cons (lenB hFx) Shp.nil))))))) rfl) 1 S170 ?_
  refine Ys ?_
  refine Cs g_aumbry_aumbryref07_Holds ((holdsRT_ok S170.le hs (h % (3 : Int)) (r97.mono (hl108.trans hl125)) r119 r120 hFx (by omega) hLl hLb hFb.1 hFb.2 (rngF_of hrg) hFok hhF).mono ?_)
  rintro e w172 ⟨rfl, hB171⟩
  have S173 := S170.call hB171
  refine ⟨_, rfl, trivial, ?_⟩
  refine Ys ?_
  refine P3 ?_
  refine Ys ?_
  refine Cs g_aumbry_aumbrylaw09_wakes ((wakes_ok S173.le (hT.mono (hl55.trans (hl60.trans (hl72.trans (hl86.trans (hl95.trans (hl108.trans hl125)))))))).mono ?_)
  rintro e w175 ⟨rfl, hB174⟩
  have S176 := S173.call hB174
  refine ⟨_, rfl, trivial, ?_⟩
  refine P2 (T_nil (W_ret ?_))
  refine ⟨_, ⟨_, _, rfl, rfl, rfl⟩, ?_⟩
  exact ⟨rfl, S176.below⟩
 have h149 := h149'
 iterate 2 refine No ?_
 iterate 5 refine T_un rfl rfl rfl rfl rfl ?_
 iterate 2 refine No ?_
 iterate 4 refine T_un rfl rfl rfl rfl rfl ?_
 refine No ?_
 refine P2 (T_nil (W_seq (Wr ?_)))
 refine P2 ?_
 refine T_bne rfl rfl rfl rfl rfl rfl rfl (T_nil (W_bool 159 false rfl (ndec_f (by rw [← hbo, mst_v (by simpa using h149)])) ?_))
 refine W_cond_false rfl (W_skip (Wr (P3 ?_)))
 refine Tp 162 (fun h177' => ?_) (fun h177' => ?_)
 ·have h177 := h177'
  iterate 6 refine No ?_
  iterate 5 refine T_un rfl rfl rfl rfl rfl ?_
  refine No ?_
  refine P2 ?_
  refine Ys ?_
  refine Cs g_aumbry_aumbrylaw09_wakes ((wakes_ok S148.le (hT.mono (hl55.trans (hl60.trans (hl72.trans (hl86.trans (hl95.trans (hl108.trans hl125)))))))).mono ?_)
  rintro e w179 ⟨rfl, hB178⟩
  have S180 := S148.call hB178
  refine ⟨_, rfl, trivial, ?_⟩
  refine P2 (T_nil (W_ret ?_))
  refine ⟨_, ⟨_, _, rfl, rfl, rfl⟩, ?_⟩
  exact ⟨rfl, S180.below⟩
 have h177 := h177'
 refine Ys ?_
 have hhF := expl_holds (seed := seed) (m := N) (h := (h % 3)) (sh := (spH w0 b (h % (3 : Int)))) (sl := (spL w0 b ((lf : Nat) : Int))) (v := (spV w0 b (Go.Au.sign seed ((lf : Nat) : Int) N 67))) (p := (spP w0 b (Go.Au.beside (rowP (mleaves seed (h % (3 : Int)).toNat)) ((lf : Nat) : Int).toNat (lg (mleaves seed (h % (3 : Int)).toNat).length)))) (L := ((List.replicate (2 ^ (h % 3).toNat) ([] : List UInt8)).set lf M)) hLl (by omega) hsg2 (by rw [hbo]; simpa using h177)
 rw [hFo] at hhF
 have hrg := holds_rng hhF
 refine Ai (hl := by exact hVs hs) 4 S148 ?_
 iterate 2 (refine Ys ?_; refine Pv ?_)
 refine Ys ?_
 refine Ai (hl := by exact gV_size (L := [[.slice a98 fo.A.length c99], [.slice a100 fo.B.length c101], [.bool fo.k], [.int .i64 fo.a], [.int .i64 fo.c], [.int .i64 fo.q], fo.x.map bV]) (ns := [1, 1, 1, 1, 1, 1, 32]) (Shp.cons rfl (Shp.cons rfl (Shp.cons rfl (Shp.cons rfl (Shp.cons rfl (Shp.cons rfl (Shp.cons (lenB hFx) Shp.nil))))))) rfl) 2 S148 ?_
 refine Ys ?_
 refine Cs g_aumbry_mss_Holds ((holdsT_ok S148.le (hT.mono (hl55.trans (hl60.trans (hl72.trans (hl86.trans (hl95.trans (hl108.trans hl125))))))) hs (h % (3 : Int)) (r97.mono (hl108.trans hl125)) (r102.mono hl125) (r103.mono hl125) hFx (by omega) hLl hLb hFb.1 hFb.2 (rngF_of hrg) hFok hhF).mono ?_)
 rintro e w182 ⟨rfl, hB181⟩
 have S183 := S148.call hB181
 refine ⟨_, rfl, trivial, ?_⟩
 refine Ys ?_
 refine Pv ?_
 refine Ys ?_
 refine Ai (hl := by exact hVs hs) 4 S183 ?_
 iterate 2 (refine Ys ?_; refine Pv ?_)
 refine Ys ?_
 refine Ai (hl := by exact gV_size (L := [[.slice a115 fo.A.length c116], [.slice a117 fo.B.length c118], [.bool fo.k], [.int .i64 fo.a], [.int .i64 fo.c], [.int .i64 fo.q], fo.x.map bV]) (ns := [1, 1, 1, 1, 1, 1, 32]) (Shp.cons rfl (Shp.cons rfl (Shp.cons rfl (Shp.cons rfl (Shp.cons rfl (Shp.cons rfl (Shp.cons (lenB hFx) Shp.nil))))))) rfl) 1 S183 ?_
 refine Ys ?_
 refine Cs g_aumbry_aumbryref07_Holds ((holdsRT_ok S183.le hs (h % (3 : Int)) (r97.mono (hl108.trans hl125)) r119 r120 hFx (by omega) hLl hLb hFb.1 hFb.2 (rngF_of hrg) hFok hhF).mono ?_)
 rintro e w185 ⟨rfl, hB184⟩
 have S186 := S183.call hB184
 refine ⟨_, rfl, trivial, ?_⟩
 refine Ys ?_
 refine P3 ?_
 refine Ys ?_
 refine Cs g_aumbry_aumbrylaw09_wakes ((wakes_ok S186.le (hT.mono (hl55.trans (hl60.trans (hl72.trans (hl86.trans (hl95.trans (hl108.trans hl125)))))))).mono ?_)
 rintro e w188 ⟨rfl, hB187⟩
 have S189 := S186.call hB187
 refine ⟨_, rfl, trivial, ?_⟩
 refine P2 (T_nil (W_ret ?_))
 refine ⟨_, ⟨_, _, rfl, rfl, rfl⟩, ?_⟩
 exact ⟨rfl, S189.below⟩


theorem mssForged_ok {H : Hp} {w : World} (hH : H.le (hw w)) (hT : Tabs H) (h leaf : Int) (un : Bool) (w0 b : Int) {seed : List UInt8} (hs : seed.length = 16) {m : List UInt8} {aa3 : Option Addr} {nn3 cc3 : Nat} (hv : Rd H (.slice aa3 nn3 cc3) nn3 1 (m.map bV)) {q : List UInt8} {aa4 : Option Addr} {nn4 cc4 : Nat} (hu : Rd H (.slice aa4 nn4 cc4) nn4 1 (q.map bV)) (hb2 : -9223372036854775808 ≤ b ∧ b ≤ 9223372036854775807) :
  Calls Tryz.prog 3 #[hV seed, .int .i64 h, .int .i64 leaf, .slice aa3 nn3 cc3, .slice aa4 nn4 cc4, .bool un, .int .i64 w0, .int .i64 b] w fun e w' => e = .returned (.bool true) ∧ Below w.heap.size w w' := by
 cases un
 ·exact mssForged_f hH hT h leaf w0 b hs hv hu hb2
 ·exact mssForged_t hH hT h leaf w0 b hs hv hu hb2
end Go.Proofs.YtfcejolipdcoaaaGreatDoor
