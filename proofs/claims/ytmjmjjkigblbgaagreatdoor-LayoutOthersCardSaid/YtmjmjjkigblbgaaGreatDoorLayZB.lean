/- Whether shares are right. -/
import Derived.Test.YtmjmjjkigblbgaaGreatDoorLayZ
set_option linter.unusedVariables false
set_option linter.unusedSimpArgs false
set_option maxRecDepth 8192
namespace Go.Proofs.YtmjmjjkigblbgaaGreatDoor
open Go Go.F Go.RowKit
open Go.Au

theorem nb_f {b : Bool} (h : (!b) = false) : b = true := by cases b <;> simp_all
theorem nb_x {b : Bool} (h : (!b) = true) (h1 : b = true) : False := by cases b <;> simp_all
theorem rs_no {kd ck cn cz : Int} {L fp : List UInt8} {sn : Int} {u : List UInt8} {p B : List (List UInt8)} (h : ¬ RsOk kd ck cn cz L fp sn u p B) : Ending.returned (.tuple #[qV 0 0 0 0 (List.replicate 32 0) (List.replicate 32 0), .bool false]) = .returned (.tuple #[qV (rsN (decide (RsOk kd ck cn cz L fp sn u p B)) u 0) (rsN (decide (RsOk kd ck cn cz L fp sn u p B)) u 1) (rsN (decide (RsOk kd ck cn cz L fp sn u p B)) u 2) (rsN (decide (RsOk kd ck cn cz L fp sn u p B)) u 3) (rsH (decide (RsOk kd ck cn cz L fp sn u p B)) u 4) (rsH (decide (RsOk kd ck cn cz L fp sn u p B)) u 5), .bool (decide (RsOk kd ck cn cz L fp sn u p B))]) := by
 rw [decide_eq_false h]; rfl
theorem rs_yes {kd ck cn cz : Int} {L fp : List UInt8} {sn : Int} {u : List UInt8} {p B : List (List UInt8)} (h : RsOk kd ck cn cz L fp sn u p B) : Ending.returned (.tuple #[qV (uN u 0) (uN u 1) (uN u 2) (uN u 3) (uH u 4) (uH u 5), .bool true]) = .returned (.tuple #[qV (rsN (decide (RsOk kd ck cn cz L fp sn u p B)) u 0) (rsN (decide (RsOk kd ck cn cz L fp sn u p B)) u 1) (rsN (decide (RsOk kd ck cn cz L fp sn u p B)) u 2) (rsN (decide (RsOk kd ck cn cz L fp sn u p B)) u 3) (rsH (decide (RsOk kd ck cn cz L fp sn u p B)) u 4) (rsH (decide (RsOk kd ck cn cz L fp sn u p B)) u 5), .bool (decide (RsOk kd ck cn cz L fp sn u p B))]) := by
 rw [decide_eq_true h]; rfl
theorem checkR_ok {H : Hp} {w : World} (hH : H.le (hw w)) {r : List UInt8} (hr : r.length = 32) (n i : Int) {x : List UInt8} (hx : x.length = 32) {p : List (List UInt8)} {aa4 : Option Addr} {nn4 cc4 : Nat} (hp : RdH H (.slice aa4 nn4 cc4) 32 p) :
  Calls Tryz.prog 36 #[hV r, .int .i64 n, .int .i64 i, hV x, .slice aa4 nn4 cc4] w fun e w' => e = .returned (.bool (okW n i p.length && decide (climbH n i x p = r))) ∧ Below w.heap.size w w' := by
 obtain rfl : nn4 = p.length := hp.len
 have hpcap : p.length ≤ cc4 := hp.2.capOf
 refine enter5 _ Tryz.func36 rfl Tryz.ntmps36 Tryz.results36 rfl ?_
 have S0 := St.start w hH
 refine Wr (Al S0 fun b1 w2 S3 => ?_)
 refine Al S3 fun b4 w5 S6 => ?_
 refine Pv (Nr ?_)
 iterate 2 refine Pv ?_
 refine Ak (hl := by exact hVs hx) 0 S6 ?_
 refine Pv ?_
 refine Cs g_aumbry_aumbryref07_Climb ((climbR_ok S6.le n i hx hp).mono ?_)
 rintro e w8 ⟨rfl, hB7⟩
 have S9 := S6.call hB7
 refine ⟨_, rfl, trivial, ?_⟩
 iterate 3 refine Pv ?_
 refine Ad S9 fun b10 w11 S12 => ?_
 refine Ah (hl := by exact hVs (climbH_len _ _ hx _)) (hl2 := by exact hVs (climbH_len _ _ hx _)) (h1 := by exact one_hA _) 0 S12 fun w13 S14 => ?_
 refine Pv (Nr ?_)
 iterate 2 refine Pv ?_
 refine Tp 22 (fun h15' => ?_) (fun h15' => ?_)
 ·have h15 := h15'
  refine Ys ?_
  refine Ak (hl := by exact hVs (climbH_len _ _ hx _)) 0 S14 ?_
  refine Ys ?_
  refine Ak (hl := by exact hVs hr) 2 S14 ?_
  refine Ys ?_
  refine T_eqB (xs := climbH n i x p) (ys := r) rfl rfl rfl rfl rfl rfl rfl rfl rfl rfl rfl (climbH_len _ _ hx _) hr ?_
  iterate 2 refine Pv ?_
  refine T_nil (W_ret ?_)
  refine ⟨_, ⟨_, _, rfl, rfl, rfl⟩, ?_⟩
  exact ⟨by rw [h15, Bool.true_and]; rfl, S14.below⟩
 have h15 := h15'
 iterate 3 refine No ?_
 iterate 2 refine Pv ?_
 refine T_nil (W_ret ?_)
 refine ⟨_, ⟨_, _, rfl, rfl, rfl⟩, ?_⟩
 exact ⟨by rw [h15]; rfl, S14.below⟩


set_option maxHeartbeats 1000000 in
theorem rightS_ok {H : Hp} {w : World} (hH : H.le (hw w)) (hT : Tabs H) (kd ck cn cz : Int) {ky fp L : List UInt8} (hky : ky.length = 16) (hfp : fp.length = 32) {acp : Option Addr} {ncp ccp : Nat} (hcap : Rd H (.slice acp ncp ccp) ncp 1 (L.map bV)) (sn : Int) {u : List UInt8} {p B : List (List UInt8)} {a1 a2 a3 : Option Addr} {n1 n2 n3 c1 c2 c3 : Nat} (h1 : Rd H (.slice a1 n1 c1) n1 1 (u.map bV)) (h2 : RdH H (.slice a2 n2 c2) 32 p) (h3 : RdL H (.slice a3 n3 c3) B) (hu : u.length ≤ 200) (hp : p.length ≤ 6) (hB : B.length ≤ 20) (HX1 : ∀ x ∈ B, x.length < 1000) :
  Calls Tryz.prog 10 #[gV [[.int .i64 kd], ky.map bV, fp.map bV, [.int .i64 ck], [.int .i64 cn], [.int .i64 cz], [.slice acp ncp ccp]], .agg #[.int .i64 sn, .slice a1 n1 c1, .slice a2 n2 c2, .slice a3 n3 c3]] w fun e w' => e = .returned (.tuple #[qV (rsN (decide (RsOk kd ck cn cz L fp sn u p B)) u 0) (rsN (decide (RsOk kd ck cn cz L fp sn u p B)) u 1) (rsN (decide (RsOk kd ck cn cz L fp sn u p B)) u 2) (rsN (decide (RsOk kd ck cn cz L fp sn u p B)) u 3) (rsH (decide (RsOk kd ck cn cz L fp sn u p B)) u 4) (rsH (decide (RsOk kd ck cn cz L fp sn u p B)) u 5), .bool (decide (RsOk kd ck cn cz L fp sn u p B))]) ∧ Below w.heap.size w w' := by
 obtain rfl : ncp = L.length := hcap.lenB
 obtain rfl : n1 = u.length := h1.lenB
 obtain rfl : n2 = p.length := h2.len
 obtain rfl : n3 = B.length := h3.len
 refine enter2 _ Tryz.func10 rfl Tryz.ntmps10 Tryz.results10 rfl ?_
 have S0 := St.start w hH
 refine Wr (Al S0 fun b51 w52 S53 => ?_)
 refine Al S53 fun b54 w55 S56 => ?_
 refine Ad S56 fun b57 w58 S59 => ?_
 refine Pv (Nr ?_)
 refine Fl 1 ?_
 refine Am 1 1 S59 rfl ?_
 refine T_callS rfl rfl g_aumbry_layout_Unpack rfl rfl rfl rfl ((unpackU_ok S59.le hT h1 (by first | omega | decide)).mono ?_)
 rintro e w61 ⟨rfl, hB60⟩
 have S62 := S59.call hB60
 refine ⟨_, rfl, trivial, ?_⟩
 iterate 3 refine Pv ?_
 refine Ad S62 fun b63 w64 S65 => ?_
 refine Ah (hl := by exact qV_sz (q_len (uH4 _) (uH5 _) rfl)) (hl2 := by exact qV_sz (q_len (uH4 _) (uH5 _) rfl)) (h1 := by exact qV_one) 0 S65 fun w66 S67 => ?_
 refine Pv (T_nil ?_)
 iterate 2 refine W_seq ?_
 obtain ⟨G69, hl70, S68, r71⟩ := S67.stillBlk 3 rfl
 refine W_plan (planF Tryz.prog G69 [29]) rfl (by kernel_rfl) S68.le ?_
 have S72 := S68.drew
 iterate 3 refine Pv ?_
 refine Tp 19 (fun h73' => ?_) (fun h73' => ?_)
 ·have h73 := of_ndec_t h73'
  iterate 3 refine No ?_
  iterate 2 refine Pv ?_
  iterate 6 refine No ?_
  iterate 2 refine Pv ?_
  iterate 5 refine No ?_
  iterate 2 refine Pv ?_
  iterate 5 refine No ?_
  iterate 2 refine Pv ?_
  iterate 5 refine No ?_
  iterate 2 (refine Pv ?_; refine Pv ?_; refine No ?_; refine No ?_; refine No ?_)
  iterate 2 refine No ?_
  refine Pv (T_nil ?_)
  refine W_cond_true rfl (Wr (T_buildS (cells := (qz32 : Value).cells) rfl rfl rfl rfl rfl rfl rfl rfl rfl rfl (Ah (hl := by exact qV_sz (q_len lr32 lr32 rfl)) (hl2 := by exact qV_sz (q_len lr32 lr32 rfl)) (h1 := by exact qV_one) 1 S72 fun w74 S75 => ?_)))
  refine Pv (T_nil (W_ret ?_))
  refine ⟨_, ⟨_, _, _, rfl, rfl, run_loadVarA rfl rfl (qV_sz (q_len lr32 lr32 rfl)) (S75.cells 1 rfl), ⟨_, _, rfl, rfl, rfl⟩⟩, ?_⟩
  refine ⟨rs_no (fun hq => ?_), S75.below⟩
  obtain ⟨⟨q0, q1, q2⟩, ⟨q3, q4, q5⟩, ⟨q6, q7⟩, q8, q9, q10⟩ := hq
  first | exact h73 q0 | exact h73 q1 | exact h73 q2 | exact h73 q3 | exact h73 q4 | exact h73 q5 | exact h73 q8 | omega | exact nb_x h73 q10 | (have q11 := (q9 k (by omega)).1; omega) | exact h73 (by rw [q3, q5]; exact (q9 k (by omega)).2) | exact h73 (q9 k (by omega)).2
 have h73 := of_ndec_f h73'
 refine Ys ?_
 refine T_loadGA _ S72 (still_cells r71) rfl rfl rfl rfl rfl rfl rfl rfl (gV_size (L := [[.int .i64 kd], ky.map bV, fp.map bV, [.int .i64 ck], [.int .i64 cn], [.int .i64 cz], [.slice acp L.length ccp]]) (shCp hky hfp) rfl) (Ys ?_)
 refine Cs g_aumbry_layout_file ((file_ok S72.le kd ck cn cz hky hfp (hcap.mono hl70)).mono ?_)
 rintro e w77 ⟨rfl, hB76⟩
 have S78 := S72.call hB76
 refine ⟨_, rfl, (((Hp.le.refl _)).trans S78.le), ?_⟩
 refine Ys ?_
 iterate 3 refine Pv ?_
 refine Tp 24 (fun h79' => ?_) (fun h79' => ?_)
 ·have h79 := of_ndec_t h79'
  iterate 6 refine No ?_
  iterate 2 refine Pv ?_
  iterate 5 refine No ?_
  iterate 2 refine Pv ?_
  iterate 5 refine No ?_
  iterate 2 refine Pv ?_
  iterate 5 refine No ?_
  iterate 2 (refine Pv ?_; refine Pv ?_; refine No ?_; refine No ?_; refine No ?_)
  iterate 2 refine No ?_
  refine Pv (T_nil ?_)
  refine W_cond_true rfl (Wr (T_buildS (cells := (qz32 : Value).cells) rfl rfl rfl rfl rfl rfl rfl rfl rfl rfl (Ah (hl := by exact qV_sz (q_len lr32 lr32 rfl)) (hl2 := by exact qV_sz (q_len lr32 lr32 rfl)) (h1 := by exact qV_one) 1 S78 fun w80 S81 => ?_)))
  refine Pv (T_nil (W_ret ?_))
  refine ⟨_, ⟨_, _, _, rfl, rfl, run_loadVarA rfl rfl (qV_sz (q_len lr32 lr32 rfl)) (S81.cells 1 rfl), ⟨_, _, rfl, rfl, rfl⟩⟩, ?_⟩
  refine ⟨rs_no (fun hq => ?_), S81.below⟩
  obtain ⟨⟨q0, q1, q2⟩, ⟨q3, q4, q5⟩, ⟨q6, q7⟩, q8, q9, q10⟩ := hq
  first | exact h79 q0 | exact h79 q1 | exact h79 q2 | exact h79 q3 | exact h79 q4 | exact h79 q5 | exact h79 q8 | omega | exact nb_x h79 q10 | (have q11 := (q9 k (by omega)).1; omega) | exact h79 (by rw [q3, q5]; exact (q9 k (by omega)).2) | exact h79 (q9 k (by omega)).2
 have h79 := of_ndec_f h79'
 refine Ys ?_
 refine Fl 1 ?_
 refine Ys ?_
 refine Am 2 1 S78 rfl ?_
 refine Ys ?_
 refine T_callS rfl rfl g_aumbry_layout_Print rfl rfl rfl rfl ((print_ok S78.le (hT.mono hl70) (h1.mono hl70) (by first | omega | decide)).mono ?_)
 rintro e w83 ⟨rfl, hB82⟩
 have S84 := S78.call hB82
 refine ⟨_, rfl, (((Hp.le.refl _)).trans S84.le), ?_⟩
 refine Ys ?_
 refine Fl 17 ?_
 refine Ys ?_
 refine T_loadGAP (hV fp : Value).cells (fun _ h => h) (still_part r71 (gV_sub (shCp hky hfp) 2 1 (c := fp.map bV) (flat1) rfl)) rfl rfl rfl rfl rfl rfl rfl rfl (hVs hfp) (Ys ?_)
 refine T_neB (xs := tagged [117, 101, 98] [u]) (ys := fp) rfl rfl rfl rfl rfl rfl rfl rfl rfl rfl rfl (tagged_len _ _) hfp ?_
 iterate 2 refine Pv ?_
 refine Tp 32 (fun h85' => ?_) (fun h85' => ?_)
 ·have h85 := of_ndec_t h85'
  iterate 5 refine No ?_
  iterate 2 refine Pv ?_
  iterate 5 refine No ?_
  iterate 2 refine Pv ?_
  iterate 5 refine No ?_
  iterate 2 (refine Pv ?_; refine Pv ?_; refine No ?_; refine No ?_; refine No ?_)
  iterate 2 refine No ?_
  refine Pv (T_nil ?_)
  refine W_cond_true rfl (Wr (T_buildS (cells := (qz32 : Value).cells) rfl rfl rfl rfl rfl rfl rfl rfl rfl rfl (Ah (hl := by exact qV_sz (q_len lr32 lr32 rfl)) (hl2 := by exact qV_sz (q_len lr32 lr32 rfl)) (h1 := by exact qV_one) 1 S84 fun w86 S87 => ?_)))
  refine Pv (T_nil (W_ret ?_))
  refine ⟨_, ⟨_, _, _, rfl, rfl, run_loadVarA rfl rfl (qV_sz (q_len lr32 lr32 rfl)) (S87.cells 1 rfl), ⟨_, _, rfl, rfl, rfl⟩⟩, ?_⟩
  refine ⟨rs_no (fun hq => ?_), S87.below⟩
  obtain ⟨⟨q0, q1, q2⟩, ⟨q3, q4, q5⟩, ⟨q6, q7⟩, q8, q9, q10⟩ := hq
  first | exact h85 q0 | exact h85 q1 | exact h85 q2 | exact h85 q3 | exact h85 q4 | exact h85 q5 | exact h85 q8 | omega | exact nb_x h85 q10 | (have q11 := (q9 k (by omega)).1; omega) | exact h85 (by rw [q3, q5]; exact (q9 k (by omega)).2) | exact h85 (q9 k (by omega)).2
 have h85 := of_ndec_f h85'
 refine Ys ?_
 refine Fl 0 ?_
 refine Ys ?_
 refine Am 0 0 S84 qV_0 ?_
 refine Ys ?_
 refine Fl 49 ?_
 refine Ys ?_
 refine Ac S84 (still_cell r71 (gV_cell (shCp hky hfp) 3 rfl rfl)) ?_
 refine Ys ?_
 iterate 3 refine Pv ?_
 refine Tp 39 (fun h88' => ?_) (fun h88' => ?_)
 ·have h88 := of_ndec_t h88'
  iterate 5 refine No ?_
  iterate 2 refine Pv ?_
  iterate 5 refine No ?_
  iterate 2 (refine Pv ?_; refine Pv ?_; refine No ?_; refine No ?_; refine No ?_)
  iterate 2 refine No ?_
  refine Pv (T_nil ?_)
  refine W_cond_true rfl (Wr (T_buildS (cells := (qz32 : Value).cells) rfl rfl rfl rfl rfl rfl rfl rfl rfl rfl (Ah (hl := by exact qV_sz (q_len lr32 lr32 rfl)) (hl2 := by exact qV_sz (q_len lr32 lr32 rfl)) (h1 := by exact qV_one) 1 S84 fun w89 S90 => ?_)))
  refine Pv (T_nil (W_ret ?_))
  refine ⟨_, ⟨_, _, _, rfl, rfl, run_loadVarA rfl rfl (qV_sz (q_len lr32 lr32 rfl)) (S90.cells 1 rfl), ⟨_, _, rfl, rfl, rfl⟩⟩, ?_⟩
  refine ⟨rs_no (fun hq => ?_), S90.below⟩
  obtain ⟨⟨q0, q1, q2⟩, ⟨q3, q4, q5⟩, ⟨q6, q7⟩, q8, q9, q10⟩ := hq
  first | exact h88 q0 | exact h88 q1 | exact h88 q2 | exact h88 q3 | exact h88 q4 | exact h88 q5 | exact h88 q8 | omega | exact nb_x h88 q10 | (have q11 := (q9 k (by omega)).1; omega) | exact h88 (by rw [q3, q5]; exact (q9 k (by omega)).2) | exact h88 (q9 k (by omega)).2
 have h88 := of_ndec_f h88'
 refine Ys ?_
 refine Fl 1 ?_
 refine Ys ?_
 refine Am 0 1 S84 qV_1 ?_
 refine Ys ?_
 refine Fl 50 ?_
 refine Ys ?_
 refine Ac S84 (still_cell r71 (gV_cell (shCp hky hfp) 4 rfl rfl)) ?_
 refine Ys ?_
 iterate 3 refine Pv ?_
 refine Tp 46 (fun h91' => ?_) (fun h91' => ?_)
 ·have h91 := of_ndec_t h91'
  iterate 5 refine No ?_
  iterate 2 (refine Pv ?_; refine Pv ?_; refine No ?_; refine No ?_; refine No ?_)
  iterate 2 refine No ?_
  refine Pv (T_nil ?_)
  refine W_cond_true rfl (Wr (T_buildS (cells := (qz32 : Value).cells) rfl rfl rfl rfl rfl rfl rfl rfl rfl rfl (Ah (hl := by exact qV_sz (q_len lr32 lr32 rfl)) (hl2 := by exact qV_sz (q_len lr32 lr32 rfl)) (h1 := by exact qV_one) 1 S84 fun w92 S93 => ?_)))
  refine Pv (T_nil (W_ret ?_))
  refine ⟨_, ⟨_, _, _, rfl, rfl, run_loadVarA rfl rfl (qV_sz (q_len lr32 lr32 rfl)) (S93.cells 1 rfl), ⟨_, _, rfl, rfl, rfl⟩⟩, ?_⟩
  refine ⟨rs_no (fun hq => ?_), S93.below⟩
  obtain ⟨⟨q0, q1, q2⟩, ⟨q3, q4, q5⟩, ⟨q6, q7⟩, q8, q9, q10⟩ := hq
  first | exact h91 q0 | exact h91 q1 | exact h91 q2 | exact h91 q3 | exact h91 q4 | exact h91 q5 | exact h91 q8 | omega | exact nb_x h91 q10 | (have q11 := (q9 k (by omega)).1; omega) | exact h91 (by rw [q3, q5]; exact (q9 k (by omega)).2) | exact h91 (q9 k (by omega)).2
 have h91 := of_ndec_f h91'
 refine Ys ?_
 refine Fl 2 ?_
 refine Ys ?_
 refine Am 0 2 S84 qV_2 ?_
 refine Ys ?_
 refine Fl 51 ?_
 refine Ys ?_
 refine Ac S84 (still_cell r71 (gV_cell (shCp hky hfp) 5 rfl rfl)) ?_
 refine Ys ?_
 iterate 3 refine Pv ?_
 refine Tp 53 (fun h94' => ?_) (fun h94' => ?_)
 ·have h94 := of_ndec_t h94'
  iterate 3 refine No ?_
  iterate 2 refine Pv ?_
  iterate 5 refine No ?_
  refine Pv (T_nil ?_)
  refine W_cond_true rfl (Wr (T_buildS (cells := (qz32 : Value).cells) rfl rfl rfl rfl rfl rfl rfl rfl rfl rfl (Ah (hl := by exact qV_sz (q_len lr32 lr32 rfl)) (hl2 := by exact qV_sz (q_len lr32 lr32 rfl)) (h1 := by exact qV_one) 1 S84 fun w95 S96 => ?_)))
  refine Pv (T_nil (W_ret ?_))
  refine ⟨_, ⟨_, _, _, rfl, rfl, run_loadVarA rfl rfl (qV_sz (q_len lr32 lr32 rfl)) (S96.cells 1 rfl), ⟨_, _, rfl, rfl, rfl⟩⟩, ?_⟩
  refine ⟨rs_no (fun hq => ?_), S96.below⟩
  obtain ⟨⟨q0, q1, q2⟩, ⟨q3, q4, q5⟩, ⟨q6, q7⟩, q8, q9, q10⟩ := hq
  first | exact h94 q0 | exact h94 q1 | exact h94 q2 | exact h94 q3 | exact h94 q4 | exact h94 q5 | exact h94 q8 | omega | exact nb_x h94 q10 | (have q11 := (q9 k (by omega)).1; omega) | exact h94 (by rw [q3, q5]; exact (q9 k (by omega)).2) | exact h94 (q9 k (by omega)).2
 have h94 := of_ndec_f h94'
 refine Ys ?_
 refine Fl 0 ?_
 refine Ys ?_
 refine Am 2 0 S84 rfl ?_
 refine Ys ?_
 iterate 3 refine Pv ?_
 refine Tp 58 (fun h97' => ?_) (fun h97' => ?_)
 ·have h97 := of_decide_eq_true h97'
  iterate 5 refine No ?_
  refine Pv (T_nil ?_)
  refine W_cond_true rfl (Wr (T_buildS (cells := (qz32 : Value).cells) rfl rfl rfl rfl rfl rfl rfl rfl rfl rfl (Ah (hl := by exact qV_sz (q_len lr32 lr32 rfl)) (hl2 := by exact qV_sz (q_len lr32 lr32 rfl)) (h1 := by exact qV_one) 1 S84 fun w98 S99 => ?_)))
  refine Pv (T_nil (W_ret ?_))
  refine ⟨_, ⟨_, _, _, rfl, rfl, run_loadVarA rfl rfl (qV_sz (q_len lr32 lr32 rfl)) (S99.cells 1 rfl), ⟨_, _, rfl, rfl, rfl⟩⟩, ?_⟩
  refine ⟨rs_no (fun hq => ?_), S99.below⟩
  obtain ⟨⟨q0, q1, q2⟩, ⟨q3, q4, q5⟩, ⟨q6, q7⟩, q8, q9, q10⟩ := hq
  first | exact h97 q0 | exact h97 q1 | exact h97 q2 | exact h97 q3 | exact h97 q4 | exact h97 q5 | exact h97 q8 | omega | exact nb_x h97 q10 | (have q11 := (q9 k (by omega)).1; omega) | exact h97 (by rw [q3, q5]; exact (q9 k (by omega)).2) | exact h97 (q9 k (by omega)).2
 have h97 := of_decide_eq_false h97'
 refine Ys ?_
 refine Fl 0 ?_
 refine Ys ?_
 refine Am 2 0 S84 rfl ?_
 refine Ys ?_
 refine Fl 1 ?_
 refine Ys ?_
 refine Am 0 1 S84 qV_1 ?_
 refine Ys ?_
 iterate 2 refine Pv ?_
 refine T_nil (Aa (fun h100 => ?_) (fun h100 => ?_))
 ·refine Wr (T_buildS (cells := (qz32 : Value).cells) rfl rfl rfl rfl rfl rfl rfl rfl rfl rfl (Ah (hl := by exact qV_sz (q_len lr32 lr32 rfl)) (hl2 := by exact qV_sz (q_len lr32 lr32 rfl)) (h1 := by exact qV_one) 1 S84 fun w101 S102 => ?_))
  refine Pv (T_nil (W_ret ?_))
  refine ⟨_, ⟨_, _, _, rfl, rfl, run_loadVarA rfl rfl (qV_sz (q_len lr32 lr32 rfl)) (S102.cells 1 rfl), ⟨_, _, rfl, rfl, rfl⟩⟩, ?_⟩
  refine ⟨rs_no (fun hq => ?_), S102.below⟩
  obtain ⟨⟨q0, q1, q2⟩, ⟨q3, q4, q5⟩, ⟨q6, q7⟩, q8, q9, q10⟩ := hq
  first | exact h100 q0 | exact h100 q1 | exact h100 q2 | exact h100 q3 | exact h100 q4 | exact h100 q5 | exact h100 q8 | omega | exact nb_x h100 q10 | (have q11 := (q9 k (by omega)).1; omega) | exact h100 (by rw [q3, q5]; exact (q9 k (by omega)).2) | exact h100 (q9 k (by omega)).2
 refine W_skip (W_seq ?_)
 have hF := h79
 unfold FileP at hF
 refine W_region (Fl 2 ?_)
 refine Am 0 2 S84 qV_2 ?_
 refine Pv (T_nil (W_seq (Wr ?_)))
 refine Fl 3 ?_
 refine Am 2 3 S84 rfl ?_
 iterate 2 refine Pv ?_
 refine T_nil (W_block ?_)
 refine W_loop (fun M ρ w' => ∃ (k : Nat) (G103 : Hp), M = B.length - k ∧ k ≤ B.length ∧ BlkOk (uN u 0) (uN u 2) B k ∧ ρ = [(3, .pointer (some ⟨b54, 0, none⟩)), (4, .pointer (some ⟨b57, 0, none⟩)), (6, .pointer (some ⟨b63, 0, none⟩)), (8, .int .i64 (uN u 2 - ((k : Nat) : Int) * 64)), (69, .slice a3 B.length c3), (70, .int .i64 ((B.length : Nat) : Int)), (71, .int .i64 (k : Int))] ∧ G69.le G103 ∧ St w H G103 [.blk b63 (qV (uN u 0) (uN u 1) (uN u 2) (uN u 3) (uH u 4) (uH u 5) : Value).cells 39, .blk b57 (qV 0 0 0 0 (List.replicate 32 0) (List.replicate 32 0) : Value).cells 39, .blk b54 (.agg #[.int .i64 sn, .slice a1 u.length c1, .slice a2 p.length c2, .slice a3 B.length c3] : Value).cells 37] w')
  (B.length - 0) [(3, .pointer (some ⟨b54, 0, none⟩)), (4, .pointer (some ⟨b57, 0, none⟩)), (6, .pointer (some ⟨b63, 0, none⟩)), (8, .int .i64 (uN u 2 - ((0 : Nat) : Int) * 64)), (69, .slice a3 B.length c3), (70, .int .i64 ((B.length : Nat) : Int)), (71, .int .i64 ((0 : Nat) : Int))] ⟨rfl, rfl, rfl, ciI, rfl, ciI, ciI, trivial⟩ ⟨0, G69, rfl, (by omega), (by exact BlkOk.zero _ _ _), rfl, Hp.le.refl _, S84⟩ ?_
 rintro M ρ w105 ⟨k, G103, rfl, hp107, hblk, rfl, hl104, S106⟩
 refine Wr (Pv (T_nil (W_seq ?_)))
 refine Aa (fun h109 => ?_) (fun h109 => ?_)
 ·refine W_skip (W_seq (W_block (Wr ?_)))
  obtain ⟨hs113, r114, r115⟩ := (h3.mono (hl70.trans hl104))
  refine Ag k r114 fun b110 o111 hc112 => ?_
  obtain ⟨a118, c119, hc121, hv117, r120⟩ := r115.at k (by omega)
  have hc122 := hc112 0 (.slice a118 (B.getD k []).length c119) (by simpa using hv117)
  simp only [Nat.add_zero] at hc122
  refine Ac S106 hc122 ?_
  refine Pv (T_nil (W_seq (Wr ?_)))
  iterate 3 refine Pv ?_
  refine Tp 77 (fun h123' => ?_) (fun h123' => ?_)
  ·have h123 := of_decide_eq_true h123'
   iterate 8 refine No ?_
   refine Pv (T_nil ?_)
   refine W_cond_true rfl (Wr (T_buildS (cells := (qz32 : Value).cells) rfl rfl rfl rfl rfl rfl rfl rfl rfl rfl (Ah (hl := by exact qV_sz (q_len lr32 lr32 rfl)) (hl2 := by exact qV_sz (q_len lr32 lr32 rfl)) (h1 := by exact qV_one) 1 S106 fun w124 S125 => ?_)))
   refine Pv (T_nil (W_ret ?_))
   refine ⟨_, ⟨_, _, _, rfl, rfl, run_loadVarA rfl rfl (qV_sz (q_len lr32 lr32 rfl)) (S125.cells 1 rfl), ⟨_, _, rfl, rfl, rfl⟩⟩, ?_⟩
   refine ⟨rs_no (fun hq => ?_), S125.below⟩
   obtain ⟨⟨q0, q1, q2⟩, ⟨q3, q4, q5⟩, ⟨q6, q7⟩, q8, q9, q10⟩ := hq
   first | exact h123 q0 | exact h123 q1 | exact h123 q2 | exact h123 q3 | exact h123 q4 | exact h123 q5 | exact h123 q8 | omega | exact nb_x h123 q10 | (have q11 := (q9 k (by omega)).1; omega) | exact h123 (by rw [q3, q5]; exact (q9 k (by omega)).2) | exact h123 (q9 k (by omega)).2
  have h123 := of_decide_eq_false h123'
  iterate 2 (refine Ys ?_; refine Pv ?_)
  refine Ys ?_
  refine Fl 0 ?_
  refine Ys ?_
  refine Am 0 0 S106 qV_0 ?_
  iterate 2 (refine Ys ?_; refine Pv ?_)
  refine Ys ?_
  refine Cs g_aumbry_layout_length ((length_ok S106.le (uN u 0) (min (uN u 2 - ((k : Nat) : Int) * 64) (64 : Int)) (by omega)).mono ?_)
  rintro e w127 ⟨rfl, hB126⟩
  have S128 := S106.call hB126
  refine ⟨_, rfl, trivial, ?_⟩
  refine Ys ?_
  iterate 2 refine Pv ?_
  refine T_nil (W_cond_not rfl (fun h129 => ?_) (fun h129 => ?_))
  ·refine Wr (T_buildS (cells := (qz32 : Value).cells) rfl rfl rfl rfl rfl rfl rfl rfl rfl rfl (Ah (hl := by exact qV_sz (q_len lr32 lr32 rfl)) (hl2 := by exact qV_sz (q_len lr32 lr32 rfl)) (h1 := by exact qV_one) 1 S128 fun w130 S131 => ?_))
   refine Pv (T_nil (W_ret ?_))
   refine ⟨_, ⟨_, _, _, rfl, rfl, run_loadVarA rfl rfl (qV_sz (q_len lr32 lr32 rfl)) (S131.cells 1 rfl), ⟨_, _, rfl, rfl, rfl⟩⟩, ?_⟩
   refine ⟨rs_no (fun hq => ?_), S131.below⟩
   obtain ⟨⟨q0, q1, q2⟩, ⟨q3, q4, q5⟩, ⟨q6, q7⟩, q8, q9, q10⟩ := hq
   first | exact h129 q0 | exact h129 q1 | exact h129 q2 | exact h129 q3 | exact h129 q4 | exact h129 q5 | exact h129 q8 | omega | exact nb_x h129 q10 | (have q11 := (q9 k (by omega)).1; omega) | exact h129 (by rw [q3, q5]; exact (q9 k (by omega)).2) | exact h129 (q9 k (by omega)).2
  refine W_skip (W_region (Pv ?_))
  refine Ar ?_
  refine Pv (T_nil (W_region ?_))
  refine Ar ?_
  refine Pv (T_nil ?_)
  have HLEN := h129
  exact ⟨B.length - (k + 1), [(3, .pointer (some ⟨b54, 0, none⟩)), (4, .pointer (some ⟨b57, 0, none⟩)), (6, .pointer (some ⟨b63, 0, none⟩)), (8, .int .i64 (uN u 2 - ((k + 1 : Nat) : Int) * 64)), (69, .slice a3 B.length c3), (70, .int .i64 ((B.length : Nat) : Int)), (71, .int .i64 ((k + 1 : Nat) : Int))], by omega, ⟨rfl, rfl, rfl, ciI, rfl, ciI, ciI, trivial⟩, k + 1, G103, rfl, (by omega), (by exact hblk.step (by omega) HLEN), rfl, hl104, S128⟩
 refine W_exit ?_
 iterate 2 refine W_seq ?_
 obtain ⟨G133, hl134, S132, r135⟩ := S106.stillBlk 0 rfl
 obtain ⟨G137, hl138, S136, r139⟩ := S132.stillBlk 1 rfl
 refine W_plan (planF Tryz.prog G137 [95, 97, 99, 103]) rfl (by kernel_rfl) S136.le ?_
 have S140 := S136.drew
 iterate 3 refine Pv ?_
 refine Tp 93 (fun h141' => ?_) (fun h141' => ?_)
 ·have h141 := of_decide_eq_true h141'
  iterate 12 refine No ?_
  refine Pv (T_nil ?_)
  refine W_cond_true rfl (Wr (T_buildS (cells := (qz32 : Value).cells) rfl rfl rfl rfl rfl rfl rfl rfl rfl rfl (Ah (hl := by exact qV_sz (q_len lr32 lr32 rfl)) (hl2 := by exact qV_sz (q_len lr32 lr32 rfl)) (h1 := by exact qV_one) 0 S140 fun w142 S143 => ?_)))
  refine Pv (T_nil (W_ret ?_))
  refine ⟨_, ⟨_, _, _, rfl, rfl, run_loadVarA rfl rfl (qV_sz (q_len lr32 lr32 rfl)) (S143.cells 0 rfl), ⟨_, _, rfl, rfl, rfl⟩⟩, ?_⟩
  refine ⟨rs_no (fun hq => ?_), S143.below⟩
  obtain ⟨⟨q0, q1, q2⟩, ⟨q3, q4, q5⟩, ⟨q6, q7⟩, q8, q9, q10⟩ := hq
  first | exact h141 q0 | exact h141 q1 | exact h141 q2 | exact h141 q3 | exact h141 q4 | exact h141 q5 | exact h141 q8 | omega | exact nb_x h141 q10 | (have q11 := (q9 k (by omega)).1; omega) | exact h141 (by rw [q3, q5]; exact (q9 k (by omega)).2) | exact h141 (q9 k (by omega)).2
 have h141 := of_decide_eq_false h141'
 refine Ys ?_
 refine Fl 36 ?_
 refine Ys ?_
 refine T_loadGAP _ (fun _ h => h) (still_part (hl138 _ _ r135) (qV_t (by rw [(uH4 _)]))) rfl rfl rfl rfl rfl rfl rfl rfl (hVs (uH5 _)) ?_
 refine Ys ?_
 refine Fl 1 ?_
 refine Ys ?_
 refine T_loadGP (fun _ h => h) (still_cell (hl138 _ _ r135) qV_1) rfl rfl rfl rfl rfl rfl rfl (Ys ?_)
 refine Fl 0 ?_
 refine Ys ?_
 refine Aj (still_cell r139 rfl) ?_
 refine Ys ?_
 refine T_loadGA _ S140 (still_cells r139) rfl rfl rfl rfl rfl rfl rfl rfl (by first | rfl | simp [hVs, *]) ?_
 refine Ys ?_
 refine Cs g_aumbry_layout_ShareLeaf ((shareLeaf_ok S140.le (hT.mono (hl70.trans (hl104.trans (hl134.trans hl138)))) sn (h1.mono (hl70.trans (hl104.trans (hl134.trans hl138)))) (h2.mono (hl70.trans (hl104.trans (hl134.trans hl138)))) (h3.mono (hl70.trans (hl104.trans (hl134.trans hl138)))) (by omega) HX1).mono ?_)
 rintro e w145 ⟨rfl, hB144⟩
 have S146 := S140.call hB144
 refine ⟨_, rfl, (((Hp.le.refl _)).trans S146.le), ?_⟩
 refine Ys ?_
 refine Fl 2 ?_
 refine Ys ?_
 refine Aj (still_cell r139 rfl) ?_
 refine Ys ?_
 refine Cs g_aumbry_tree_Check ((check_ok S146.le (hT.mono (hl70.trans (hl104.trans (hl134.trans hl138)))) (uH5 _) (uN u 1) sn (root_len (leavesH_all _ _)) (h2.mono (hl70.trans (hl104.trans (hl134.trans hl138))))).mono ?_)
 rintro e w148 ⟨rfl, hB147⟩
 have S149 := S146.call hB147
 refine ⟨_, rfl, (((Hp.le.refl _)).trans S149.le), ?_⟩
 refine Ys ?_
 iterate 2 refine Pv ?_
 refine T_nil (W_cond rfl (fun h150 => ?_) (fun h150 => ?_))
 ·refine Wr (T_buildS (cells := (qz32 : Value).cells) rfl rfl rfl rfl rfl rfl rfl rfl rfl rfl (Ah (hl := by exact qV_sz (q_len lr32 lr32 rfl)) (hl2 := by exact qV_sz (q_len lr32 lr32 rfl)) (h1 := by exact qV_one) 0 S149 fun w151 S152 => ?_))
  refine Pv (T_nil (W_ret ?_))
  refine ⟨_, ⟨_, _, _, rfl, rfl, run_loadVarA rfl rfl (qV_sz (q_len lr32 lr32 rfl)) (S152.cells 0 rfl), ⟨_, _, rfl, rfl, rfl⟩⟩, ?_⟩
  refine ⟨rs_no (fun hq => ?_), S152.below⟩
  obtain ⟨⟨q0, q1, q2⟩, ⟨q3, q4, q5⟩, ⟨q6, q7⟩, q8, q9, q10⟩ := hq
  first | exact h150 q0 | exact h150 q1 | exact h150 q2 | exact h150 q3 | exact h150 q4 | exact h150 q5 | exact h150 q8 | omega | exact nb_x h150 q10 | (have q11 := (q9 k (by omega)).1; omega) | exact h150 (by rw [q3, q5]; exact (q9 k (by omega)).2) | exact h150 (q9 k (by omega)).2
 refine W_skip (Wr (T_loadGA _ S149 (still_cells (hl138 _ _ r135)) rfl rfl rfl rfl rfl rfl rfl rfl (qV_sz (q_len (uH4 _) (uH5 _) rfl)) (Ah (hl := by exact qV_sz (q_len (uH4 _) (uH5 _) rfl)) (hl2 := by exact qV_sz (q_len (uH4 _) (uH5 _) rfl)) (h1 := by exact qV_one) 0 S149 fun w153 S154 => ?_)))
 refine Pv (T_nil (W_ret ?_))
 refine ⟨_, ⟨_, _, _, rfl, rfl, run_loadVarA rfl rfl (qV_sz (q_len (uH4 _) (uH5 _) rfl)) (S154.cells 0 rfl), ⟨_, _, rfl, rfl, rfl⟩⟩, ?_⟩
 have hl1 := (hblk (k - 1) (by omega)).1
 exact ⟨rs_yes ⟨⟨h73, h79, h85⟩, ⟨h88, h91, h94⟩, ⟨by omega, by omega⟩, by omega, by rw [← h88, ← h94, show B.length = k by omega]; exact hblk, nb_f h150⟩, S154.below⟩


set_option maxHeartbeats 1000000 in
theorem rightSR_ok {H : Hp} {w : World} (hH : H.le (hw w)) (kd ck cn cz : Int) {ky fp L : List UInt8} (hky : ky.length = 16) (hfp : fp.length = 32) {acp : Option Addr} {ncp ccp : Nat} (hcap : Rd H (.slice acp ncp ccp) ncp 1 (L.map bV)) (sn : Int) {u : List UInt8} {p B : List (List UInt8)} {a1 a2 a3 : Option Addr} {n1 n2 n3 c1 c2 c3 : Nat} (h1 : Rd H (.slice a1 n1 c1) n1 1 (u.map bV)) (h2 : RdH H (.slice a2 n2 c2) 32 p) (h3 : RdL H (.slice a3 n3 c3) B) (hu : u.length ≤ 200) (hp : p.length ≤ 6) (hB : B.length ≤ 20) (HX1 : ∀ x ∈ B, x.length < 1000) :
  Calls Tryz.prog 11 #[gV [[.int .i64 kd], ky.map bV, fp.map bV, [.int .i64 ck], [.int .i64 cn], [.int .i64 cz], [.slice acp ncp ccp]], .agg #[.int .i64 sn, .slice a1 n1 c1, .slice a2 n2 c2, .slice a3 n3 c3]] w fun e w' => e = .returned (.tuple #[qV (rsN (decide (RsOk kd ck cn cz L fp sn u p B)) u 0) (rsN (decide (RsOk kd ck cn cz L fp sn u p B)) u 1) (rsN (decide (RsOk kd ck cn cz L fp sn u p B)) u 2) (rsN (decide (RsOk kd ck cn cz L fp sn u p B)) u 3) (rsH (decide (RsOk kd ck cn cz L fp sn u p B)) u 4) (rsH (decide (RsOk kd ck cn cz L fp sn u p B)) u 5), .bool (decide (RsOk kd ck cn cz L fp sn u p B))]) ∧ Below w.heap.size w w' := by
 obtain rfl : ncp = L.length := hcap.lenB
 obtain rfl : n1 = u.length := h1.lenB
 obtain rfl : n2 = p.length := h2.len
 obtain rfl : n3 = B.length := h3.len
 refine enter2 _ Tryz.func11 rfl Tryz.ntmps11 Tryz.results11 rfl ?_
 have S0 := St.start w hH
 refine Wr (Al S0 fun b51 w52 S53 => ?_)
 refine Al S53 fun b54 w55 S56 => ?_
 refine Ad S56 fun b57 w58 S59 => ?_
 refine Pv (T_nil ?_)
 iterate 2 refine W_seq ?_
 obtain ⟨G61, hl62, S60, r63⟩ := S59.stillBlk 2 rfl
 refine W_plan (planF Tryz.prog G61 [17]) rfl (by kernel_rfl) S60.le ?_
 have S64 := S60.drew
 refine T_loadGA _ S64 (still_cells r63) rfl rfl rfl rfl rfl rfl rfl rfl (gV_size (L := [[.int .i64 kd], ky.map bV, fp.map bV, [.int .i64 ck], [.int .i64 cn], [.int .i64 cz], [.slice acp L.length ccp]]) (shCp hky hfp) rfl) (Cs g_aumbry_aumbryref13_IsFile ((isFile_ok S64.le kd ck cn cz hky hfp (hcap.mono hl62)).mono ?_))
 rintro e w66 ⟨rfl, hB65⟩
 have S67 := S64.call hB65
 refine ⟨_, rfl, (((Hp.le.refl _)).trans S67.le), ?_⟩
 iterate 2 refine Pv ?_
 refine Tp 12 (fun h68' => ?_) (fun h68' => ?_)
 ·have h68 := of_ndec_t h68'
  iterate 6 refine No ?_
  refine Pv (T_nil ?_)
  refine W_cond_true rfl (Wr (T_buildS (cells := (qz32 : Value).cells) rfl rfl rfl rfl rfl rfl rfl rfl rfl rfl (Ah (hl := by exact qV_sz (q_len lr32 lr32 rfl)) (hl2 := by exact qV_sz (q_len lr32 lr32 rfl)) (h1 := by exact qV_one) 0 S67 fun w69 S70 => ?_)))
  refine Pv (T_nil (W_ret ?_))
  refine ⟨_, ⟨_, _, _, rfl, rfl, run_loadVarA rfl rfl (qV_sz (q_len lr32 lr32 rfl)) (S70.cells 0 rfl), ⟨_, _, rfl, rfl, rfl⟩⟩, ?_⟩
  refine ⟨rs_no (fun hq => ?_), S70.below⟩
  obtain ⟨⟨q0, q1, q2⟩, ⟨q3, q4, q5⟩, ⟨q6, q7⟩, q8, q9, q10⟩ := hq
  first | exact h68 q0 | exact h68 q1 | exact h68 q2 | exact h68 q3 | exact h68 q4 | exact h68 q5 | exact h68 q8 | omega | exact nb_x h68 q10 | (have q11 := (q9 k (by omega)).1; omega) | exact h68 (by rw [q3, q5]; exact (q9 k (by omega)).2) | exact h68 (q9 k (by omega)).2
 have h68 := of_ndec_f h68'
 refine Ys ?_
 refine Fl 1 ?_
 refine Ys ?_
 refine Am 1 1 S67 rfl ?_
 refine Ys ?_
 refine T_callS rfl rfl g_aumbry_aumbryref13_PrintUeb rfl rfl rfl rfl ((printR_ok S67.le (h1.mono hl62) (by first | omega | decide)).mono ?_)
 rintro e w72 ⟨rfl, hB71⟩
 have S73 := S67.call hB71
 refine ⟨_, rfl, (((Hp.le.refl _)).trans S73.le), ?_⟩
 refine Ys ?_
 refine Fl 17 ?_
 refine Ys ?_
 refine T_loadGAP (hV fp : Value).cells (fun _ h => h) (still_part r63 (gV_sub (shCp hky hfp) 2 1 (c := fp.map bV) (flat1) rfl)) rfl rfl rfl rfl rfl rfl rfl rfl (hVs hfp) (Ys ?_)
 refine T_neB (xs := tagged [117, 101, 98] [u]) (ys := fp) rfl rfl rfl rfl rfl rfl rfl rfl rfl rfl rfl (tagged_len _ _) hfp (Pv (T_nil ?_))
 refine W_cond_not rfl (fun h74 => ?_) (fun h74 => ?_)
 ·refine Wr (T_buildS (cells := (qz32 : Value).cells) rfl rfl rfl rfl rfl rfl rfl rfl rfl rfl (Ah (hl := by exact qV_sz (q_len lr32 lr32 rfl)) (hl2 := by exact qV_sz (q_len lr32 lr32 rfl)) (h1 := by exact qV_one) 0 S73 fun w75 S76 => ?_))
  refine Pv (T_nil (W_ret ?_))
  refine ⟨_, ⟨_, _, _, rfl, rfl, run_loadVarA rfl rfl (qV_sz (q_len lr32 lr32 rfl)) (S76.cells 0 rfl), ⟨_, _, rfl, rfl, rfl⟩⟩, ?_⟩
  refine ⟨rs_no (fun hq => ?_), S76.below⟩
  obtain ⟨⟨q0, q1, q2⟩, ⟨q3, q4, q5⟩, ⟨q6, q7⟩, q8, q9, q10⟩ := hq
  first | exact h74 q0 | exact h74 q1 | exact h74 q2 | exact h74 q3 | exact h74 q4 | exact h74 q5 | exact h74 q8 | omega | exact nb_x h74 q10 | (have q11 := (q9 k (by omega)).1; omega) | exact h74 (by rw [q3, q5]; exact (q9 k (by omega)).2) | exact h74 (q9 k (by omega)).2
 refine W_skip (W_seq ?_)
 have hF := h68
 unfold FileP at hF
 refine W_region (Fl 1 ?_)
 refine Am 1 1 S73 rfl ?_
 refine T_callS rfl rfl g_aumbry_aumbryref13_Unpack rfl rfl rfl rfl ((unpackUR_ok S73.le (h1.mono hl62) (by first | omega | decide)).mono ?_)
 rintro e w78 ⟨rfl, hB77⟩
 have S79 := S73.call hB77
 refine ⟨_, rfl, trivial, ?_⟩
 iterate 3 refine Pv ?_
 refine Ad S79 fun b80 w81 S82 => ?_
 refine Ah (hl := by exact qV_sz (q_len (uH4 _) (uH5 _) rfl)) (hl2 := by exact qV_sz (q_len (uH4 _) (uH5 _) rfl)) (h1 := by exact qV_one) 0 S82 fun w83 S84 => ?_
 refine Pv (T_nil ?_)
 iterate 2 refine W_seq ?_
 obtain ⟨G86, hl87, S85, r88⟩ := S84.stillBlk 2 rfl
 refine W_plan (planF Tryz.prog G86 [64]) rfl (by kernel_rfl) S85.le ?_
 have S89 := S85.drew
 iterate 3 refine Pv ?_
 refine Tp 29 (fun h90' => ?_) (fun h90' => ?_)
 ·have h90 := of_ndec_t h90'
  iterate 5 refine No ?_
  iterate 2 refine Pv ?_
  iterate 5 refine No ?_
  iterate 2 refine Pv ?_
  iterate 5 refine No ?_
  iterate 2 (refine Pv ?_; refine Pv ?_; refine No ?_; refine No ?_; refine No ?_)
  iterate 2 refine No ?_
  iterate 2 refine Pv ?_
  iterate 7 refine No ?_
  refine Pv (T_nil ?_)
  refine W_cond_true rfl (Wr (T_buildS (cells := (qz32 : Value).cells) rfl rfl rfl rfl rfl rfl rfl rfl rfl rfl (Ah (hl := by exact qV_sz (q_len lr32 lr32 rfl)) (hl2 := by exact qV_sz (q_len lr32 lr32 rfl)) (h1 := by exact qV_one) 1 S89 fun w91 S92 => ?_)))
  refine Pv (T_nil (W_ret ?_))
  refine ⟨_, ⟨_, _, _, rfl, rfl, run_loadVarA rfl rfl (qV_sz (q_len lr32 lr32 rfl)) (S92.cells 1 rfl), ⟨_, _, rfl, rfl, rfl⟩⟩, ?_⟩
  refine ⟨rs_no (fun hq => ?_), S92.below⟩
  obtain ⟨⟨q0, q1, q2⟩, ⟨q3, q4, q5⟩, ⟨q6, q7⟩, q8, q9, q10⟩ := hq
  first | exact h90 q0 | exact h90 q1 | exact h90 q2 | exact h90 q3 | exact h90 q4 | exact h90 q5 | exact h90 q8 | omega | exact nb_x h90 q10 | (have q11 := (q9 k (by omega)).1; omega) | exact h90 (by rw [q3, q5]; exact (q9 k (by omega)).2) | exact h90 (q9 k (by omega)).2
 have h90 := of_ndec_f h90'
 refine Ys ?_
 refine Fl 0 ?_
 refine Ys ?_
 refine Am 0 0 S89 qV_0 ?_
 refine Ys ?_
 refine Fl 49 ?_
 refine Ys ?_
 refine T_loadG S89 (still_cell (hl87 _ _ r63) (gV_cell (shCp hky hfp) 3 rfl rfl)) rfl rfl rfl rfl rfl rfl rfl (Ys ?_)
 iterate 3 refine Pv ?_
 refine Tp 36 (fun h93' => ?_) (fun h93' => ?_)
 ·have h93 := of_ndec_t h93'
  iterate 5 refine No ?_
  iterate 2 refine Pv ?_
  iterate 5 refine No ?_
  iterate 2 (refine Pv ?_; refine Pv ?_; refine No ?_; refine No ?_; refine No ?_)
  iterate 2 refine No ?_
  iterate 2 refine Pv ?_
  iterate 7 refine No ?_
  refine Pv (T_nil ?_)
  refine W_cond_true rfl (Wr (T_buildS (cells := (qz32 : Value).cells) rfl rfl rfl rfl rfl rfl rfl rfl rfl rfl (Ah (hl := by exact qV_sz (q_len lr32 lr32 rfl)) (hl2 := by exact qV_sz (q_len lr32 lr32 rfl)) (h1 := by exact qV_one) 1 S89 fun w94 S95 => ?_)))
  refine Pv (T_nil (W_ret ?_))
  refine ⟨_, ⟨_, _, _, rfl, rfl, run_loadVarA rfl rfl (qV_sz (q_len lr32 lr32 rfl)) (S95.cells 1 rfl), ⟨_, _, rfl, rfl, rfl⟩⟩, ?_⟩
  refine ⟨rs_no (fun hq => ?_), S95.below⟩
  obtain ⟨⟨q0, q1, q2⟩, ⟨q3, q4, q5⟩, ⟨q6, q7⟩, q8, q9, q10⟩ := hq
  first | exact h93 q0 | exact h93 q1 | exact h93 q2 | exact h93 q3 | exact h93 q4 | exact h93 q5 | exact h93 q8 | omega | exact nb_x h93 q10 | (have q11 := (q9 k (by omega)).1; omega) | exact h93 (by rw [q3, q5]; exact (q9 k (by omega)).2) | exact h93 (q9 k (by omega)).2
 have h93 := of_ndec_f h93'
 refine Ys ?_
 refine Fl 1 ?_
 refine Ys ?_
 refine Am 0 1 S89 qV_1 ?_
 refine Ys ?_
 refine Fl 50 ?_
 refine Ys ?_
 refine T_loadG S89 (still_cell (hl87 _ _ r63) (gV_cell (shCp hky hfp) 4 rfl rfl)) rfl rfl rfl rfl rfl rfl rfl (Ys ?_)
 iterate 3 refine Pv ?_
 refine Tp 43 (fun h96' => ?_) (fun h96' => ?_)
 ·have h96 := of_ndec_t h96'
  iterate 5 refine No ?_
  iterate 2 (refine Pv ?_; refine Pv ?_; refine No ?_; refine No ?_; refine No ?_)
  iterate 2 refine No ?_
  iterate 2 refine Pv ?_
  iterate 7 refine No ?_
  refine Pv (T_nil ?_)
  refine W_cond_true rfl (Wr (T_buildS (cells := (qz32 : Value).cells) rfl rfl rfl rfl rfl rfl rfl rfl rfl rfl (Ah (hl := by exact qV_sz (q_len lr32 lr32 rfl)) (hl2 := by exact qV_sz (q_len lr32 lr32 rfl)) (h1 := by exact qV_one) 1 S89 fun w97 S98 => ?_)))
  refine Pv (T_nil (W_ret ?_))
  refine ⟨_, ⟨_, _, _, rfl, rfl, run_loadVarA rfl rfl (qV_sz (q_len lr32 lr32 rfl)) (S98.cells 1 rfl), ⟨_, _, rfl, rfl, rfl⟩⟩, ?_⟩
  refine ⟨rs_no (fun hq => ?_), S98.below⟩
  obtain ⟨⟨q0, q1, q2⟩, ⟨q3, q4, q5⟩, ⟨q6, q7⟩, q8, q9, q10⟩ := hq
  first | exact h96 q0 | exact h96 q1 | exact h96 q2 | exact h96 q3 | exact h96 q4 | exact h96 q5 | exact h96 q8 | omega | exact nb_x h96 q10 | (have q11 := (q9 k (by omega)).1; omega) | exact h96 (by rw [q3, q5]; exact (q9 k (by omega)).2) | exact h96 (q9 k (by omega)).2
 have h96 := of_ndec_f h96'
 refine Ys ?_
 refine Fl 2 ?_
 refine Ys ?_
 refine Am 0 2 S89 qV_2 ?_
 refine Ys ?_
 refine Fl 51 ?_
 refine Ys ?_
 refine T_loadG S89 (still_cell (hl87 _ _ r63) (gV_cell (shCp hky hfp) 5 rfl rfl)) rfl rfl rfl rfl rfl rfl rfl (Ys ?_)
 iterate 3 refine Pv ?_
 refine Tp 50 (fun h99' => ?_) (fun h99' => ?_)
 ·have h99 := of_ndec_t h99'
  iterate 3 refine No ?_
  iterate 2 refine Pv ?_
  iterate 5 refine No ?_
  iterate 2 refine Pv ?_
  iterate 7 refine No ?_
  refine Pv (T_nil ?_)
  refine W_cond_true rfl (Wr (T_buildS (cells := (qz32 : Value).cells) rfl rfl rfl rfl rfl rfl rfl rfl rfl rfl (Ah (hl := by exact qV_sz (q_len lr32 lr32 rfl)) (hl2 := by exact qV_sz (q_len lr32 lr32 rfl)) (h1 := by exact qV_one) 1 S89 fun w100 S101 => ?_)))
  refine Pv (T_nil (W_ret ?_))
  refine ⟨_, ⟨_, _, _, rfl, rfl, run_loadVarA rfl rfl (qV_sz (q_len lr32 lr32 rfl)) (S101.cells 1 rfl), ⟨_, _, rfl, rfl, rfl⟩⟩, ?_⟩
  refine ⟨rs_no (fun hq => ?_), S101.below⟩
  obtain ⟨⟨q0, q1, q2⟩, ⟨q3, q4, q5⟩, ⟨q6, q7⟩, q8, q9, q10⟩ := hq
  first | exact h99 q0 | exact h99 q1 | exact h99 q2 | exact h99 q3 | exact h99 q4 | exact h99 q5 | exact h99 q8 | omega | exact nb_x h99 q10 | (have q11 := (q9 k (by omega)).1; omega) | exact h99 (by rw [q3, q5]; exact (q9 k (by omega)).2) | exact h99 (q9 k (by omega)).2
 have h99 := of_ndec_f h99'
 refine Ys ?_
 refine Fl 0 ?_
 refine Ys ?_
 refine Ac S89 (still_cell r88 rfl) ?_
 refine Ys ?_
 iterate 3 refine Pv ?_
 refine Tp 55 (fun h102' => ?_) (fun h102' => ?_)
 ·have h102 := of_decide_eq_true h102'
  iterate 5 refine No ?_
  iterate 2 refine Pv ?_
  iterate 7 refine No ?_
  refine Pv (T_nil ?_)
  refine W_cond_true rfl (Wr (T_buildS (cells := (qz32 : Value).cells) rfl rfl rfl rfl rfl rfl rfl rfl rfl rfl (Ah (hl := by exact qV_sz (q_len lr32 lr32 rfl)) (hl2 := by exact qV_sz (q_len lr32 lr32 rfl)) (h1 := by exact qV_one) 1 S89 fun w103 S104 => ?_)))
  refine Pv (T_nil (W_ret ?_))
  refine ⟨_, ⟨_, _, _, rfl, rfl, run_loadVarA rfl rfl (qV_sz (q_len lr32 lr32 rfl)) (S104.cells 1 rfl), ⟨_, _, rfl, rfl, rfl⟩⟩, ?_⟩
  refine ⟨rs_no (fun hq => ?_), S104.below⟩
  obtain ⟨⟨q0, q1, q2⟩, ⟨q3, q4, q5⟩, ⟨q6, q7⟩, q8, q9, q10⟩ := hq
  first | exact h102 q0 | exact h102 q1 | exact h102 q2 | exact h102 q3 | exact h102 q4 | exact h102 q5 | exact h102 q8 | omega | exact nb_x h102 q10 | (have q11 := (q9 k (by omega)).1; omega) | exact h102 (by rw [q3, q5]; exact (q9 k (by omega)).2) | exact h102 (q9 k (by omega)).2
 have h102 := of_decide_eq_false h102'
 refine Ys ?_
 refine Fl 0 ?_
 refine Ys ?_
 refine Ac S89 (still_cell r88 rfl) ?_
 refine Ys ?_
 refine Fl 50 ?_
 refine Ys ?_
 refine T_loadG S89 (still_cell (hl87 _ _ r63) (gV_cell (shCp hky hfp) 4 rfl rfl)) rfl rfl rfl rfl rfl rfl rfl (Ys ?_)
 iterate 3 refine Pv ?_
 refine Tp 62 (fun h105' => ?_) (fun h105' => ?_)
 ·have h105 := of_decide_eq_true h105'
  iterate 7 refine No ?_
  refine Pv (T_nil ?_)
  refine W_cond_true rfl (Wr (T_buildS (cells := (qz32 : Value).cells) rfl rfl rfl rfl rfl rfl rfl rfl rfl rfl (Ah (hl := by exact qV_sz (q_len lr32 lr32 rfl)) (hl2 := by exact qV_sz (q_len lr32 lr32 rfl)) (h1 := by exact qV_one) 1 S89 fun w106 S107 => ?_)))
  refine Pv (T_nil (W_ret ?_))
  refine ⟨_, ⟨_, _, _, rfl, rfl, run_loadVarA rfl rfl (qV_sz (q_len lr32 lr32 rfl)) (S107.cells 1 rfl), ⟨_, _, rfl, rfl, rfl⟩⟩, ?_⟩
  refine ⟨rs_no (fun hq => ?_), S107.below⟩
  obtain ⟨⟨q0, q1, q2⟩, ⟨q3, q4, q5⟩, ⟨q6, q7⟩, q8, q9, q10⟩ := hq
  first | exact h105 q0 | exact h105 q1 | exact h105 q2 | exact h105 q3 | exact h105 q4 | exact h105 q5 | exact h105 q8 | omega | exact nb_x h105 q10 | (have q11 := (q9 k (by omega)).1; omega) | exact h105 (by rw [q3, q5]; exact (q9 k (by omega)).2) | exact h105 (q9 k (by omega)).2
 have h105 := of_decide_eq_false h105'
 refine Ys ?_
 refine Fl 3 ?_
 refine Ys ?_
 refine Aj (still_cell r88 rfl) ?_
 refine Ys ?_
 refine Pv ?_
 refine Ys ?_
 refine Fl 51 ?_
 refine Ys ?_
 refine T_loadG S89 (still_cell (hl87 _ _ r63) (gV_cell (shCp hky hfp) 5 rfl rfl)) rfl rfl rfl rfl rfl rfl rfl (Ys ?_)
 refine Cs g_aumbry_aumbryref13_Segments ((segments_ok S89.le cz (by omega)).mono ?_)
 rintro e w109 ⟨rfl, hB108⟩
 have S110 := S89.call hB108
 refine ⟨_, rfl, (((Hp.le.refl _)).trans S110.le), ?_⟩
 refine Ys ?_
 iterate 2 refine Pv ?_
 refine T_nil (W_cond_not rfl (fun h111 => ?_) (fun h111 => ?_))
 ·refine Wr (T_buildS (cells := (qz32 : Value).cells) rfl rfl rfl rfl rfl rfl rfl rfl rfl rfl (Ah (hl := by exact qV_sz (q_len lr32 lr32 rfl)) (hl2 := by exact qV_sz (q_len lr32 lr32 rfl)) (h1 := by exact qV_one) 1 S110 fun w112 S113 => ?_))
  refine Pv (T_nil (W_ret ?_))
  refine ⟨_, ⟨_, _, _, rfl, rfl, run_loadVarA rfl rfl (qV_sz (q_len lr32 lr32 rfl)) (S113.cells 1 rfl), ⟨_, _, rfl, rfl, rfl⟩⟩, ?_⟩
  refine ⟨rs_no (fun hq => ?_), S113.below⟩
  obtain ⟨⟨q0, q1, q2⟩, ⟨q3, q4, q5⟩, ⟨q6, q7⟩, q8, q9, q10⟩ := hq
  first | exact h111 q0 | exact h111 q1 | exact h111 q2 | exact h111 q3 | exact h111 q4 | exact h111 q5 | exact h111 q8 | omega | exact nb_x h111 q10 | (have q11 := (q9 k (by omega)).1; omega) | exact h111 (by rw [q3, q5]; exact (q9 k (by omega)).2) | exact h111 (q9 k (by omega)).2
 refine W_skip (W_seq (Wr (Fl 3 ?_)))
 refine Ac S110 (still_cell r88 rfl) ?_
 iterate 2 refine Pv ?_
 refine T_nil (W_block ?_)
 refine W_loop (fun M ρ w' => ∃ (k : Nat) (G114 : Hp), M = B.length - k ∧ k ≤ B.length ∧ BlkOk ck cz B k ∧ ρ = [(2, .pointer (some ⟨b51, 0, none⟩)), (3, .pointer (some ⟨b54, 0, none⟩)), (4, .pointer (some ⟨b57, 0, none⟩)), (6, .pointer (some ⟨b80, 0, none⟩)), (74, .int .i64 ((B.length : Nat) : Int)), (75, .int .i64 (k : Int))] ∧ G86.le G114 ∧ St w H G114 [.blk b80 (qV (uN u 0) (uN u 1) (uN u 2) (uN u 3) (uH u 4) (uH u 5) : Value).cells 39, .blk b57 (qV 0 0 0 0 (List.replicate 32 0) (List.replicate 32 0) : Value).cells 39] w')
  (B.length - 0) [(2, .pointer (some ⟨b51, 0, none⟩)), (3, .pointer (some ⟨b54, 0, none⟩)), (4, .pointer (some ⟨b57, 0, none⟩)), (6, .pointer (some ⟨b80, 0, none⟩)), (74, .int .i64 ((B.length : Nat) : Int)), (75, .int .i64 ((0 : Nat) : Int))] ⟨rfl, rfl, rfl, rfl, ciI, ciI, trivial⟩ ⟨0, G86, rfl, (by omega), (by exact BlkOk.zero _ _ _), rfl, Hp.le.refl _, S110⟩ ?_
 rintro M ρ w116 ⟨k, G114, rfl, hp118, hblk, rfl, hl115, S117⟩
 refine Wr (Pv (T_nil (W_seq ?_)))
 refine Aa (fun h120 => ?_) (fun h120 => ?_)
 ·refine W_skip (W_seq (W_block (Wr ?_)))
  iterate 2 refine Pv ?_
  refine T_nil (W_seq (W_plan (planF Tryz.prog G114 [79, 82, 89]) rfl (by kernel_rfl) S117.le ?_))
  have S121 := S117.drew
  refine Fl 3 ?_
  refine T_loadGP (fun _ h => h) (still_cell (hl115 _ _ r88) rfl) rfl rfl rfl rfl rfl rfl rfl (Pv ?_)
  obtain ⟨hs125, r126, r127⟩ := (h3.mono (hl62.trans (hl87.trans hl115)))
  refine Ag k r126 fun b122 o123 hc124 => ?_
  obtain ⟨a130, c131, hc133, hv129, r132⟩ := r127.at k (by omega)
  have hc134 := hc124 0 (.slice a130 (B.getD k []).length c131) (by simpa using hv129)
  simp only [Nat.add_zero] at hc134
  refine Aj hc134 ?_
  refine Pv ?_
  refine Fl 51 ?_
  refine T_loadG S121 (still_cell (hl115 _ _ (hl87 _ _ r63)) (gV_cell (shCp hky hfp) 5 rfl rfl)) rfl rfl rfl rfl rfl rfl rfl (Pv ?_)
  refine Cs g_aumbry_aumbryref13_SegLen ((seglen_ok S121.le cz k (by omega) (by omega)).mono ?_)
  rintro e w136 ⟨rfl, hB135⟩
  have S137 := S121.call hB135
  refine ⟨_, rfl, (((Hp.le.refl _)).trans S137.le), ?_⟩
  refine Fl 49 ?_
  refine T_loadGP (fun _ h => h) (still_cell (hl115 _ _ (hl87 _ _ r63)) (gV_cell (shCp hky hfp) 3 rfl rfl)) rfl rfl rfl rfl rfl rfl rfl (Cs g_aumbry_aumbryref04_Length ((lengthR_ok S137.le (min (cz - ((k : Nat) : Int) * 64) 64) ck (by omega) (by omega)).mono ?_))
  rintro e w139 ⟨rfl, hB138⟩
  have S140 := S137.call hB138
  refine ⟨_, rfl, (((Hp.le.refl _)).trans S140.le), ?_⟩
  refine Pv (T_nil ?_)
  refine W_cond_not rfl (fun h141 => ?_) (fun h141 => ?_)
  ·refine Wr (T_buildS (cells := (qz32 : Value).cells) rfl rfl rfl rfl rfl rfl rfl rfl rfl rfl (Ah (hl := by exact qV_sz (q_len lr32 lr32 rfl)) (hl2 := by exact qV_sz (q_len lr32 lr32 rfl)) (h1 := by exact qV_one) 1 S140 fun w142 S143 => ?_))
   refine Pv (T_nil (W_ret ?_))
   refine ⟨_, ⟨_, _, _, rfl, rfl, run_loadVarA rfl rfl (qV_sz (q_len lr32 lr32 rfl)) (S143.cells 1 rfl), ⟨_, _, rfl, rfl, rfl⟩⟩, ?_⟩
   refine ⟨rs_no (fun hq => ?_), S143.below⟩
   obtain ⟨⟨q0, q1, q2⟩, ⟨q3, q4, q5⟩, ⟨q6, q7⟩, q8, q9, q10⟩ := hq
   first | exact h141 q0 | exact h141 q1 | exact h141 q2 | exact h141 q3 | exact h141 q4 | exact h141 q5 | exact h141 q8 | omega | exact nb_x h141 q10 | (have q11 := (q9 k (by omega)).1; omega) | exact h141 (by rw [q3, q5]; exact (q9 k (by omega)).2) | exact h141 (q9 k (by omega)).2
  refine W_skip (W_region (Ar ?_))
  refine Pv (T_nil ?_)
  have HLEN := h141
  exact ⟨B.length - (k + 1), [(2, .pointer (some ⟨b51, 0, none⟩)), (3, .pointer (some ⟨b54, 0, none⟩)), (4, .pointer (some ⟨b57, 0, none⟩)), (6, .pointer (some ⟨b80, 0, none⟩)), (74, .int .i64 ((B.length : Nat) : Int)), (75, .int .i64 ((k + 1 : Nat) : Int))], by omega, ⟨rfl, rfl, rfl, rfl, ciI, ciI, trivial⟩, k + 1, G114, rfl, (by omega), (by exact hblk.step (by omega) HLEN), rfl, hl115, S140⟩
 refine W_exit ?_
 iterate 2 refine W_seq ?_
 obtain ⟨G145, hl146, S144, r147⟩ := S117.stillBlk 0 rfl
 refine W_plan (planF Tryz.prog G145 [95, 97, 99, 103]) rfl (by kernel_rfl) S144.le ?_
 have S148 := S144.drew
 refine Fl 36 ?_
 refine T_loadGAP _ (fun _ h => h) (still_part r147 (qV_t (by rw [(uH4 _)]))) rfl rfl rfl rfl rfl rfl rfl rfl (hVs (uH5 _)) ?_
 refine Fl 1 ?_
 refine Aj (still_cell r147 qV_1) ?_
 refine Fl 0 ?_
 refine T_loadGP (fun _ h => h) (still_cell (hl146 _ _ (hl115 _ _ r88)) rfl) rfl rfl rfl rfl rfl rfl rfl (T_loadGA _ S148 (still_cells (hl146 _ _ (hl115 _ _ r88))) rfl rfl rfl rfl rfl rfl rfl rfl (by first | rfl | simp [hVs, *]) ?_)
 refine Cs g_aumbry_aumbryref13_ShareLeaf ((shareLeafR_ok S148.le sn (h1.mono (hl62.trans (hl87.trans (hl115.trans hl146)))) (h2.mono (hl62.trans (hl87.trans (hl115.trans hl146)))) (h3.mono (hl62.trans (hl87.trans (hl115.trans hl146)))) (by omega) HX1).mono ?_)
 rintro e w150 ⟨rfl, hB149⟩
 have S151 := S148.call hB149
 refine ⟨_, rfl, (((Hp.le.refl _)).trans S151.le), ?_⟩
 refine Fl 2 ?_
 refine T_loadGP (fun _ h => h) (still_cell (hl146 _ _ (hl115 _ _ r88)) rfl) rfl rfl rfl rfl rfl rfl rfl (Cs g_aumbry_aumbryref07_Check ((checkR_ok S151.le (uH5 _) (uN u 1) sn (root_len (leavesH_all _ _)) (h2.mono (hl62.trans (hl87.trans (hl115.trans hl146))))).mono ?_))
 rintro e w153 ⟨rfl, hB152⟩
 have S154 := S151.call hB152
 refine ⟨_, rfl, (((Hp.le.refl _)).trans S154.le), ?_⟩
 refine Pv (T_nil ?_)
 refine W_cond rfl (fun h155 => ?_) (fun h155 => ?_)
 ·refine Wr (T_buildS (cells := (qz32 : Value).cells) rfl rfl rfl rfl rfl rfl rfl rfl rfl rfl (Ah (hl := by exact qV_sz (q_len lr32 lr32 rfl)) (hl2 := by exact qV_sz (q_len lr32 lr32 rfl)) (h1 := by exact qV_one) 0 S154 fun w156 S157 => ?_))
  refine Pv (T_nil (W_ret ?_))
  refine ⟨_, ⟨_, _, _, rfl, rfl, run_loadVarA rfl rfl (qV_sz (q_len lr32 lr32 rfl)) (S157.cells 0 rfl), ⟨_, _, rfl, rfl, rfl⟩⟩, ?_⟩
  refine ⟨rs_no (fun hq => ?_), S157.below⟩
  obtain ⟨⟨q0, q1, q2⟩, ⟨q3, q4, q5⟩, ⟨q6, q7⟩, q8, q9, q10⟩ := hq
  first | exact h155 q0 | exact h155 q1 | exact h155 q2 | exact h155 q3 | exact h155 q4 | exact h155 q5 | exact h155 q8 | omega | exact nb_x h155 q10 | (have q11 := (q9 k (by omega)).1; omega) | exact h155 (by rw [q3, q5]; exact (q9 k (by omega)).2) | exact h155 (q9 k (by omega)).2
 refine W_skip (Wr (T_loadGA _ S154 (still_cells r147) rfl rfl rfl rfl rfl rfl rfl rfl (qV_sz (q_len (uH4 _) (uH5 _) rfl)) (Ah (hl := by exact qV_sz (q_len (uH4 _) (uH5 _) rfl)) (hl2 := by exact qV_sz (q_len (uH4 _) (uH5 _) rfl)) (h1 := by exact qV_one) 0 S154 fun w158 S159 => ?_)))
 refine Pv (T_nil (W_ret ?_))
 refine ⟨_, ⟨_, _, _, rfl, rfl, run_loadVarA rfl rfl (qV_sz (q_len (uH4 _) (uH5 _) rfl)) (S159.cells 0 rfl), ⟨_, _, rfl, rfl, rfl⟩⟩, ?_⟩
 exact ⟨rs_yes ⟨⟨h90, h68, h74⟩, ⟨h93, h96, h99⟩, ⟨by omega, by omega⟩, h111, by rw [show B.length = k by omega]; exact hblk, nb_f h155⟩, S159.below⟩

end Go.Proofs.YtmjmjjkigblbgaaGreatDoor
