/- Whether pieces are right; the statement. -/
import Derived.Test.YtmjmjjkigblbgaaGreatDoorLayZB
import Derived.Test.YtmjmjjkigblbgaaGreatDoorAuDoor
set_option linter.unusedVariables false
set_option linter.unusedSimpArgs false
set_option maxRecDepth 8192
namespace Go.Proofs.YtmjmjjkigblbgaaGreatDoor
open Go Go.F Go.RowKit

theorem nb_t {b : Bool} (h : (!b) = true) : b = false := by cases b <;> simp_all
theorem and3 {a v c : Bool} : (a && v && c) = ((a && c) && v) := by cases a <;> cases v <;> cases c <;> rfl
theorem rpB_split {ph : List UInt8} {pn va vb vc vd : Int} {vs vr : List UInt8} {sh sl : Int} {X Y Z : List (List UInt8)} {B : List UInt8} : Go.Au.rpB ph pn va vb vc vd vs vr sh sl X Y Z B = ((decide ((0 ≤ pn ∧ pn < vc) ∧ 1 ≤ vb ∧ ((B.length : Nat) : Int) = Go.Au.lenV vb vd) && (Go.Au.okW vc pn Z.length && decide (Go.Au.climbH vc pn (Go.Au.leafH B) Z = vr))) && Go.Au.vrf ph (Go.Au.packV va vb vc vd vs vr) sh sl X Y) := and3
theorem rightP_ok {H : Hp} {w : World} (hH : H.le (hw w)) (hT : Tabs H) {ph : List UInt8} (hph : ph.length = 32) (pn va vb vc vd : Int) {vs vr : List UInt8} (hvs : vs.length = 16) (hvr : vr.length = 32) (sh sl : Int) {X Y Z : List (List UInt8)} {B : List UInt8} {a1 a2 a3 a4 : Option Addr} {n1 n2 n3 n4 c1 c2 c3 c4 : Nat} (h1 : RdH H (.slice a1 n1 c1) 32 X) (h2 : RdH H (.slice a2 n2 c2) 32 Y) (h3 : RdH H (.slice a3 n3 c3) 32 Z) (h4 : Rd H (.slice a4 n4 c4) n4 1 (B.map bV)) (hva : va ≤ 9223372036854775807) (hvb : vb ≤ 9223372036854775807) (hvc : vc ≤ 9223372036854775807) (hvd : vd ≤ 9223372036854775807) (hX : X.length ≤ 70) (hY : Y.length ≤ 6) (hZ : Z.length ≤ 6) (hB : B.length ≤ 100) :
  Calls Tryz.prog 19 #[hV ph, gV [[.int .i64 pn], [.int .i64 va], [.int .i64 vb], [.int .i64 vc], [.int .i64 vd], vs.map bV, vr.map bV, [.int .i64 sh], [.int .i64 sl], [.slice a1 n1 c1], [.slice a2 n2 c2], [.slice a3 n3 c3], [.slice a4 n4 c4]]] w fun e w' => e = .returned (.bool (Go.Au.rpB ph pn va vb vc vd vs vr sh sl X Y Z B)) ∧ Below w.heap.size w w' := by
 obtain rfl : n1 = X.length := h1.len
 obtain rfl : n2 = Y.length := h2.len
 obtain rfl : n3 = Z.length := h3.len
 obtain rfl : n4 = B.length := h4.lenB
 refine enter2 _ Tryz.func19 rfl Tryz.ntmps19 Tryz.results19 rfl ?_
 have S0 := St.start w hH
 refine Wr ?_
 refine T_boxS S0 (fun _ _ => trivial) rfl rfl rfl rfl rfl rfl fun b51 w52 S53 => ?_
 refine T_boxS S53 (fun _ _ => trivial) rfl rfl rfl rfl rfl rfl fun b54 w55 S56 => ?_
 refine Pv ?_
 refine T_nil ?_
 refine Wr ?_
 refine Fl 1 ?_
 refine T_loadAS (qV va vb vc vd vs vr : Value).cells 0 S56 rfl rfl rfl rfl rfl rfl rfl rfl rfl (qV_sz (q_len hvs hvr rfl)) (gV_sub (shP hvs hvr) 1 6 (c := (qV va vb vc vd vs vr : Value).cells.toList) (qV_flat) rfl) ?_
 refine T_allocS S56 (fun _ _ => trivial) rfl rfl rfl rfl rfl rfl rfl fun b57 w58 S59 => ?_
 refine T_storeFS 0 S59 (fun _ _ => trivial) rfl rfl rfl rfl rfl rfl rfl rfl rfl (qV_sz (q_len hvs hvr rfl)) (qV_sz (q_len hvs hvr rfl)) (qV_one) fun w60 S61 => ?_
 refine T_nil ?_
 iterate 2 refine W_seq ?_
 obtain ⟨G63, hl64, S62, r65⟩ := S61.stillBlk 1 rfl
 obtain ⟨G67, hl68, S66, r69⟩ := S62.stillBlk 1 rfl
 refine W_plan (planF Tryz.prog G67 [20, 30, 34]) rfl (by kernel_rfl) S66.le ?_
 have S70 := S66.drew
 refine Fl 0 ?_
 refine T_loadG S70 (still_cell (hl68 _ _ r65) (gV_cell (shP hvs hvr) 0 rfl rfl)) rfl rfl rfl rfl rfl rfl rfl ?_
 iterate 2 refine Pv ?_
 refine T_part (t := 11) rfl (List.cons_ne_nil _ _) (fun h71' => ?_) (fun h71' => ?_)
 ·have h71 := of_decide_eq_true h71'
  iterate 5 refine No ?_
  iterate 2 refine Pv ?_
  iterate 9 refine No ?_
  iterate 2 refine Pv ?_
  iterate 7 refine No ?_
  refine Pv ?_
  refine T_nil ?_
  refine W_cond_true rfl ?_
  refine Wr ?_
  refine Pv ?_
  refine T_nil ?_
  refine W_ret ?_
  refine ⟨_, ⟨_, _, rfl, rfl, rfl⟩, ?_⟩
  exact ⟨congrArg (fun z => Ending.returned (Value.bool z)) (by first | exact (Go.Au.rpB_a (fun q => by omega)).symm | exact (Go.Au.rpB_a (fun q => h71 q.2.2)).symm | exact (Go.Au.rpB_b (nb_t h71)).symm), S70.below⟩
 have h71 := of_decide_eq_false h71'
 refine Ys ?_
 refine Fl 0 ?_
 refine Ys ?_
 refine T_loadG S70 (still_cell (hl68 _ _ r65) (gV_cell (shP hvs hvr) 0 rfl rfl)) rfl rfl rfl rfl rfl rfl rfl ?_
 refine Ys ?_
 refine Fl 2 ?_
 refine Ys ?_
 refine T_loadS 0 2 S70 rfl rfl rfl rfl rfl rfl rfl rfl rfl qV_2 ?_
 refine Ys ?_
 iterate 3 refine Pv ?_
 refine T_part (t := 18) rfl (List.cons_ne_nil _ _) (fun h72' => ?_) (fun h72' => ?_)
 ·have h72 := of_decide_eq_true h72'
  iterate 9 refine No ?_
  iterate 2 refine Pv ?_
  iterate 7 refine No ?_
  refine Pv ?_
  refine T_nil ?_
  refine W_cond_true rfl ?_
  refine Wr ?_
  refine Pv ?_
  refine T_nil ?_
  refine W_ret ?_
  refine ⟨_, ⟨_, _, rfl, rfl, rfl⟩, ?_⟩
  exact ⟨congrArg (fun z => Ending.returned (Value.bool z)) (by first | exact (Go.Au.rpB_a (fun q => by omega)).symm | exact (Go.Au.rpB_a (fun q => h72 q.2.2)).symm | exact (Go.Au.rpB_b (nb_t h72)).symm), S70.below⟩
 have h72 := of_decide_eq_false h72'
 refine Ys ?_
 refine Fl 58 ?_
 refine Ys ?_
 refine T_loadGP (fun _ h => h) (still_cell (hl68 _ _ r65) (gV_cell (shP hvs hvr) 12 rfl rfl)) rfl rfl rfl rfl rfl rfl rfl ?_
 refine Ys ?_
 refine Pv ?_
 refine Ys ?_
 refine Fl 1 ?_
 refine Ys ?_
 refine T_loadS 0 1 S70 rfl rfl rfl rfl rfl rfl rfl rfl rfl qV_1 ?_
 refine Ys ?_
 refine Fl 3 ?_
 refine Ys ?_
 refine T_loadS 0 3 S70 rfl rfl rfl rfl rfl rfl rfl rfl rfl qV_3 ?_
 refine Ys ?_
 refine Cs g_aumbry_layout_length ((length_ok S70.le vb vd (by omega)).mono ?_)
 rintro e w74 ⟨rfl, hB73⟩
 have S75 := S70.call hB73
 refine ⟨_, rfl, (((Hp.le.refl _)).trans S75.le), ?_⟩
 refine Ys ?_
 iterate 3 refine Pv ?_
 refine T_part (t := 29) rfl (List.cons_ne_nil _ _) (fun h76' => ?_) (fun h76' => ?_)
 ·have h76 := of_ndec_t h76'
  iterate 7 refine No ?_
  refine Pv ?_
  refine T_nil ?_
  refine W_cond_true rfl ?_
  refine Wr ?_
  refine Pv ?_
  refine T_nil ?_
  refine W_ret ?_
  refine ⟨_, ⟨_, _, rfl, rfl, rfl⟩, ?_⟩
  exact ⟨congrArg (fun z => Ending.returned (Value.bool z)) (by first | exact (Go.Au.rpB_a (fun q => by omega)).symm | exact (Go.Au.rpB_a (fun q => h76 q.2.2)).symm | exact (Go.Au.rpB_b (nb_t h76)).symm), S75.below⟩
 have h76 := of_ndec_f h76'
 refine Ys ?_
 refine T_loadGAP _ (fun _ h => h) (still_cells r69) rfl rfl rfl rfl rfl rfl rfl rfl (hVs hph) ?_
 refine Ys ?_
 refine T_loadFS 0 S75 rfl rfl rfl rfl rfl rfl rfl rfl rfl (qV_sz (q_len hvs hvr rfl)) ?_
 refine Ys ?_
 refine Cs g_aumbry_layout_PackVersion ((packV_ok S75.le (hT.mono (hl64.trans hl68)) va vb vc vd (s := vs) (t := vr) hvs hvr (by omega) (by omega) (by omega) (by omega)).mono ?_)
 rintro e w82 ⟨a77, c78, hc79, rfl, ho80, hB81⟩
 have hl83 := Go.Au.packV_len va vb vc vd (s := vs) (t := vr) (by have := hvs; omega) (by have := hvr; omega)
 have S84 := S75.own hB81 ho80
 refine ⟨_, rfl, (((Hp.le.refl _)).trans S84.le), ?_⟩
 refine Ys ?_
 refine Fl 53 ?_
 refine Ys ?_
 refine T_loadGAP (.agg #[.int .i64 sh, .int .i64 sl, .slice a1 X.length c1, .slice a2 Y.length c2] : Value).cells (fun _ h => h) (still_part (hl68 _ _ r65) (gV_sub (shP hvs hvr) 7 4 (c := [.int .i64 sh, .int .i64 sl, .slice a1 X.length c1, .slice a2 Y.length c2]) (rfl) rfl)) rfl rfl rfl rfl rfl rfl rfl rfl (by first | rfl | simp [hVs, *]) ?_
 refine Ys ?_
 obtain ⟨G86, hl87, S85, r88⟩ := S84.stillRow 0 rfl
 refine Cs g_aumbry_mss_Verify ((verify_ok S85.le (hT.mono (hl64.trans (hl68.trans hl87))) hph sh sl (h1.mono (hl64.trans (hl68.trans hl87))) (h2.mono (hl64.trans (hl68.trans hl87))) r88 (by omega)).mono ?_)
 rintro e w90 ⟨rfl, hB89⟩
 have S91 := S85.call hB89
 refine ⟨_, rfl, ((hl87).trans S91.le), ?_⟩
 refine Ys ?_
 iterate 2 refine Pv ?_
 refine T_nil ?_
 refine W_cond rfl (fun h92 => ?_) (fun h92 => ?_)
 ·refine Wr ?_
  refine Pv ?_
  refine T_nil ?_
  refine W_ret ?_
  refine ⟨_, ⟨_, _, rfl, rfl, rfl⟩, ?_⟩
  exact ⟨congrArg (fun z => Ending.returned (Value.bool z)) (by first | exact (Go.Au.rpB_a (fun q => by omega)).symm | exact (Go.Au.rpB_a (fun q => h92 q.2.2)).symm | exact (Go.Au.rpB_b (nb_t h92)).symm), S91.below⟩
 refine W_skip ?_
 refine W_seq ?_
 obtain ⟨G94, hl95, S93, r96⟩ := S91.stillBlk 0 rfl
 refine W_plan (planF Tryz.prog G94 [39, 41, 43, 48]) rfl (by kernel_rfl) S93.le ?_
 have S97 := S93.drew
 refine Fl 20 ?_
 refine T_loadGAP _ (fun _ h => h) (still_part r96 (qV_t (by rw [hvs]))) rfl rfl rfl rfl rfl rfl rfl rfl (hVs hvr) ?_
 refine Fl 2 ?_
 refine T_loadGP (fun _ h => h) (still_cell r96 qV_2) rfl rfl rfl rfl rfl rfl rfl ?_
 refine Fl 0 ?_
 refine T_loadGP (fun _ h => h) (still_cell (hl95 _ _ (hl87 _ _ (hl68 _ _ r65))) (gV_cell (shP hvs hvr) 0 rfl rfl)) rfl rfl rfl rfl rfl rfl rfl ?_
 refine Fl 58 ?_
 refine T_loadG S97 (still_cell (hl95 _ _ (hl87 _ _ (hl68 _ _ r65))) (gV_cell (shP hvs hvr) 12 rfl rfl)) rfl rfl rfl rfl rfl rfl rfl ?_
 refine Cs g_aumbry_tree_Leaf ((leaf_ok S97.le (hT.mono (hl64.trans (hl68.trans (hl87.trans hl95)))) (h4.mono (hl64.trans (hl68.trans (hl87.trans hl95)))) (by omega)).mono ?_)
 rintro e w99 ⟨rfl, hB98⟩
 have S100 := S97.call hB98
 refine ⟨_, rfl, (((Hp.le.refl _)).trans S100.le), ?_⟩
 refine Fl 57 ?_
 refine T_loadGP (fun _ h => h) (still_cell (hl95 _ _ (hl87 _ _ (hl68 _ _ r65))) (gV_cell (shP hvs hvr) 11 rfl rfl)) rfl rfl rfl rfl rfl rfl rfl ?_
 refine Cs g_aumbry_tree_Check ((check_ok S100.le (hT.mono (hl64.trans (hl68.trans (hl87.trans hl95)))) hvr vc pn (Go.Au.leafH_len _) (h3.mono (hl64.trans (hl68.trans (hl87.trans hl95))))).mono ?_)
 rintro e w102 ⟨rfl, hB101⟩
 have S103 := S100.call hB101
 refine ⟨_, rfl, (((Hp.le.refl _)).trans S103.le), ?_⟩
 refine Pv ?_
 refine T_nil ?_
 refine W_ret ?_
 refine ⟨_, ⟨_, _, rfl, rfl, rfl⟩, ?_⟩
 have hv1 : 1 ≤ vb := by
  rcases Int.lt_or_le vb 1 with hx | hx
  ·have hy := Go.Au.lenV_neg hx vd; omega
  ·exact hx
 exact ⟨congrArg (fun z => Ending.returned (Value.bool z)) (Go.Au.rpB_d ⟨⟨by omega, by omega⟩, hv1, by omega⟩ (nb_f h92)).symm, S103.below⟩


theorem placedR_ok {H : Hp} {w : World} (hH : H.le (hw w)) (pn va vb vc vd : Int) {vs vr : List UInt8} (hvs : vs.length = 16) (hvr : vr.length = 32) (sh sl : Int) {X Y Z : List (List UInt8)} {B : List UInt8} {a1 a2 a3 a4 : Option Addr} {n1 n2 n3 n4 c1 c2 c3 c4 : Nat} (h1 : RdH H (.slice a1 n1 c1) 32 X) (h2 : RdH H (.slice a2 n2 c2) 32 Y) (h3 : RdH H (.slice a3 n3 c3) 32 Z) (h4 : Rd H (.slice a4 n4 c4) n4 1 (B.map bV)) (hva : va ≤ 9223372036854775807) (hvb : vb ≤ 9223372036854775807) (hvc : vc ≤ 9223372036854775807) (hvd : vd ≤ 9223372036854775807) (hX : X.length ≤ 70) (hY : Y.length ≤ 6) (hZ : Z.length ≤ 6) (hB : B.length ≤ 100) :
  Calls Tryz.prog 55 #[gV [[.int .i64 pn], [.int .i64 va], [.int .i64 vb], [.int .i64 vc], [.int .i64 vd], vs.map bV, vr.map bV, [.int .i64 sh], [.int .i64 sl], [.slice a1 n1 c1], [.slice a2 n2 c2], [.slice a3 n3 c3], [.slice a4 n4 c4]]] w fun e w' => e = .returned (.bool (decide ((0 ≤ pn ∧ pn < vc) ∧ 1 ≤ vb ∧ ((B.length : Nat) : Int) = Go.Au.lenV vb vd) && (Go.Au.okW vc pn Z.length && decide (Go.Au.climbH vc pn (Go.Au.leafH B) Z = vr)))) ∧ Below w.heap.size w w' := by
 obtain rfl : n1 = X.length := h1.len
 obtain rfl : n2 = Y.length := h2.len
 obtain rfl : n3 = Z.length := h3.len
 obtain rfl : n4 = B.length := h4.lenB
 refine enter1 _ Tryz.func55 rfl Tryz.ntmps55 Tryz.results55 rfl ?_
 have S0 := St.start w hH
 refine Wr ?_
 refine T_boxS S0 (fun _ _ => trivial) rfl rfl rfl rfl rfl rfl fun b51 w52 S53 => ?_
 refine Pv ?_
 refine T_nil ?_
 refine Wr ?_
 refine Fl 1 ?_
 refine T_loadAS (qV va vb vc vd vs vr : Value).cells 0 S53 rfl rfl rfl rfl rfl rfl rfl rfl rfl (qV_sz (q_len hvs hvr rfl)) (gV_sub (shP hvs hvr) 1 6 (c := (qV va vb vc vd vs vr : Value).cells.toList) (qV_flat) rfl) ?_
 refine T_allocS S53 (fun _ _ => trivial) rfl rfl rfl rfl rfl rfl rfl fun b54 w55 S56 => ?_
 refine T_storeFS 0 S56 (fun _ _ => trivial) rfl rfl rfl rfl rfl rfl rfl rfl rfl (qV_sz (q_len hvs hvr rfl)) (qV_sz (q_len hvs hvr rfl)) (qV_one) fun w57 S58 => ?_
 refine T_nil ?_
 refine W_seq ?_
 obtain ⟨G60, hl61, S59, r62⟩ := S58.stillBlk 1 rfl
 obtain ⟨G64, hl65, S63, r66⟩ := S59.stillBlk 0 rfl
 refine W_plan (planF Tryz.prog G64 [23, 34, 36, 38, 43]) rfl (by kernel_rfl) S63.le ?_
 have S67 := S63.drew
 refine Fl 0 ?_
 refine T_loadG S67 (still_cell (hl65 _ _ r62) (gV_cell (shP hvs hvr) 0 rfl rfl)) rfl rfl rfl rfl rfl rfl rfl ?_
 iterate 2 refine Pv ?_
 refine T_part (t := 9) rfl (List.cons_ne_nil _ _) (fun h68' => ?_) (fun h68' => ?_)
 ·have h68 := of_decide_eq_true h68'
  refine Ys ?_
  refine Fl 0 ?_
  refine Ys ?_
  refine T_loadG S67 (still_cell (hl65 _ _ r62) (gV_cell (shP hvs hvr) 0 rfl rfl)) rfl rfl rfl rfl rfl rfl rfl ?_
  refine Ys ?_
  refine Fl 2 ?_
  refine Ys ?_
  refine T_loadG S67 (still_cell r66 qV_2) rfl rfl rfl rfl rfl rfl rfl ?_
  refine Ys ?_
  iterate 3 refine Pv ?_
  refine T_part (t := 16) rfl (List.cons_ne_nil _ _) (fun h69' => ?_) (fun h69' => ?_)
  ·have h69 := of_decide_eq_true h69'
   refine Ys ?_
   refine Fl 1 ?_
   refine Ys ?_
   refine T_loadG S67 (still_cell r66 qV_1) rfl rfl rfl rfl rfl rfl rfl ?_
   refine Ys ?_
   iterate 3 refine Pv ?_
   refine T_part (t := 21) rfl (List.cons_ne_nil _ _) (fun h70' => ?_) (fun h70' => ?_)
   ·have h70 := of_decide_eq_true h70'
    refine Ys ?_
    refine Fl 58 ?_
    refine Ys ?_
    refine T_loadGP (fun _ h => h) (still_cell (hl65 _ _ r62) (gV_cell (shP hvs hvr) 12 rfl rfl)) rfl rfl rfl rfl rfl rfl rfl ?_
    refine Ys ?_
    refine Pv ?_
    refine Ys ?_
    refine Fl 3 ?_
    refine Ys ?_
    refine T_loadG S67 (still_cell r66 qV_3) rfl rfl rfl rfl rfl rfl rfl ?_
    refine Ys ?_
    refine Fl 1 ?_
    refine Ys ?_
    refine T_loadG S67 (still_cell r66 qV_1) rfl rfl rfl rfl rfl rfl rfl ?_
    refine Ys ?_
    refine Cs g_aumbry_aumbryref04_Length ((lengthR_ok S67.le vd vb (by omega) (by omega)).mono ?_)
    rintro e w72 ⟨rfl, hB71⟩
    have S73 := S67.call hB71
    refine ⟨_, rfl, (((Hp.le.refl _)).trans S73.le), ?_⟩
    refine Ys ?_
    iterate 3 refine Pv ?_
    refine T_part (t := 32) rfl (List.cons_ne_nil _ _) (fun h74' => ?_) (fun h74' => ?_)
    ·have h74 := of_decide_eq_true h74'
     refine Ys ?_
     refine Fl 20 ?_
     refine Ys ?_
     refine T_loadGAP _ (fun _ h => h) (still_part r66 (qV_t (by rw [hvs]))) rfl rfl rfl rfl rfl rfl rfl rfl (hVs hvr) ?_
     refine Ys ?_
     refine Fl 2 ?_
     refine Ys ?_
     refine T_loadGP (fun _ h => h) (still_cell r66 qV_2) rfl rfl rfl rfl rfl rfl rfl ?_
     refine Ys ?_
     refine Fl 0 ?_
     refine Ys ?_
     refine T_loadGP (fun _ h => h) (still_cell (hl65 _ _ r62) (gV_cell (shP hvs hvr) 0 rfl rfl)) rfl rfl rfl rfl rfl rfl rfl ?_
     refine Ys ?_
     refine Fl 58 ?_
     refine Ys ?_
     refine T_loadG S73 (still_cell (hl65 _ _ r62) (gV_cell (shP hvs hvr) 12 rfl rfl)) rfl rfl rfl rfl rfl rfl rfl ?_
     refine Ys ?_
     refine Cs g_aumbry_aumbryref07_Leaf ((leafR_ok S73.le (h4.mono (hl61.trans hl65)) (by omega)).mono ?_)
     rintro e w76 ⟨rfl, hB75⟩
     have S77 := S73.call hB75
     refine ⟨_, rfl, (((Hp.le.refl _)).trans S77.le), ?_⟩
     refine Ys ?_
     refine Fl 57 ?_
     refine Ys ?_
     refine T_loadGP (fun _ h => h) (still_cell (hl65 _ _ r62) (gV_cell (shP hvs hvr) 11 rfl rfl)) rfl rfl rfl rfl rfl rfl rfl ?_
     refine Ys ?_
     refine Cs g_aumbry_aumbryref07_Check ((checkR_ok S77.le hvr vc pn (Go.Au.leafH_len _) (h3.mono (hl61.trans hl65))).mono ?_)
     rintro e w79 ⟨rfl, hB78⟩
     have S80 := S77.call hB78
     refine ⟨_, rfl, (((Hp.le.refl _)).trans S80.le), ?_⟩
     iterate 2 refine Pv ?_
     refine T_nil ?_
     refine W_ret ?_
     refine ⟨_, ⟨_, _, rfl, rfl, rfl⟩, ?_⟩
     exact ⟨congrArg (fun z => Ending.returned (Value.bool z)) (by rw [decide_eq_true (show ((0 ≤ pn ∧ pn < vc) ∧ 1 ≤ vb ∧ ((B.length : Nat) : Int) = Go.Au.lenV vb vd) from ⟨⟨by omega, by omega⟩, by omega, h74⟩)]; rfl), S80.below⟩
    have h74 := of_decide_eq_false h74'
    iterate 12 refine No ?_
    iterate 2 refine Pv ?_
    refine T_nil ?_
    refine W_ret ?_
    refine ⟨_, ⟨_, _, rfl, rfl, rfl⟩, ?_⟩
    exact ⟨congrArg (fun z => Ending.returned (Value.bool z)) (by rw [decide_eq_false (show ¬ ((0 ≤ pn ∧ pn < vc) ∧ 1 ≤ vb ∧ ((B.length : Nat) : Int) = Go.Au.lenV vb vd) from fun q => by first | omega | exact h74 q.2.2)]; rfl), S73.below⟩
   have h70 := of_decide_eq_false h70'
   iterate 9 refine No ?_
   iterate 2 refine Pv ?_
   iterate 12 refine No ?_
   iterate 2 refine Pv ?_
   refine T_nil ?_
   refine W_ret ?_
   refine ⟨_, ⟨_, _, rfl, rfl, rfl⟩, ?_⟩
   exact ⟨congrArg (fun z => Ending.returned (Value.bool z)) (by rw [decide_eq_false (show ¬ ((0 ≤ pn ∧ pn < vc) ∧ 1 ≤ vb ∧ ((B.length : Nat) : Int) = Go.Au.lenV vb vd) from fun q => by first | omega | exact h70 q.2.2)]; rfl), S67.below⟩
  have h69 := of_decide_eq_false h69'
  iterate 3 refine No ?_
  iterate 2 refine Pv ?_
  iterate 9 refine No ?_
  iterate 2 refine Pv ?_
  iterate 12 refine No ?_
  iterate 2 refine Pv ?_
  refine T_nil ?_
  refine W_ret ?_
  refine ⟨_, ⟨_, _, rfl, rfl, rfl⟩, ?_⟩
  exact ⟨congrArg (fun z => Ending.returned (Value.bool z)) (by rw [decide_eq_false (show ¬ ((0 ≤ pn ∧ pn < vc) ∧ 1 ≤ vb ∧ ((B.length : Nat) : Int) = Go.Au.lenV vb vd) from fun q => by first | omega | exact h69 q.2.2)]; rfl), S67.below⟩
 have h68 := of_decide_eq_false h68'
 iterate 5 refine No ?_
 iterate 2 (refine Pv ?_; refine Pv ?_; refine No ?_; refine No ?_; refine No ?_)
 iterate 6 refine No ?_
 iterate 2 refine Pv ?_
 iterate 12 refine No ?_
 iterate 2 refine Pv ?_
 refine T_nil ?_
 refine W_ret ?_
 refine ⟨_, ⟨_, _, rfl, rfl, rfl⟩, ?_⟩
 exact ⟨congrArg (fun z => Ending.returned (Value.bool z)) (by rw [decide_eq_false (show ¬ ((0 ≤ pn ∧ pn < vc) ∧ 1 ≤ vb ∧ ((B.length : Nat) : Int) = Go.Au.lenV vb vd) from fun q => by first | omega | exact h68 q.2.2)]; rfl), S67.below⟩


theorem rightPR_ok {H : Hp} {w : World} (hH : H.le (hw w)) {ph : List UInt8} (hph : ph.length = 32) (pn va vb vc vd : Int) {vs vr : List UInt8} (hvs : vs.length = 16) (hvr : vr.length = 32) (sh sl : Int) {X Y Z : List (List UInt8)} {B : List UInt8} {a1 a2 a3 a4 : Option Addr} {n1 n2 n3 n4 c1 c2 c3 c4 : Nat} (h1 : RdH H (.slice a1 n1 c1) 32 X) (h2 : RdH H (.slice a2 n2 c2) 32 Y) (h3 : RdH H (.slice a3 n3 c3) 32 Z) (h4 : Rd H (.slice a4 n4 c4) n4 1 (B.map bV)) (hva : va ≤ 9223372036854775807) (hvb : vb ≤ 9223372036854775807) (hvc : vc ≤ 9223372036854775807) (hvd : vd ≤ 9223372036854775807) (hX : X.length ≤ 70) (hY : Y.length ≤ 6) (hZ : Z.length ≤ 6) (hB : B.length ≤ 100) :
  Calls Tryz.prog 20 #[hV ph, gV [[.int .i64 pn], [.int .i64 va], [.int .i64 vb], [.int .i64 vc], [.int .i64 vd], vs.map bV, vr.map bV, [.int .i64 sh], [.int .i64 sl], [.slice a1 n1 c1], [.slice a2 n2 c2], [.slice a3 n3 c3], [.slice a4 n4 c4]]] w fun e w' => e = .returned (.bool (Go.Au.rpB ph pn va vb vc vd vs vr sh sl X Y Z B)) ∧ Below w.heap.size w w' := by
 obtain rfl : n1 = X.length := h1.len
 obtain rfl : n2 = Y.length := h2.len
 obtain rfl : n3 = Z.length := h3.len
 obtain rfl : n4 = B.length := h4.lenB
 refine enter2 _ Tryz.func20 rfl Tryz.ntmps20 Tryz.results20 rfl ?_
 have S0 := St.start w hH
 refine Wr ?_
 refine T_boxS S0 (fun _ _ => trivial) rfl rfl rfl rfl rfl rfl fun b51 w52 S53 => ?_
 refine T_boxS S53 (fun _ _ => trivial) rfl rfl rfl rfl rfl rfl fun b54 w55 S56 => ?_
 refine Pv ?_
 refine T_nil ?_
 refine W_seq ?_
 obtain ⟨G58, hl59, S57, r60⟩ := S56.stillBlk 1 rfl
 obtain ⟨G62, hl63, S61, r64⟩ := S57.stillBlk 0 rfl
 refine W_plan (planF Tryz.prog G62 [8, 13]) rfl (by kernel_rfl) S61.le ?_
 have S65 := S61.drew
 refine T_loadGA _ S65 (still_cells r64) rfl rfl rfl rfl rfl rfl rfl rfl (gV_size (L := [[.int .i64 pn], [.int .i64 va], [.int .i64 vb], [.int .i64 vc], [.int .i64 vd], vs.map bV, vr.map bV, [.int .i64 sh], [.int .i64 sl], [.slice a1 X.length c1], [.slice a2 Y.length c2], [.slice a3 Z.length c3], [.slice a4 B.length c4]]) (shP hvs hvr) rfl) ?_
 refine Cs g_aumbry_aumbryref13_Placed ((placedR_ok S65.le pn va vb vc vd hvs hvr sh sl (h1.mono (hl59.trans hl63)) (h2.mono (hl59.trans hl63)) (h3.mono (hl59.trans hl63)) (h4.mono (hl59.trans hl63)) (by omega) (by omega) (by omega) (by omega) (by omega) (by omega) (by omega) (by omega)).mono ?_)
 rintro e w67 ⟨rfl, hB66⟩
 have S68 := S65.call hB66
 refine ⟨_, rfl, (((Hp.le.refl _)).trans S68.le), ?_⟩
 refine Pv ?_
 refine T_part (t := 7) rfl (List.cons_ne_nil _ _) (fun h69' => ?_) (fun h69' => ?_)
 ·have h69 := h69'
  refine Ys ?_
  refine T_loadGAP _ (fun _ h => h) (still_cells (hl63 _ _ r60)) rfl rfl rfl rfl rfl rfl rfl rfl (hVs hph) ?_
  refine Ys ?_
  refine Fl 1 ?_
  refine Ys ?_
  refine T_loadGA (qV va vb vc vd vs vr : Value).cells S68 (still_part r64 (gV_sub (shP hvs hvr) 1 6 (c := (qV va vb vc vd vs vr : Value).cells.toList) (qV_flat) rfl)) rfl rfl rfl rfl rfl rfl rfl rfl (qV_sz (q_len hvs hvr rfl)) ?_
  refine Ys ?_
  refine Cs g_aumbry_aumbryref13_PackVersion ((packVR_ok S68.le va vb vc vd (s := vs) (t := vr) hvs hvr (by omega) (by omega) (by omega) (by omega)).mono ?_)
  rintro e w75 ⟨a70, c71, hc72, rfl, ho73, hB74⟩
  have hl76 := Go.Au.packV_len va vb vc vd (s := vs) (t := vr) (by have := hvs; omega) (by have := hvr; omega)
  have S77 := S68.own hB74 ho73
  refine ⟨_, rfl, (((Hp.le.refl _)).trans S77.le), ?_⟩
  refine Ys ?_
  refine Fl 53 ?_
  refine Ys ?_
  refine T_loadGAP (.agg #[.int .i64 sh, .int .i64 sl, .slice a1 X.length c1, .slice a2 Y.length c2] : Value).cells (fun _ h => h) (still_part r64 (gV_sub (shP hvs hvr) 7 4 (c := [.int .i64 sh, .int .i64 sl, .slice a1 X.length c1, .slice a2 Y.length c2]) (rfl) rfl)) rfl rfl rfl rfl rfl rfl rfl rfl (by first | rfl | simp [hVs, *]) ?_
  refine Ys ?_
  obtain ⟨G79, hl80, S78, r81⟩ := S77.stillRow 0 rfl
  refine Cs g_aumbry_aumbryref07_Verify ((verifyR_ok S78.le hph sh sl (h1.mono (hl59.trans (hl63.trans hl80))) (h2.mono (hl59.trans (hl63.trans hl80))) r81 (by omega)).mono ?_)
  rintro e w83 ⟨rfl, hB82⟩
  have S84 := S78.call hB82
  refine ⟨_, rfl, ((hl80).trans S84.le), ?_⟩
  iterate 2 refine Pv ?_
  refine T_nil ?_
  refine W_ret ?_
  refine ⟨_, ⟨_, _, rfl, rfl, rfl⟩, ?_⟩
  exact ⟨congrArg (fun z => Ending.returned (Value.bool z)) (by rw [rpB_split, h69, Bool.true_and]), S84.below⟩
 have h69 := h69'
 iterate 7 refine No ?_
 iterate 2 refine Pv ?_
 refine T_nil ?_
 refine W_ret ?_
 refine ⟨_, ⟨_, _, rfl, rfl, rfl⟩, ?_⟩
 exact ⟨congrArg (fun z => Ending.returned (Value.bool z)) (by rw [rpB_split, h69, Bool.false_and]), S68.below⟩


end Go.Proofs.YtmjmjjkigblbgaaGreatDoor
