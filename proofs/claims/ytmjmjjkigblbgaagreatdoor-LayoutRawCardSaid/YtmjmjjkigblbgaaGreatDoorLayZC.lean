/- Whether pieces are right; the statement. -/
import Derived.Test.YtmjmjjkigblbgaaGreatDoorLayZB
import Derived.Test.YtmjmjjkigblbgaaGreatDoorAuDoor
set_option linter.unusedVariables false
set_option linter.unusedSimpArgs false
set_option maxRecDepth 8192
namespace Go.Proofs.YtmjmjjkigblbgaaGreatDoor
open Go Go.F Go.RowKit

theorem nb_t {b : Bool} (h : (!b) = true) : b = false := by cases b <;> simp_all
theorem and3 {a v c : Bool} : (a && v && c) = ((a && c) && v) := by cases a <;> cases v <;> cases c <;> rfl
theorem rpB_split {ph : List UInt8} {pn va vb vc vd : Int} {vs vr : List UInt8} {sh sl : Int} {X Y Z : List (List UInt8)} {B : List UInt8} : Go.Au.rpB ph pn va vb vc vd vs vr sh sl X Y Z B = ((decide ((0 ≤ pn ∧ pn < vc) ∧ 1 ≤ vb ∧ ((B.length : Nat) : Int) = Go.Au.lenV vb vd) && (Go.Au.okW vc pn Z.length && decide (Go.Au.climbH vc pn (Go.Au.leafH B) Z = vr))) && Go.Au.vrf ph (Go.Au.packV va vb vc vd vs vr) sh sl X Y) := and3
theorem cutBq {l : List UInt8} {a : Option Addr} {c : Nat} (k : Nat) (hc : l.length ≤ c) (u : World) :
  Calls Tryz.prog 7 #[.slice a l.length c, .int .i64 ((k : Nat) : Int)] u fun e w' => e = .returned (.slice (cutA a c 1) (l.take k).length c) ∧ w' = u := by
 have e : (l.take k).length = min k l.length := List.length_take
 refine enter2 _ Tryz.func7 rfl Tryz.ntmps7 Tryz.results7 rfl ?_
 refine Wr ?_
 refine Pv ?_
 refine T_nil ?_
 refine Wr ?_
 iterate 5 refine Pv ?_
 refine T_sliceHi ((l.take k).length) rfl rfl rfl rfl rfl rfl rfl rfl rfl (by omega) (by omega) hc ?_
 refine Pv ?_
 refine T_nil ?_
 refine W_ret ?_
 exact ⟨_, ⟨_, _, rfl, rfl, rfl⟩, rfl, rfl⟩


theorem cutHq {l : List (List UInt8)} {a : Option Addr} {c : Nat} (k : Nat) (hc : l.length ≤ c) (u : World) :
  Calls Tryz.prog 57 #[.slice a l.length c, .int .i64 ((k : Nat) : Int)] u fun e w' => e = .returned (.slice (cutA a c 32) (l.take k).length c) ∧ w' = u := by
 have e : (l.take k).length = min k l.length := List.length_take
 refine enter2 _ Tryz.func57 rfl Tryz.ntmps57 Tryz.results57 rfl ?_
 refine Wr ?_
 refine Pv ?_
 refine T_nil ?_
 refine Wr ?_
 iterate 5 refine Pv ?_
 refine T_sliceHi ((l.take k).length) rfl rfl rfl rfl rfl rfl rfl rfl rfl (by omega) (by omega) hc ?_
 refine Pv ?_
 refine T_nil ?_
 refine W_ret ?_
 exact ⟨_, ⟨_, _, rfl, rfl, rfl⟩, rfl, rfl⟩


theorem cutPiece_ok {H : Hp} {w : World} (hH : H.le (hw w)) (pn va vb vc vd : Int) {vs vr : List UInt8} (hvs : vs.length = 16) (hvr : vr.length = 32) (sh sl : Int) {X Y Z : List (List UInt8)} {B : List UInt8} {a1 a2 a3 a4 : Option Addr} {n1 n2 n3 n4 c1 c2 c3 c4 : Nat} (h1 : RdH H (.slice a1 n1 c1) 32 X) (h2 : RdH H (.slice a2 n2 c2) 32 Y) (h3 : RdH H (.slice a3 n3 c3) 32 Z) (h4 : Rd H (.slice a4 n4 c4) n4 1 (B.map bV)) :
  Calls Tryz.prog 22 #[gV [[.int .i64 pn], [.int .i64 va], [.int .i64 vb], [.int .i64 vc], [.int .i64 vd], vs.map bV, vr.map bV, [.int .i64 sh], [.int .i64 sl], [.slice a1 n1 c1], [.slice a2 n2 c2], [.slice a3 n3 c3], [.slice a4 n4 c4]]] w fun e w' => ∃ a1 c1 a2 c2 a3 c3 a4 c4, e = .returned (gV [[.int .i64 pn], [.int .i64 va], [.int .i64 vb], [.int .i64 vc], [.int .i64 vd], vs.map bV, vr.map bV, [.int .i64 sh], [.int .i64 sl], [.slice a1 (X.take 70).length c1], [.slice a2 (Y.take 6).length c2], [.slice a3 (Z.take 6).length c3], [.slice a4 (B.take 100).length c4]]) ∧ RdH (F.ext H w.heap.size w') (.slice a1 (X.take 70).length c1) 32 (X.take 70) ∧ RdH (F.ext H w.heap.size w') (.slice a2 (Y.take 6).length c2) 32 (Y.take 6) ∧ RdH (F.ext H w.heap.size w') (.slice a3 (Z.take 6).length c3) 32 (Z.take 6) ∧ Rd (F.ext H w.heap.size w') (.slice a4 (B.take 100).length c4) (B.take 100).length 1 ((B.take 100).map bV) ∧ Below w.heap.size w w' := by
 obtain rfl : n1 = X.length := h1.len
 obtain rfl : n2 = Y.length := h2.len
 obtain rfl : n3 = Z.length := h3.len
 obtain rfl : n4 = B.length := h4.lenB
 refine enter1 _ Tryz.func22 rfl Tryz.ntmps22 Tryz.results22 rfl ?_
 have S0 := St.start w hH
 refine Wr ?_
 refine T_boxS S0 (fun _ _ => trivial) rfl rfl rfl rfl rfl rfl fun b1 w2 S3 => ?_
 refine T_allocS S3 (fun _ _ => trivial) rfl rfl rfl rfl rfl rfl rfl fun b4 w5 S6 => ?_
 refine T_nil ?_
 refine W_seq ?_
 refine W_plan (planF Tryz.prog H [6, 10, 13, 16]) rfl (by kernel_rfl) S6.le ?_
 have S7 := S6.drew
 refine Fl 53 ?_
 refine Fl 55 ?_
 refine T_loadS 1 55 S7 rfl rfl rfl rfl rfl rfl rfl rfl rfl (gV_cell (shP hvs hvr) 9 rfl rfl) ?_
 refine T_callQ rfl rfl g_aumbry_aumbrykeep_Cut_aumbry_api_Hash (by kernel_rfl) rfl rfl rfl rfl (fun u => cutHq (l := X) 70 (h1.2.capOf) u) ?_
 have r8 := (h1).takeA (k := 70)
 refine Fl 53 ?_
 refine Fl 56 ?_
 refine T_loadS 1 56 S7 rfl rfl rfl rfl rfl rfl rfl rfl rfl (gV_cell (shP hvs hvr) 10 rfl rfl) ?_
 refine T_callQ rfl rfl g_aumbry_aumbrykeep_Cut_aumbry_api_Hash (by kernel_rfl) rfl rfl rfl rfl (fun u => cutHq (l := Y) 6 (h2.2.capOf) u) ?_
 have r9 := (h2).takeA (k := 6)
 refine Fl 57 ?_
 refine T_loadS 1 57 S7 rfl rfl rfl rfl rfl rfl rfl rfl rfl (gV_cell (shP hvs hvr) 11 rfl rfl) ?_
 refine T_callQ rfl rfl g_aumbry_aumbrykeep_Cut_aumbry_api_Hash (by kernel_rfl) rfl rfl rfl rfl (fun u => cutHq (l := Z) 6 (h3.2.capOf) u) ?_
 have r10 := (h3).takeA (k := 6)
 refine Fl 58 ?_
 refine T_loadS 1 58 S7 rfl rfl rfl rfl rfl rfl rfl rfl rfl (gV_cell (shP hvs hvr) 12 rfl rfl) ?_
 refine T_callQ rfl rfl g_aumbry_aumbrykeep_Cut_byte (by kernel_rfl) rfl rfl rfl rfl (fun u => cutBq (l := B) 100 (h4.capOf) u) ?_
 have r11 := (h4).takeB (k := 100)
 refine Fl 53 ?_
 refine Fl 55 ?_
 refine T_store1S 1 55 S7 (fun _ h => ((Hp.le.refl _)).trans h) rfl rfl rfl rfl rfl rfl rfl rfl rfl rfl rfl rfl (Nat.lt_of_lt_of_eq (show 55 < 59 by decide) (gV_size (L := [[.int .i64 pn], [.int .i64 va], [.int .i64 vb], [.int .i64 vc], [.int .i64 vd], vs.map bV, vr.map bV, [.int .i64 sh], [.int .i64 sl], [.slice a1 X.length c1], [.slice a2 Y.length c2], [.slice a3 Z.length c3], [.slice a4 B.length c4]]) (shP hvs hvr) rfl).symm) fun w12 S13 => ?_
 have S14 := S13.re 1 rfl (show (gV [[.int .i64 pn], [.int .i64 va], [.int .i64 vb], [.int .i64 vc], [.int .i64 vd], vs.map bV, vr.map bV, [.int .i64 sh], [.int .i64 sl], [.slice a1 X.length c1], [.slice a2 Y.length c2], [.slice a3 Z.length c3], [.slice a4 B.length c4]] : Value).cells.setIfInBounds 55 (.slice (cutA a1 c1 32) (X.take 70).length c1) = (gV [[.int .i64 pn], [.int .i64 va], [.int .i64 vb], [.int .i64 vc], [.int .i64 vd], vs.map bV, vr.map bV, [.int .i64 sh], [.int .i64 sl], [.slice (cutA a1 c1 32) (X.take 70).length c1], [.slice a2 Y.length c2], [.slice a3 Z.length c3], [.slice a4 B.length c4]] : Value).cells from gV_set (shP hvs hvr) 9 _ rfl rfl)
 refine Fl 53 ?_
 refine Fl 56 ?_
 refine T_store1S 1 56 S14 (fun _ h => ((Hp.le.refl _)).trans h) rfl rfl rfl rfl rfl rfl rfl rfl rfl rfl rfl rfl (Nat.lt_of_lt_of_eq (show 56 < 59 by decide) (gV_size (L := [[.int .i64 pn], [.int .i64 va], [.int .i64 vb], [.int .i64 vc], [.int .i64 vd], vs.map bV, vr.map bV, [.int .i64 sh], [.int .i64 sl], [.slice (cutA a1 c1 32) (X.take 70).length c1], [.slice a2 Y.length c2], [.slice a3 Z.length c3], [.slice a4 B.length c4]]) (shP hvs hvr) rfl).symm) fun w15 S16 => ?_
 have S17 := S16.re 1 rfl (show (gV [[.int .i64 pn], [.int .i64 va], [.int .i64 vb], [.int .i64 vc], [.int .i64 vd], vs.map bV, vr.map bV, [.int .i64 sh], [.int .i64 sl], [.slice (cutA a1 c1 32) (X.take 70).length c1], [.slice a2 Y.length c2], [.slice a3 Z.length c3], [.slice a4 B.length c4]] : Value).cells.setIfInBounds 56 (.slice (cutA a2 c2 32) (Y.take 6).length c2) = (gV [[.int .i64 pn], [.int .i64 va], [.int .i64 vb], [.int .i64 vc], [.int .i64 vd], vs.map bV, vr.map bV, [.int .i64 sh], [.int .i64 sl], [.slice (cutA a1 c1 32) (X.take 70).length c1], [.slice (cutA a2 c2 32) (Y.take 6).length c2], [.slice a3 Z.length c3], [.slice a4 B.length c4]] : Value).cells from gV_set (shP hvs hvr) 10 _ rfl rfl)
 refine Fl 57 ?_
 refine T_store1S 1 57 S17 (fun _ h => ((Hp.le.refl _)).trans h) rfl rfl rfl rfl rfl rfl rfl rfl rfl rfl rfl rfl (Nat.lt_of_lt_of_eq (show 57 < 59 by decide) (gV_size (L := [[.int .i64 pn], [.int .i64 va], [.int .i64 vb], [.int .i64 vc], [.int .i64 vd], vs.map bV, vr.map bV, [.int .i64 sh], [.int .i64 sl], [.slice (cutA a1 c1 32) (X.take 70).length c1], [.slice (cutA a2 c2 32) (Y.take 6).length c2], [.slice a3 Z.length c3], [.slice a4 B.length c4]]) (shP hvs hvr) rfl).symm) fun w18 S19 => ?_
 have S20 := S19.re 1 rfl (show (gV [[.int .i64 pn], [.int .i64 va], [.int .i64 vb], [.int .i64 vc], [.int .i64 vd], vs.map bV, vr.map bV, [.int .i64 sh], [.int .i64 sl], [.slice (cutA a1 c1 32) (X.take 70).length c1], [.slice (cutA a2 c2 32) (Y.take 6).length c2], [.slice a3 Z.length c3], [.slice a4 B.length c4]] : Value).cells.setIfInBounds 57 (.slice (cutA a3 c3 32) (Z.take 6).length c3) = (gV [[.int .i64 pn], [.int .i64 va], [.int .i64 vb], [.int .i64 vc], [.int .i64 vd], vs.map bV, vr.map bV, [.int .i64 sh], [.int .i64 sl], [.slice (cutA a1 c1 32) (X.take 70).length c1], [.slice (cutA a2 c2 32) (Y.take 6).length c2], [.slice (cutA a3 c3 32) (Z.take 6).length c3], [.slice a4 B.length c4]] : Value).cells from gV_set (shP hvs hvr) 11 _ rfl rfl)
 refine Fl 58 ?_
 refine T_store1S 1 58 S20 (fun _ h => ((Hp.le.refl _)).trans h) rfl rfl rfl rfl rfl rfl rfl rfl rfl rfl rfl rfl (Nat.lt_of_lt_of_eq (show 58 < 59 by decide) (gV_size (L := [[.int .i64 pn], [.int .i64 va], [.int .i64 vb], [.int .i64 vc], [.int .i64 vd], vs.map bV, vr.map bV, [.int .i64 sh], [.int .i64 sl], [.slice (cutA a1 c1 32) (X.take 70).length c1], [.slice (cutA a2 c2 32) (Y.take 6).length c2], [.slice (cutA a3 c3 32) (Z.take 6).length c3], [.slice a4 B.length c4]]) (shP hvs hvr) rfl).symm) fun w21 S22 => ?_
 have S23 := S22.re 1 rfl (show (gV [[.int .i64 pn], [.int .i64 va], [.int .i64 vb], [.int .i64 vc], [.int .i64 vd], vs.map bV, vr.map bV, [.int .i64 sh], [.int .i64 sl], [.slice (cutA a1 c1 32) (X.take 70).length c1], [.slice (cutA a2 c2 32) (Y.take 6).length c2], [.slice (cutA a3 c3 32) (Z.take 6).length c3], [.slice a4 B.length c4]] : Value).cells.setIfInBounds 58 (.slice (cutA a4 c4 1) (B.take 100).length c4) = (gV [[.int .i64 pn], [.int .i64 va], [.int .i64 vb], [.int .i64 vc], [.int .i64 vd], vs.map bV, vr.map bV, [.int .i64 sh], [.int .i64 sl], [.slice (cutA a1 c1 32) (X.take 70).length c1], [.slice (cutA a2 c2 32) (Y.take 6).length c2], [.slice (cutA a3 c3 32) (Z.take 6).length c3], [.slice (cutA a4 c4 1) (B.take 100).length c4]] : Value).cells from gV_set (shP hvs hvr) 12 _ rfl rfl)
 refine T_nil ?_
 refine Wr ?_
 refine T_loadFS 1 S23 rfl rfl rfl rfl rfl rfl rfl rfl rfl (gV_size (L := [[.int .i64 pn], [.int .i64 va], [.int .i64 vb], [.int .i64 vc], [.int .i64 vd], vs.map bV, vr.map bV, [.int .i64 sh], [.int .i64 sl], [.slice (cutA a1 c1 32) (X.take 70).length c1], [.slice (cutA a2 c2 32) (Y.take 6).length c2], [.slice (cutA a3 c3 32) (Z.take 6).length c3], [.slice (cutA a4 c4 1) (B.take 100).length c4]]) (shP hvs hvr) rfl) ?_
 refine T_storeFS 0 S23 (fun _ _ => trivial) rfl rfl rfl rfl rfl rfl rfl rfl rfl (gV_size (L := [[.int .i64 pn], [.int .i64 va], [.int .i64 vb], [.int .i64 vc], [.int .i64 vd], vs.map bV, vr.map bV, [.int .i64 sh], [.int .i64 sl], [.slice (cutA a1 c1 32) (X.take 70).length c1], [.slice (cutA a2 c2 32) (Y.take 6).length c2], [.slice (cutA a3 c3 32) (Z.take 6).length c3], [.slice (cutA a4 c4 1) (B.take 100).length c4]]) (shP hvs hvr) rfl) (gV_size (L := [[.int .i64 pn], [.int .i64 va], [.int .i64 vb], [.int .i64 vc], [.int .i64 vd], vs.map bV, vr.map bV, [.int .i64 sh], [.int .i64 sl], [.slice (cutA a1 c1 32) (X.take 70).length c1], [.slice (cutA a2 c2 32) (Y.take 6).length c2], [.slice (cutA a3 c3 32) (Z.take 6).length c3], [.slice (cutA a4 c4 1) (B.take 100).length c4]]) (shP hvs hvr) rfl) (gV_one (OneL.one rfl (OneL.one rfl (OneL.one rfl (OneL.one rfl (OneL.one rfl (OneL.arr (OneL.arr (OneL.one rfl (OneL.one rfl (OneL.one rfl (OneL.one rfl (OneL.one rfl (OneL.one rfl OneL.nil)))))))))))))) fun w24 S25 => ?_
 refine T_nil ?_
 refine W_ret ?_
 refine ⟨_, ⟨_, _, _, rfl, rfl, run_loadVarA rfl rfl (gV_size (L := [[.int .i64 pn], [.int .i64 va], [.int .i64 vb], [.int .i64 vc], [.int .i64 vd], vs.map bV, vr.map bV, [.int .i64 sh], [.int .i64 sl], [.slice (cutA a1 c1 32) (X.take 70).length c1], [.slice (cutA a2 c2 32) (Y.take 6).length c2], [.slice (cutA a3 c3 32) (Z.take 6).length c3], [.slice (cutA a4 c4 1) (B.take 100).length c4]]) (shP hvs hvr) rfl) (S25.cells 0 rfl), rfl⟩, ?_⟩
 exact ⟨_, _, _, _, _, _, _, _, rfl, (r8).mono S25.fin, (r9).mono S25.fin, (r10).mono S25.fin, (r11).mono S25.fin, S25.below⟩


theorem rightP_ok {H : Hp} {w : World} (hH : H.le (hw w)) (hT : Tabs H) {ph : List UInt8} (hph : ph.length = 32) (pn va vb vc vd : Int) {vs vr : List UInt8} (hvs : vs.length = 16) (hvr : vr.length = 32) (sh sl : Int) {X Y Z : List (List UInt8)} {B : List UInt8} {a1 a2 a3 a4 : Option Addr} {n1 n2 n3 n4 c1 c2 c3 c4 : Nat} (h1 : RdH H (.slice a1 n1 c1) 32 X) (h2 : RdH H (.slice a2 n2 c2) 32 Y) (h3 : RdH H (.slice a3 n3 c3) 32 Z) (h4 : Rd H (.slice a4 n4 c4) n4 1 (B.map bV)) (hva : va ≤ 9223372036854775807) (hvb : vb ≤ 9223372036854775807) (hvc : vc ≤ 9223372036854775807) (hvd : vd ≤ 9223372036854775807) (hX : X.length ≤ 70) (hY : Y.length ≤ 6) (hZ : Z.length ≤ 6) (hB : B.length ≤ 100) :
  Calls Tryz.prog 19 #[hV ph, gV [[.int .i64 pn], [.int .i64 va], [.int .i64 vb], [.int .i64 vc], [.int .i64 vd], vs.map bV, vr.map bV, [.int .i64 sh], [.int .i64 sl], [.slice a1 n1 c1], [.slice a2 n2 c2], [.slice a3 n3 c3], [.slice a4 n4 c4]]] w fun e w' => e = .returned (.bool (Go.Au.rpB ph pn va vb vc vd vs vr sh sl X Y Z B)) ∧ Below w.heap.size w w' := by
 obtain rfl : n1 = X.length := h1.len
 obtain rfl : n2 = Y.length := h2.len
 obtain rfl : n3 = Z.length := h3.len
 obtain rfl : n4 = B.length := h4.lenB
 refine enter2 _ Tryz.func19 rfl Tryz.ntmps19 Tryz.results19 rfl ?_
 have S0 := St.start w hH
 refine Wr ?_
 refine T_boxS S0 (fun _ _ => trivial) rfl rfl rfl rfl rfl rfl fun b51 w52 S53 => ?_
 refine T_boxS S53 (fun _ _ => trivial) rfl rfl rfl rfl rfl rfl fun b54 w55 S56 => ?_
 refine Pv ?_
 refine T_nil ?_
 refine Wr ?_
 refine Fl 1 ?_
 refine T_loadAS (qV va vb vc vd vs vr : Value).cells 0 S56 rfl rfl rfl rfl rfl rfl rfl rfl rfl (qV_sz (q_len hvs hvr rfl)) (gV_sub (shP hvs hvr) 1 6 (c := (qV va vb vc vd vs vr : Value).cells.toList) (qV_flat) rfl) ?_
 refine T_allocS S56 (fun _ _ => trivial) rfl rfl rfl rfl rfl rfl rfl fun b57 w58 S59 => ?_
 refine T_storeFS 0 S59 (fun _ _ => trivial) rfl rfl rfl rfl rfl rfl rfl rfl rfl (qV_sz (q_len hvs hvr rfl)) (qV_sz (q_len hvs hvr rfl)) (qV_one) fun w60 S61 => ?_
 refine T_nil ?_
 iterate 2 refine W_seq ?_
 obtain ⟨G63, hl64, S62, r65⟩ := S61.stillBlk 1 rfl
 obtain ⟨G67, hl68, S66, r69⟩ := S62.stillBlk 1 rfl
 refine W_plan (planF Tryz.prog G67 [20, 30, 34]) rfl (by kernel_rfl) S66.le ?_
 have S70 := S66.drew
 refine Fl 0 ?_
 refine T_loadG S70 (still_cell (hl68 _ _ r65) (gV_cell (shP hvs hvr) 0 rfl rfl)) rfl rfl rfl rfl rfl rfl rfl ?_
 iterate 2 refine Pv ?_
 refine T_part (t := 11) rfl (List.cons_ne_nil _ _) (fun h71' => ?_) (fun h71' => ?_)
 ·have h71 := of_decide_eq_true h71'
  iterate 5 refine No ?_
  iterate 2 refine Pv ?_
  iterate 9 refine No ?_
  iterate 2 refine Pv ?_
  iterate 7 refine No ?_
  refine Pv ?_
  refine T_nil ?_
  refine W_cond_true rfl ?_
  refine Wr ?_
  refine Pv ?_
  refine T_nil ?_
  refine W_ret ?_
  refine ⟨_, ⟨_, _, rfl, rfl, rfl⟩, ?_⟩
  exact ⟨congrArg (fun z => Ending.returned (Value.bool z)) (by first | exact (Go.Au.rpB_a (fun q => by omega)).symm | exact (Go.Au.rpB_a (fun q => h71 q.2.2)).symm | exact (Go.Au.rpB_b (nb_t h71)).symm), S70.below⟩
 have h71 := of_decide_eq_false h71'
 refine Ys ?_
 refine Fl 0 ?_
 refine Ys ?_
 refine T_loadG S70 (still_cell (hl68 _ _ r65) (gV_cell (shP hvs hvr) 0 rfl rfl)) rfl rfl rfl rfl rfl rfl rfl ?_
 refine Ys ?_
 refine Fl 2 ?_
 refine Ys ?_
 refine T_loadS 0 2 S70 rfl rfl rfl rfl rfl rfl rfl rfl rfl qV_2 ?_
 refine Ys ?_
 iterate 3 refine Pv ?_
 refine T_part (t := 18) rfl (List.cons_ne_nil _ _) (fun h72' => ?_) (fun h72' => ?_)
 ·have h72 := of_decide_eq_true h72'
  iterate 9 refine No ?_
  iterate 2 refine Pv ?_
  iterate 7 refine No ?_
  refine Pv ?_
  refine T_nil ?_
  refine W_cond_true rfl ?_
  refine Wr ?_
  refine Pv ?_
  refine T_nil ?_
  refine W_ret ?_
  refine ⟨_, ⟨_, _, rfl, rfl, rfl⟩, ?_⟩
  exact ⟨congrArg (fun z => Ending.returned (Value.bool z)) (by first | exact (Go.Au.rpB_a (fun q => by omega)).symm | exact (Go.Au.rpB_a (fun q => h72 q.2.2)).symm | exact (Go.Au.rpB_b (nb_t h72)).symm), S70.below⟩
 have h72 := of_decide_eq_false h72'
 refine Ys ?_
 refine Fl 58 ?_
 refine Ys ?_
 refine T_loadGP (fun _ h => h) (still_cell (hl68 _ _ r65) (gV_cell (shP hvs hvr) 12 rfl rfl)) rfl rfl rfl rfl rfl rfl rfl ?_
 refine Ys ?_
 refine Pv ?_
 refine Ys ?_
 refine Fl 1 ?_
 refine Ys ?_
 refine T_loadS 0 1 S70 rfl rfl rfl rfl rfl rfl rfl rfl rfl qV_1 ?_
 refine Ys ?_
 refine Fl 3 ?_
 refine Ys ?_
 refine T_loadS 0 3 S70 rfl rfl rfl rfl rfl rfl rfl rfl rfl qV_3 ?_
 refine Ys ?_
 refine T_callS rfl rfl g_aumbry_layout_length rfl rfl rfl rfl ((length_ok S70.le vb vd (by omega)).mono ?_)
 rintro e w74 ⟨rfl, hB73⟩
 have S75 := S70.call hB73
 refine ⟨_, rfl, (((Hp.le.refl _)).trans S75.le), ?_⟩
 refine Ys ?_
 iterate 3 refine Pv ?_
 refine T_part (t := 29) rfl (List.cons_ne_nil _ _) (fun h76' => ?_) (fun h76' => ?_)
 ·have h76 := of_ndec_t h76'
  iterate 7 refine No ?_
  refine Pv ?_
  refine T_nil ?_
  refine W_cond_true rfl ?_
  refine Wr ?_
  refine Pv ?_
  refine T_nil ?_
  refine W_ret ?_
  refine ⟨_, ⟨_, _, rfl, rfl, rfl⟩, ?_⟩
  exact ⟨congrArg (fun z => Ending.returned (Value.bool z)) (by first | exact (Go.Au.rpB_a (fun q => by omega)).symm | exact (Go.Au.rpB_a (fun q => h76 q.2.2)).symm | exact (Go.Au.rpB_b (nb_t h76)).symm), S75.below⟩
 have h76 := of_ndec_f h76'
 refine Ys ?_
 refine T_loadGAP _ (fun _ h => h) (still_cells r69) rfl rfl rfl rfl rfl rfl rfl rfl (hVs hph) ?_
 refine Ys ?_
 refine T_loadFS 0 S75 rfl rfl rfl rfl rfl rfl rfl rfl rfl (qV_sz (q_len hvs hvr rfl)) ?_
 refine Ys ?_
 refine T_callS rfl rfl g_aumbry_layout_PackVersion rfl rfl rfl rfl ((packV_ok S75.le (hT.mono (hl64.trans hl68)) va vb vc vd (s := vs) (t := vr) hvs hvr (by omega) (by omega) (by omega) (by omega)).mono ?_)
 rintro e w82 ⟨a77, c78, hc79, rfl, ho80, hB81⟩
 have hl83 := Go.Au.packV_len va vb vc vd (s := vs) (t := vr) (by have := hvs; omega) (by have := hvr; omega)
 have S84 := S75.own hB81 ho80
 refine ⟨_, rfl, (((Hp.le.refl _)).trans S84.le), ?_⟩
 refine Ys ?_
 refine Fl 53 ?_
 refine Ys ?_
 refine T_loadGAP (.agg #[.int .i64 sh, .int .i64 sl, .slice a1 X.length c1, .slice a2 Y.length c2] : Value).cells (fun _ h => h) (still_part (hl68 _ _ r65) (gV_sub (shP hvs hvr) 7 4 (c := [.int .i64 sh, .int .i64 sl, .slice a1 X.length c1, .slice a2 Y.length c2]) (rfl) rfl)) rfl rfl rfl rfl rfl rfl rfl rfl (by first | rfl | simp [hVs, *]) ?_
 refine Ys ?_
 obtain ⟨G86, hl87, S85, r88⟩ := S84.stillRow 0 rfl
 refine T_callS rfl rfl g_aumbry_mss_Verify rfl rfl rfl rfl ((verify_ok S85.le (hT.mono (hl64.trans (hl68.trans hl87))) hph sh sl (h1.mono (hl64.trans (hl68.trans hl87))) (h2.mono (hl64.trans (hl68.trans hl87))) r88 (by omega)).mono ?_)
 rintro e w90 ⟨rfl, hB89⟩
 have S91 := S85.call hB89
 refine ⟨_, rfl, ((hl87).trans S91.le), ?_⟩
 refine Ys ?_
 iterate 2 refine Pv ?_
 refine T_nil ?_
 refine W_cond rfl (fun h92 => ?_) (fun h92 => ?_)
 ·refine Wr ?_
  refine Pv ?_
  refine T_nil ?_
  refine W_ret ?_
  refine ⟨_, ⟨_, _, rfl, rfl, rfl⟩, ?_⟩
  exact ⟨congrArg (fun z => Ending.returned (Value.bool z)) (by first | exact (Go.Au.rpB_a (fun q => by omega)).symm | exact (Go.Au.rpB_a (fun q => h92 q.2.2)).symm | exact (Go.Au.rpB_b (nb_t h92)).symm), S91.below⟩
 refine W_skip ?_
 refine W_seq ?_
 obtain ⟨G94, hl95, S93, r96⟩ := S91.stillBlk 0 rfl
 refine W_plan (planF Tryz.prog G94 [39, 41, 43, 48]) rfl (by kernel_rfl) S93.le ?_
 have S97 := S93.drew
 refine Fl 20 ?_
 refine T_loadGAP _ (fun _ h => h) (still_part r96 (qV_t (by rw [hvs]))) rfl rfl rfl rfl rfl rfl rfl rfl (hVs hvr) ?_
 refine Fl 2 ?_
 refine T_loadGP (fun _ h => h) (still_cell r96 qV_2) rfl rfl rfl rfl rfl rfl rfl ?_
 refine Fl 0 ?_
 refine T_loadGP (fun _ h => h) (still_cell (hl95 _ _ (hl87 _ _ (hl68 _ _ r65))) (gV_cell (shP hvs hvr) 0 rfl rfl)) rfl rfl rfl rfl rfl rfl rfl ?_
 refine Fl 58 ?_
 refine T_loadG S97 (still_cell (hl95 _ _ (hl87 _ _ (hl68 _ _ r65))) (gV_cell (shP hvs hvr) 12 rfl rfl)) rfl rfl rfl rfl rfl rfl rfl ?_
 refine T_callS rfl rfl g_aumbry_tree_Leaf rfl rfl rfl rfl ((leaf_ok S97.le (hT.mono (hl64.trans (hl68.trans (hl87.trans hl95)))) (h4.mono (hl64.trans (hl68.trans (hl87.trans hl95)))) (by omega)).mono ?_)
 rintro e w99 ⟨rfl, hB98⟩
 have S100 := S97.call hB98
 refine ⟨_, rfl, (((Hp.le.refl _)).trans S100.le), ?_⟩
 refine Fl 57 ?_
 refine T_loadGP (fun _ h => h) (still_cell (hl95 _ _ (hl87 _ _ (hl68 _ _ r65))) (gV_cell (shP hvs hvr) 11 rfl rfl)) rfl rfl rfl rfl rfl rfl rfl ?_
 refine T_callS rfl rfl g_aumbry_tree_Check rfl rfl rfl rfl ((check_ok S100.le (hT.mono (hl64.trans (hl68.trans (hl87.trans hl95)))) hvr vc pn (Go.Au.leafH_len _) (h3.mono (hl64.trans (hl68.trans (hl87.trans hl95))))).mono ?_)
 rintro e w102 ⟨rfl, hB101⟩
 have S103 := S100.call hB101
 refine ⟨_, rfl, (((Hp.le.refl _)).trans S103.le), ?_⟩
 refine Pv ?_
 refine T_nil ?_
 refine W_ret ?_
 refine ⟨_, ⟨_, _, rfl, rfl, rfl⟩, ?_⟩
 have hv1 : 1 ≤ vb := by
  rcases Int.lt_or_le vb 1 with hx | hx
  ·have hy := Go.Au.lenV_neg hx vd; omega
  ·exact hx
 exact ⟨congrArg (fun z => Ending.returned (Value.bool z)) (Go.Au.rpB_d ⟨⟨by omega, by omega⟩, hv1, by omega⟩ (nb_f h92)).symm, S103.below⟩


theorem placedR_ok {H : Hp} {w : World} (hH : H.le (hw w)) (pn va vb vc vd : Int) {vs vr : List UInt8} (hvs : vs.length = 16) (hvr : vr.length = 32) (sh sl : Int) {X Y Z : List (List UInt8)} {B : List UInt8} {a1 a2 a3 a4 : Option Addr} {n1 n2 n3 n4 c1 c2 c3 c4 : Nat} (h1 : RdH H (.slice a1 n1 c1) 32 X) (h2 : RdH H (.slice a2 n2 c2) 32 Y) (h3 : RdH H (.slice a3 n3 c3) 32 Z) (h4 : Rd H (.slice a4 n4 c4) n4 1 (B.map bV)) (hva : va ≤ 9223372036854775807) (hvb : vb ≤ 9223372036854775807) (hvc : vc ≤ 9223372036854775807) (hvd : vd ≤ 9223372036854775807) (hX : X.length ≤ 70) (hY : Y.length ≤ 6) (hZ : Z.length ≤ 6) (hB : B.length ≤ 100) :
  Calls Tryz.prog 55 #[gV [[.int .i64 pn], [.int .i64 va], [.int .i64 vb], [.int .i64 vc], [.int .i64 vd], vs.map bV, vr.map bV, [.int .i64 sh], [.int .i64 sl], [.slice a1 n1 c1], [.slice a2 n2 c2], [.slice a3 n3 c3], [.slice a4 n4 c4]]] w fun e w' => e = .returned (.bool (decide ((0 ≤ pn ∧ pn < vc) ∧ 1 ≤ vb ∧ ((B.length : Nat) : Int) = Go.Au.lenV vb vd) && (Go.Au.okW vc pn Z.length && decide (Go.Au.climbH vc pn (Go.Au.leafH B) Z = vr)))) ∧ Below w.heap.size w w' := by
 obtain rfl : n1 = X.length := h1.len
 obtain rfl : n2 = Y.length := h2.len
 obtain rfl : n3 = Z.length := h3.len
 obtain rfl : n4 = B.length := h4.lenB
 refine enter1 _ Tryz.func55 rfl Tryz.ntmps55 Tryz.results55 rfl ?_
 have S0 := St.start w hH
 refine Wr ?_
 refine T_boxS S0 (fun _ _ => trivial) rfl rfl rfl rfl rfl rfl fun b51 w52 S53 => ?_
 refine Pv ?_
 refine T_nil ?_
 refine Wr ?_
 refine Fl 1 ?_
 refine T_loadAS (qV va vb vc vd vs vr : Value).cells 0 S53 rfl rfl rfl rfl rfl rfl rfl rfl rfl (qV_sz (q_len hvs hvr rfl)) (gV_sub (shP hvs hvr) 1 6 (c := (qV va vb vc vd vs vr : Value).cells.toList) (qV_flat) rfl) ?_
 refine T_allocS S53 (fun _ _ => trivial) rfl rfl rfl rfl rfl rfl rfl fun b54 w55 S56 => ?_
 refine T_storeFS 0 S56 (fun _ _ => trivial) rfl rfl rfl rfl rfl rfl rfl rfl rfl (qV_sz (q_len hvs hvr rfl)) (qV_sz (q_len hvs hvr rfl)) (qV_one) fun w57 S58 => ?_
 refine T_nil ?_
 refine W_seq ?_
 obtain ⟨G60, hl61, S59, r62⟩ := S58.stillBlk 1 rfl
 obtain ⟨G64, hl65, S63, r66⟩ := S59.stillBlk 0 rfl
 refine W_plan (planF Tryz.prog G64 [23, 34, 36, 38, 43]) rfl (by kernel_rfl) S63.le ?_
 have S67 := S63.drew
 refine Fl 0 ?_
 refine T_loadG S67 (still_cell (hl65 _ _ r62) (gV_cell (shP hvs hvr) 0 rfl rfl)) rfl rfl rfl rfl rfl rfl rfl ?_
 iterate 2 refine Pv ?_
 refine T_part (t := 9) rfl (List.cons_ne_nil _ _) (fun h68' => ?_) (fun h68' => ?_)
 ·have h68 := of_decide_eq_true h68'
  refine Ys ?_
  refine Fl 0 ?_
  refine Ys ?_
  refine T_loadG S67 (still_cell (hl65 _ _ r62) (gV_cell (shP hvs hvr) 0 rfl rfl)) rfl rfl rfl rfl rfl rfl rfl ?_
  refine Ys ?_
  refine Fl 2 ?_
  refine Ys ?_
  refine T_loadG S67 (still_cell r66 qV_2) rfl rfl rfl rfl rfl rfl rfl ?_
  refine Ys ?_
  iterate 3 refine Pv ?_
  refine T_part (t := 16) rfl (List.cons_ne_nil _ _) (fun h69' => ?_) (fun h69' => ?_)
  ·have h69 := of_decide_eq_true h69'
   refine Ys ?_
   refine Fl 1 ?_
   refine Ys ?_
   refine T_loadG S67 (still_cell r66 qV_1) rfl rfl rfl rfl rfl rfl rfl ?_
   refine Ys ?_
   iterate 3 refine Pv ?_
   refine T_part (t := 21) rfl (List.cons_ne_nil _ _) (fun h70' => ?_) (fun h70' => ?_)
   ·have h70 := of_decide_eq_true h70'
    refine Ys ?_
    refine Fl 58 ?_
    refine Ys ?_
    refine T_loadGP (fun _ h => h) (still_cell (hl65 _ _ r62) (gV_cell (shP hvs hvr) 12 rfl rfl)) rfl rfl rfl rfl rfl rfl rfl ?_
    refine Ys ?_
    refine Pv ?_
    refine Ys ?_
    refine Fl 3 ?_
    refine Ys ?_
    refine T_loadG S67 (still_cell r66 qV_3) rfl rfl rfl rfl rfl rfl rfl ?_
    refine Ys ?_
    refine Fl 1 ?_
    refine Ys ?_
    refine T_loadG S67 (still_cell r66 qV_1) rfl rfl rfl rfl rfl rfl rfl ?_
    refine Ys ?_
    refine T_callS rfl rfl g_aumbry_aumbryref04_Length rfl rfl rfl rfl ((lengthR_ok S67.le vd vb (by omega) (by omega)).mono ?_)
    rintro e w72 ⟨rfl, hB71⟩
    have S73 := S67.call hB71
    refine ⟨_, rfl, (((Hp.le.refl _)).trans S73.le), ?_⟩
    refine Ys ?_
    iterate 3 refine Pv ?_
    refine T_part (t := 32) rfl (List.cons_ne_nil _ _) (fun h74' => ?_) (fun h74' => ?_)
    ·have h74 := of_decide_eq_true h74'
     refine Ys ?_
     refine Fl 20 ?_
     refine Ys ?_
     refine T_loadGAP _ (fun _ h => h) (still_part r66 (qV_t (by rw [hvs]))) rfl rfl rfl rfl rfl rfl rfl rfl (hVs hvr) ?_
     refine Ys ?_
     refine Fl 2 ?_
     refine Ys ?_
     refine T_loadGP (fun _ h => h) (still_cell r66 qV_2) rfl rfl rfl rfl rfl rfl rfl ?_
     refine Ys ?_
     refine Fl 0 ?_
     refine Ys ?_
     refine T_loadGP (fun _ h => h) (still_cell (hl65 _ _ r62) (gV_cell (shP hvs hvr) 0 rfl rfl)) rfl rfl rfl rfl rfl rfl rfl ?_
     refine Ys ?_
     refine Fl 58 ?_
     refine Ys ?_
     refine T_loadG S73 (still_cell (hl65 _ _ r62) (gV_cell (shP hvs hvr) 12 rfl rfl)) rfl rfl rfl rfl rfl rfl rfl ?_
     refine Ys ?_
     refine T_callS rfl rfl g_aumbry_aumbryref07_Leaf rfl rfl rfl rfl ((leafR_ok S73.le (h4.mono (hl61.trans hl65)) (by omega)).mono ?_)
     rintro e w76 ⟨rfl, hB75⟩
     have S77 := S73.call hB75
     refine ⟨_, rfl, (((Hp.le.refl _)).trans S77.le), ?_⟩
     refine Ys ?_
     refine Fl 57 ?_
     refine Ys ?_
     refine T_loadGP (fun _ h => h) (still_cell (hl65 _ _ r62) (gV_cell (shP hvs hvr) 11 rfl rfl)) rfl rfl rfl rfl rfl rfl rfl ?_
     refine Ys ?_
     refine T_callS rfl rfl g_aumbry_aumbryref07_Check rfl rfl rfl rfl ((checkR_ok S77.le hvr vc pn (Go.Au.leafH_len _) (h3.mono (hl61.trans hl65))).mono ?_)
     rintro e w79 ⟨rfl, hB78⟩
     have S80 := S77.call hB78
     refine ⟨_, rfl, (((Hp.le.refl _)).trans S80.le), ?_⟩
     iterate 2 refine Pv ?_
     refine T_nil ?_
     refine W_ret ?_
     refine ⟨_, ⟨_, _, rfl, rfl, rfl⟩, ?_⟩
     exact ⟨congrArg (fun z => Ending.returned (Value.bool z)) (by rw [decide_eq_true (show ((0 ≤ pn ∧ pn < vc) ∧ 1 ≤ vb ∧ ((B.length : Nat) : Int) = Go.Au.lenV vb vd) from ⟨⟨by omega, by omega⟩, by omega, h74⟩)]; rfl), S80.below⟩
    have h74 := of_decide_eq_false h74'
    iterate 12 refine No ?_
    iterate 2 refine Pv ?_
    refine T_nil ?_
    refine W_ret ?_
    refine ⟨_, ⟨_, _, rfl, rfl, rfl⟩, ?_⟩
    exact ⟨congrArg (fun z => Ending.returned (Value.bool z)) (by rw [decide_eq_false (show ¬ ((0 ≤ pn ∧ pn < vc) ∧ 1 ≤ vb ∧ ((B.length : Nat) : Int) = Go.Au.lenV vb vd) from fun q => by first | omega | exact h74 q.2.2)]; rfl), S73.below⟩
   have h70 := of_decide_eq_false h70'
   iterate 9 refine No ?_
   iterate 2 refine Pv ?_
   iterate 12 refine No ?_
   iterate 2 refine Pv ?_
   refine T_nil ?_
   refine W_ret ?_
   refine ⟨_, ⟨_, _, rfl, rfl, rfl⟩, ?_⟩
   exact ⟨congrArg (fun z => Ending.returned (Value.bool z)) (by rw [decide_eq_false (show ¬ ((0 ≤ pn ∧ pn < vc) ∧ 1 ≤ vb ∧ ((B.length : Nat) : Int) = Go.Au.lenV vb vd) from fun q => by first | omega | exact h70 q.2.2)]; rfl), S67.below⟩
  have h69 := of_decide_eq_false h69'
  iterate 3 refine No ?_
  iterate 2 refine Pv ?_
  iterate 9 refine No ?_
  iterate 2 refine Pv ?_
  iterate 12 refine No ?_
  iterate 2 refine Pv ?_
  refine T_nil ?_
  refine W_ret ?_
  refine ⟨_, ⟨_, _, rfl, rfl, rfl⟩, ?_⟩
  exact ⟨congrArg (fun z => Ending.returned (Value.bool z)) (by rw [decide_eq_false (show ¬ ((0 ≤ pn ∧ pn < vc) ∧ 1 ≤ vb ∧ ((B.length : Nat) : Int) = Go.Au.lenV vb vd) from fun q => by first | omega | exact h69 q.2.2)]; rfl), S67.below⟩
 have h68 := of_decide_eq_false h68'
 iterate 5 refine No ?_
 iterate 2 (refine Pv ?_; refine Pv ?_; refine No ?_; refine No ?_; refine No ?_)
 iterate 6 refine No ?_
 iterate 2 refine Pv ?_
 iterate 12 refine No ?_
 iterate 2 refine Pv ?_
 refine T_nil ?_
 refine W_ret ?_
 refine ⟨_, ⟨_, _, rfl, rfl, rfl⟩, ?_⟩
 exact ⟨congrArg (fun z => Ending.returned (Value.bool z)) (by rw [decide_eq_false (show ¬ ((0 ≤ pn ∧ pn < vc) ∧ 1 ≤ vb ∧ ((B.length : Nat) : Int) = Go.Au.lenV vb vd) from fun q => by first | omega | exact h68 q.2.2)]; rfl), S67.below⟩


theorem rightPR_ok {H : Hp} {w : World} (hH : H.le (hw w)) {ph : List UInt8} (hph : ph.length = 32) (pn va vb vc vd : Int) {vs vr : List UInt8} (hvs : vs.length = 16) (hvr : vr.length = 32) (sh sl : Int) {X Y Z : List (List UInt8)} {B : List UInt8} {a1 a2 a3 a4 : Option Addr} {n1 n2 n3 n4 c1 c2 c3 c4 : Nat} (h1 : RdH H (.slice a1 n1 c1) 32 X) (h2 : RdH H (.slice a2 n2 c2) 32 Y) (h3 : RdH H (.slice a3 n3 c3) 32 Z) (h4 : Rd H (.slice a4 n4 c4) n4 1 (B.map bV)) (hva : va ≤ 9223372036854775807) (hvb : vb ≤ 9223372036854775807) (hvc : vc ≤ 9223372036854775807) (hvd : vd ≤ 9223372036854775807) (hX : X.length ≤ 70) (hY : Y.length ≤ 6) (hZ : Z.length ≤ 6) (hB : B.length ≤ 100) :
  Calls Tryz.prog 20 #[hV ph, gV [[.int .i64 pn], [.int .i64 va], [.int .i64 vb], [.int .i64 vc], [.int .i64 vd], vs.map bV, vr.map bV, [.int .i64 sh], [.int .i64 sl], [.slice a1 n1 c1], [.slice a2 n2 c2], [.slice a3 n3 c3], [.slice a4 n4 c4]]] w fun e w' => e = .returned (.bool (Go.Au.rpB ph pn va vb vc vd vs vr sh sl X Y Z B)) ∧ Below w.heap.size w w' := by
 obtain rfl : n1 = X.length := h1.len
 obtain rfl : n2 = Y.length := h2.len
 obtain rfl : n3 = Z.length := h3.len
 obtain rfl : n4 = B.length := h4.lenB
 refine enter2 _ Tryz.func20 rfl Tryz.ntmps20 Tryz.results20 rfl ?_
 have S0 := St.start w hH
 refine Wr ?_
 refine T_boxS S0 (fun _ _ => trivial) rfl rfl rfl rfl rfl rfl fun b51 w52 S53 => ?_
 refine T_boxS S53 (fun _ _ => trivial) rfl rfl rfl rfl rfl rfl fun b54 w55 S56 => ?_
 refine Pv ?_
 refine T_nil ?_
 refine W_seq ?_
 obtain ⟨G58, hl59, S57, r60⟩ := S56.stillBlk 1 rfl
 obtain ⟨G62, hl63, S61, r64⟩ := S57.stillBlk 0 rfl
 refine W_plan (planF Tryz.prog G62 [8, 13]) rfl (by kernel_rfl) S61.le ?_
 have S65 := S61.drew
 refine T_loadGA _ S65 (still_cells r64) rfl rfl rfl rfl rfl rfl rfl rfl (gV_size (L := [[.int .i64 pn], [.int .i64 va], [.int .i64 vb], [.int .i64 vc], [.int .i64 vd], vs.map bV, vr.map bV, [.int .i64 sh], [.int .i64 sl], [.slice a1 X.length c1], [.slice a2 Y.length c2], [.slice a3 Z.length c3], [.slice a4 B.length c4]]) (shP hvs hvr) rfl) ?_
 refine T_callS rfl rfl g_aumbry_aumbryref13_Placed rfl rfl rfl rfl ((placedR_ok S65.le pn va vb vc vd hvs hvr sh sl (h1.mono (hl59.trans hl63)) (h2.mono (hl59.trans hl63)) (h3.mono (hl59.trans hl63)) (h4.mono (hl59.trans hl63)) (by omega) (by omega) (by omega) (by omega) (by omega) (by omega) (by omega) (by omega)).mono ?_)
 rintro e w67 ⟨rfl, hB66⟩
 have S68 := S65.call hB66
 refine ⟨_, rfl, (((Hp.le.refl _)).trans S68.le), ?_⟩
 refine Pv ?_
 refine T_part (t := 7) rfl (List.cons_ne_nil _ _) (fun h69' => ?_) (fun h69' => ?_)
 ·have h69 := h69'
  refine Ys ?_
  refine T_loadGAP _ (fun _ h => h) (still_cells (hl63 _ _ r60)) rfl rfl rfl rfl rfl rfl rfl rfl (hVs hph) ?_
  refine Ys ?_
  refine Fl 1 ?_
  refine Ys ?_
  refine T_loadGA (qV va vb vc vd vs vr : Value).cells S68 (still_part r64 (gV_sub (shP hvs hvr) 1 6 (c := (qV va vb vc vd vs vr : Value).cells.toList) (qV_flat) rfl)) rfl rfl rfl rfl rfl rfl rfl rfl (qV_sz (q_len hvs hvr rfl)) ?_
  refine Ys ?_
  refine T_callS rfl rfl g_aumbry_aumbryref13_PackVersion rfl rfl rfl rfl ((packVR_ok S68.le va vb vc vd (s := vs) (t := vr) hvs hvr (by omega) (by omega) (by omega) (by omega)).mono ?_)
  rintro e w75 ⟨a70, c71, hc72, rfl, ho73, hB74⟩
  have hl76 := Go.Au.packV_len va vb vc vd (s := vs) (t := vr) (by have := hvs; omega) (by have := hvr; omega)
  have S77 := S68.own hB74 ho73
  refine ⟨_, rfl, (((Hp.le.refl _)).trans S77.le), ?_⟩
  refine Ys ?_
  refine Fl 53 ?_
  refine Ys ?_
  refine T_loadGAP (.agg #[.int .i64 sh, .int .i64 sl, .slice a1 X.length c1, .slice a2 Y.length c2] : Value).cells (fun _ h => h) (still_part r64 (gV_sub (shP hvs hvr) 7 4 (c := [.int .i64 sh, .int .i64 sl, .slice a1 X.length c1, .slice a2 Y.length c2]) (rfl) rfl)) rfl rfl rfl rfl rfl rfl rfl rfl (by first | rfl | simp [hVs, *]) ?_
  refine Ys ?_
  obtain ⟨G79, hl80, S78, r81⟩ := S77.stillRow 0 rfl
  refine T_callS rfl rfl g_aumbry_aumbryref07_Verify rfl rfl rfl rfl ((verifyR_ok S78.le hph sh sl (h1.mono (hl59.trans (hl63.trans hl80))) (h2.mono (hl59.trans (hl63.trans hl80))) r81 (by omega)).mono ?_)
  rintro e w83 ⟨rfl, hB82⟩
  have S84 := S78.call hB82
  refine ⟨_, rfl, ((hl80).trans S84.le), ?_⟩
  iterate 2 refine Pv ?_
  refine T_nil ?_
  refine W_ret ?_
  refine ⟨_, ⟨_, _, rfl, rfl, rfl⟩, ?_⟩
  exact ⟨congrArg (fun z => Ending.returned (Value.bool z)) (by rw [rpB_split, h69, Bool.true_and]), S84.below⟩
 have h69 := h69'
 iterate 7 refine No ?_
 iterate 2 refine Pv ?_
 refine T_nil ?_
 refine W_ret ?_
 refine ⟨_, ⟨_, _, rfl, rfl, rfl⟩, ?_⟩
 exact ⟨congrArg (fun z => Ending.returned (Value.bool z)) (by rw [rpB_split, h69, Bool.false_and]), S68.below⟩


set_option maxHeartbeats 2000000 in
theorem layoutRaw_ok {H : Hp} {w : World} (hH : H.le (hw w)) (hT : Tabs H) (kd ck cn cz : Int) {ky fp L : List UInt8} (hky : ky.length = 16) (hfp : fp.length = 32) {acp : Option Addr} {ncp ccp : Nat} (hcap : Rd H (.slice acp ncp ccp) ncp 1 (L.map bV)) (sn : Int) {u : List UInt8} {p B : List (List UInt8)} {a1 a2 a3 : Option Addr} {n1 n2 n3 c1 c2 c3 : Nat} (h1 : Rd H (.slice a1 n1 c1) n1 1 (u.map bV)) (h2 : RdH H (.slice a2 n2 c2) 32 p) (h3 : RdL H (.slice a3 n3 c3) B) {ph : List UInt8} (hph : ph.length = 32) (pn va vb vc vd : Int) {vs vr : List UInt8} (hvs : vs.length = 16) (hvr : vr.length = 32) (sh sl : Int) {X Y Z : List (List UInt8)} {E : List UInt8} {a5 a6 a7 a8 : Option Addr} {n5 n6 n7 n8 c5 c6 c7 c8 : Nat} (h5 : RdH H (.slice a5 n5 c5) 32 X) (h6 : RdH H (.slice a6 n6 c6) 32 Y) (h7 : RdH H (.slice a7 n7 c7) 32 Z) (h8 : Rd H (.slice a8 n8 c8) n8 1 (E.map bV)) (hva : va ≤ 9223372036854775807) (hvb : vb ≤ 9223372036854775807) (hvc : vc ≤ 9223372036854775807) (hvd : vd ≤ 9223372036854775807) :
  Calls Tryz.prog 6 #[gV [[.int .i64 kd], ky.map bV, fp.map bV, [.int .i64 ck], [.int .i64 cn], [.int .i64 cz], [.slice acp ncp ccp]], .agg #[.int .i64 sn, .slice a1 n1 c1, .slice a2 n2 c2, .slice a3 n3 c3], hV ph, gV [[.int .i64 pn], [.int .i64 va], [.int .i64 vb], [.int .i64 vc], [.int .i64 vd], vs.map bV, vr.map bV, [.int .i64 sh], [.int .i64 sl], [.slice a5 n5 c5], [.slice a6 n6 c6], [.slice a7 n7 c7], [.slice a8 n8 c8]]] w fun e w' => e = .returned (.bool true) ∧ Below w.heap.size w w' := by
 obtain rfl : ncp = L.length := hcap.lenB
 obtain rfl : n1 = u.length := h1.lenB
 obtain rfl : n2 = p.length := h2.len
 obtain rfl : n3 = B.length := h3.len
 obtain rfl : n5 = X.length := h5.len
 obtain rfl : n6 = Y.length := h6.len
 obtain rfl : n7 = Z.length := h7.len
 obtain rfl : n8 = E.length := h8.lenB
 have hu2 : (u.take 200).length ≤ 200 := List.length_take_le _ _
 have hp6 : (p.take 6).length ≤ 6 := List.length_take_le _ _
 have hB20 : (Go.Au.cutN 80 B 20).length ≤ 20 := by rw [Go.Au.cutN_len]; omega
 have HX1 : ∀ x ∈ (Go.Au.cutN 80 B 20), x.length < 1000 := fun x hx => by have := Go.Au.cutN_el (m := 80) B 20 x hx; omega
 have hX7 : (X.take 70).length ≤ 70 := List.length_take_le _ _
 have hY6 : (Y.take 6).length ≤ 6 := List.length_take_le _ _
 have hZ6 : (Z.take 6).length ≤ 6 := List.length_take_le _ _
 have hB1 : (E.take 100).length ≤ 100 := List.length_take_le _ _
 refine enter4 _ Tryz.func6 rfl Tryz.ntmps6 Tryz.results6 rfl ?_
 have S0 := St.start w hH
 refine Wr ?_
 refine T_boxS S0 (fun _ _ => trivial) rfl rfl rfl rfl rfl rfl fun b51 w52 S53 => ?_
 refine T_boxS S53 (fun _ _ => trivial) rfl rfl rfl rfl rfl rfl fun b54 w55 S56 => ?_
 refine T_boxS S56 (fun _ _ => trivial) rfl rfl rfl rfl rfl rfl fun b57 w58 S59 => ?_
 refine T_boxS S59 (fun _ _ => trivial) rfl rfl rfl rfl rfl rfl fun b60 w61 S62 => ?_
 refine Pv ?_
 refine T_nil ?_
 refine Wr ?_
 refine Fl 52 ?_
 refine T_loadS 3 52 S62 rfl rfl rfl rfl rfl rfl rfl rfl rfl (gV_cell (shC hky hfp) 6 rfl rfl) ?_
 refine T_callS rfl rfl g_aumbry_aumbrykeep_Cut_byte rfl rfl rfl rfl ((cutB_ok S62.le hcap 80).mono ?_)
 rintro e w68 ⟨a63, c64, hc65, rfl, hr66, hB67⟩
 have S69 := S62.call hB67
 refine ⟨_, rfl, trivial, ?_⟩
 refine Fl 52 ?_
 refine T_store1S 3 52 S69 (fun _ _ => trivial) rfl rfl rfl rfl rfl rfl rfl rfl rfl rfl rfl rfl (Nat.lt_of_lt_of_eq (show 52 < 53 by decide) (gV_size (L := [[.int .i64 kd], ky.map bV, fp.map bV, [.int .i64 ck], [.int .i64 cn], [.int .i64 cz], [.slice acp L.length ccp]]) (shC hky hfp) rfl).symm) fun w70 S71 => ?_
 have S72 := S71.re 3 rfl (show (gV [[.int .i64 kd], ky.map bV, fp.map bV, [.int .i64 ck], [.int .i64 cn], [.int .i64 cz], [.slice acp L.length ccp]] : Value).cells.setIfInBounds 52 (.slice a63 (L.take 80).length c64) = (gV [[.int .i64 kd], ky.map bV, fp.map bV, [.int .i64 ck], [.int .i64 cn], [.int .i64 cz], [.slice a63 (L.take 80).length c64]] : Value).cells from gV_set (shC hky hfp) 6 _ rfl rfl)
 refine T_nil ?_
 refine W_seq ?_
 refine W_tree (plan Tryz.prog) (.step 0 (.fork 1 2 (.step 2 (.step 3 (.step 4 (.step 5 .done)))) (.step 1 (.step 3 (.step 4 (.step 5 .done)))))) rfl (by kernel_rfl) trivial ?_
 have S73 := S72.drew
 refine TT_step rfl ?_
 refine T_loadFS 2 S73 rfl rfl rfl rfl rfl rfl rfl rfl rfl (by first | rfl | simp [hVs, *]) ?_
 refine T_nil ?_
 refine TT_fork rfl rfl ?_ ?_
 ·refine T_callS rfl rfl g_aumbry_aumbrylaw14_cutShare rfl rfl rfl rfl ((cutShare_ok S73.le sn h1 h2 h3).mono ?_)
  rintro e w84 ⟨a74, c75, a76, c77, a78, c79, rfl, r80, r81, r82, hB83⟩
  obtain ⟨G86, eG88⟩ : ∃ G, G = F.ext H w70.drew.heap.size w84 := ⟨_, rfl⟩
  obtain ⟨hl87, S85⟩ := S73.ext hB83
  rw [← eG88] at hl87 S85 r80 r81 r82
  refine ⟨_, rfl, trivial, ?_⟩
  refine T_nil ?_
  refine TT_step rfl ?_
  refine T_loadFS 0 S85 rfl rfl rfl rfl rfl rfl rfl rfl rfl (gV_size (L := [[.int .i64 pn], [.int .i64 va], [.int .i64 vb], [.int .i64 vc], [.int .i64 vd], vs.map bV, vr.map bV, [.int .i64 sh], [.int .i64 sl], [.slice a5 X.length c5], [.slice a6 Y.length c6], [.slice a7 Z.length c7], [.slice a8 E.length c8]]) (shP hvs hvr) rfl) ?_
  refine T_nil ?_
  refine TT_step rfl ?_
  refine T_callS rfl rfl g_aumbry_aumbrylaw14_cutPiece rfl rfl rfl rfl ((cutPiece_ok S85.le pn va vb vc vd hvs hvr sh sl (h5.mono hl87) (h6.mono hl87) (h7.mono hl87) (h8.mono hl87)).mono ?_)
  rintro e w102 ⟨a89, c90, a91, c92, a93, c94, a95, c96, rfl, r97, r98, r99, r100, hB101⟩
  obtain ⟨G104, eG106⟩ : ∃ G, G = F.ext G86 w84.heap.size w102 := ⟨_, rfl⟩
  obtain ⟨hl105, S103⟩ := S85.ext hB101
  rw [← eG106] at hl105 S103 r97 r98 r99 r100
  refine ⟨_, rfl, trivial, ?_⟩
  refine T_nil ?_
  refine TT_step rfl ?_
  refine T_storeFS 2 S103 (fun _ _ => trivial) rfl rfl rfl rfl rfl rfl rfl rfl rfl (by first | rfl | simp [hVs, *]) (by first | rfl | simp [hVs, *]) (one_all rfl) fun w107 S108 => ?_
  refine T_nil ?_
  refine TT_step rfl ?_
  refine T_storeFS 0 S108 (fun _ _ => trivial) rfl rfl rfl rfl rfl rfl rfl rfl rfl (gV_size (L := [[.int .i64 pn], [.int .i64 va], [.int .i64 vb], [.int .i64 vc], [.int .i64 vd], vs.map bV, vr.map bV, [.int .i64 sh], [.int .i64 sl], [.slice a89 (X.take 70).length c90], [.slice a91 (Y.take 6).length c92], [.slice a93 (Z.take 6).length c94], [.slice a95 (E.take 100).length c96]]) (shP hvs hvr) rfl) ((gV_size (L := [[.int .i64 pn], [.int .i64 va], [.int .i64 vb], [.int .i64 vc], [.int .i64 vd], vs.map bV, vr.map bV, [.int .i64 sh], [.int .i64 sl], [.slice a89 (X.take 70).length c90], [.slice a91 (Y.take 6).length c92], [.slice a93 (Z.take 6).length c94], [.slice a95 (E.take 100).length c96]]) (shP hvs hvr) rfl).trans (gV_size (L := [[.int .i64 pn], [.int .i64 va], [.int .i64 vb], [.int .i64 vc], [.int .i64 vd], vs.map bV, vr.map bV, [.int .i64 sh], [.int .i64 sl], [.slice a5 X.length c5], [.slice a6 Y.length c6], [.slice a7 Z.length c7], [.slice a8 E.length c8]]) (shP hvs hvr) rfl).symm) (gV_one (OneL.one rfl (OneL.one rfl (OneL.one rfl (OneL.one rfl (OneL.one rfl (OneL.arr (OneL.arr (OneL.one rfl (OneL.one rfl (OneL.one rfl (OneL.one rfl (OneL.one rfl (OneL.one rfl OneL.nil)))))))))))))) fun w109 S110 => ?_
  refine T_nil ?_
  refine TT_done ?_
  refine Wr ?_
  refine T_loadFS 3 S110 rfl rfl rfl rfl rfl rfl rfl rfl rfl (gV_size (L := [[.int .i64 kd], ky.map bV, fp.map bV, [.int .i64 ck], [.int .i64 cn], [.int .i64 cz], [.slice a63 (L.take 80).length c64]]) (shC hky hfp) rfl) ?_
  refine T_loadFS 2 S110 rfl rfl rfl rfl rfl rfl rfl rfl rfl (by first | rfl | simp [hVs, *]) ?_
  refine T_callS rfl rfl g_aumbry_layout_RightShare rfl rfl rfl rfl ((rightS_ok S110.le (hT.mono (hl87.trans hl105)) kd ck cn cz hky hfp (hr66.mono (hl87.trans hl105)) sn (r80.mono hl105) (r81.mono hl105) (r82.mono hl105) (by omega) (by omega) (by omega) HX1).mono ?_)
  rintro e w112 ⟨rfl, hB111⟩
  have S113 := S110.call hB111
  refine ⟨_, rfl, trivial, ?_⟩
  iterate 3 refine Pv ?_
  refine T_allocS S113 (fun _ _ => trivial) rfl rfl rfl rfl rfl rfl rfl fun b114 w115 S116 => ?_
  refine T_storeFS 0 S116 (fun _ _ => trivial) rfl rfl rfl rfl rfl rfl rfl rfl rfl (qV_sz (q_len (Go.Au.rsH4 _ _) (Go.Au.rsH5 _ _) rfl)) (qV_sz (q_len (Go.Au.rsH4 _ _) (Go.Au.rsH5 _ _) rfl)) (qV_one) fun w117 S118 => ?_
  refine Pv ?_
  refine T_nil ?_
  refine Wr ?_
  refine T_loadFS 4 S118 rfl rfl rfl rfl rfl rfl rfl rfl rfl (gV_size (L := [[.int .i64 kd], ky.map bV, fp.map bV, [.int .i64 ck], [.int .i64 cn], [.int .i64 cz], [.slice a63 (L.take 80).length c64]]) (shC hky hfp) rfl) ?_
  refine T_loadFS 3 S118 rfl rfl rfl rfl rfl rfl rfl rfl rfl (by first | rfl | simp [hVs, *]) ?_
  refine T_callS rfl rfl g_aumbry_aumbryref13_RightShare rfl rfl rfl rfl ((rightSR_ok S118.le kd ck cn cz hky hfp (hr66.mono (hl87.trans hl105)) sn (r80.mono hl105) (r81.mono hl105) (r82.mono hl105) (by omega) (by omega) (by omega) HX1).mono ?_)
  rintro e w120 ⟨rfl, hB119⟩
  have S121 := S118.call hB119
  refine ⟨_, rfl, trivial, ?_⟩
  iterate 3 refine Pv ?_
  refine T_allocS S121 (fun _ _ => trivial) rfl rfl rfl rfl rfl rfl rfl fun b122 w123 S124 => ?_
  refine T_storeFS 0 S124 (fun _ _ => trivial) rfl rfl rfl rfl rfl rfl rfl rfl rfl (qV_sz (q_len (Go.Au.rsH4 _ _) (Go.Au.rsH5 _ _) rfl)) (qV_sz (q_len (Go.Au.rsH4 _ _) (Go.Au.rsH5 _ _) rfl)) (qV_one) fun w125 S126 => ?_
  refine Pv ?_
  refine T_nil ?_
  refine W_seq ?_
  obtain ⟨G128, hl129, S127, r130⟩ := S126.stillBlk 3 rfl
  obtain ⟨G132, hl133, S131, r134⟩ := S127.stillBlk 2 rfl
  refine W_plan (planF Tryz.prog G132 [45, 46]) rfl (by kernel_rfl) S131.le ?_
  have S135 := S131.drew
  iterate 2 refine Pv ?_
  refine T_beq rfl rfl rfl rfl rfl rfl rfl ?_
  refine Pv ?_
  refine T_bool 36 true rfl (decide_eq_true (by first | rfl | exact ⟨rfl, rfl, rfl, rfl, rfl, rfl⟩ | omega)) ?_
  refine Ys ?_
  refine T_loadFS 1 S135 rfl rfl rfl rfl rfl rfl rfl rfl rfl (qV_sz (q_len (Go.Au.rsH4 _ _) (Go.Au.rsH5 _ _) rfl)) ?_
  refine Ys ?_
  refine T_loadFS 0 S135 rfl rfl rfl rfl rfl rfl rfl rfl rfl (qV_sz (q_len (Go.Au.rsH4 _ _) (Go.Au.rsH5 _ _) rfl)) ?_
  refine Ys ?_
  refine T_eqQ rfl rfl rfl rfl (by kernel_rfl) rfl rfl rfl rfl rfl rfl rfl rfl rfl rfl rfl rfl rfl rfl rfl rfl rfl rfl rfl (by kernel_rfl) (by kernel_rfl) rfl rfl rfl (Go.Au.rsH4 _ _) (Go.Au.rsH4 _ _) (Go.Au.rsH5 _ _) (Go.Au.rsH5 _ _) ?_
  iterate 2 refine Pv ?_
  refine T_bool 41 true rfl (decide_eq_true (by first | rfl | exact ⟨rfl, rfl, rfl, rfl, rfl, rfl⟩ | omega)) ?_
  refine Ys ?_
  refine T_loadGA _ S135 (still_cells (hl133 _ _ r130)) rfl rfl rfl rfl rfl rfl rfl rfl (hVs hph) ?_
  refine Ys ?_
  refine T_loadGA _ S135 (still_cells r134) rfl rfl rfl rfl rfl rfl rfl rfl (gV_size (L := [[.int .i64 pn], [.int .i64 va], [.int .i64 vb], [.int .i64 vc], [.int .i64 vd], vs.map bV, vr.map bV, [.int .i64 sh], [.int .i64 sl], [.slice a89 (X.take 70).length c90], [.slice a91 (Y.take 6).length c92], [.slice a93 (Z.take 6).length c94], [.slice a95 (E.take 100).length c96]]) (shP hvs hvr) rfl) ?_
  refine Ys ?_
  refine T_callS rfl rfl g_aumbry_layout_RightPiece rfl rfl rfl rfl ((rightP_ok S135.le (hT.mono (hl87.trans (hl105.trans (hl129.trans hl133)))) hph pn va vb vc vd hvs hvr sh sl (r97.mono (hl129.trans hl133)) (r98.mono (hl129.trans hl133)) (r99.mono (hl129.trans hl133)) (r100.mono (hl129.trans hl133)) (by omega) (by omega) (by omega) (by omega) (by omega) (by omega) (by omega) (by omega)).mono ?_)
  rintro e w137 ⟨rfl, hB136⟩
  have S138 := S135.call hB136
  refine ⟨_, rfl, (((Hp.le.refl _)).trans S138.le), ?_⟩
  refine Ys ?_
  refine T_loadGAP _ (fun _ h => h) (still_cells (hl133 _ _ r130)) rfl rfl rfl rfl rfl rfl rfl rfl (hVs hph) ?_
  refine Ys ?_
  refine T_loadGAP _ (fun _ h => h) (still_cells r134) rfl rfl rfl rfl rfl rfl rfl rfl (gV_size (L := [[.int .i64 pn], [.int .i64 va], [.int .i64 vb], [.int .i64 vc], [.int .i64 vd], vs.map bV, vr.map bV, [.int .i64 sh], [.int .i64 sl], [.slice a89 (X.take 70).length c90], [.slice a91 (Y.take 6).length c92], [.slice a93 (Z.take 6).length c94], [.slice a95 (E.take 100).length c96]]) (shP hvs hvr) rfl) ?_
  refine Ys ?_
  refine T_callS rfl rfl g_aumbry_aumbryref13_RightPiece rfl rfl rfl rfl ((rightPR_ok S138.le hph pn va vb vc vd hvs hvr sh sl (r97.mono (hl129.trans hl133)) (r98.mono (hl129.trans hl133)) (r99.mono (hl129.trans hl133)) (r100.mono (hl129.trans hl133)) (by omega) (by omega) (by omega) (by omega) (by omega) (by omega) (by omega) (by omega)).mono ?_)
  rintro e w140 ⟨rfl, hB139⟩
  have S141 := S138.call hB139
  refine ⟨_, rfl, (((Hp.le.refl _)).trans S141.le), ?_⟩
  refine Ys ?_
  refine T_beq rfl rfl rfl rfl rfl rfl rfl ?_
  iterate 2 refine Pv ?_
  refine T_bool 50 true rfl (decide_eq_true (by first | rfl | exact ⟨rfl, rfl, rfl, rfl, rfl, rfl⟩ | omega)) ?_
  refine Ys ?_
  refine T_callS rfl rfl g_aumbry_aumbrylaw14_wakes rfl rfl rfl rfl ((wakes_ok S141.le (hT.mono (hl87.trans (hl105.trans (hl129.trans hl133))))).mono ?_)
  rintro e w143 ⟨rfl, hB142⟩
  have S144 := S141.call hB142
  refine ⟨_, rfl, (((Hp.le.refl _)).trans S144.le), ?_⟩
  iterate 2 refine Pv ?_
  refine T_nil ?_
  refine W_ret ?_
  refine ⟨_, ⟨_, _, rfl, rfl, rfl⟩, ?_⟩
  exact ⟨rfl, S144.below⟩
 refine T_loadFS 0 S73 rfl rfl rfl rfl rfl rfl rfl rfl rfl (gV_size (L := [[.int .i64 pn], [.int .i64 va], [.int .i64 vb], [.int .i64 vc], [.int .i64 vd], vs.map bV, vr.map bV, [.int .i64 sh], [.int .i64 sl], [.slice a5 X.length c5], [.slice a6 Y.length c6], [.slice a7 Z.length c7], [.slice a8 E.length c8]]) (shP hvs hvr) rfl) ?_
 refine T_nil ?_
 refine TT_step rfl ?_
 refine T_callS rfl rfl g_aumbry_aumbrylaw14_cutShare rfl rfl rfl rfl ((cutShare_ok S73.le sn h1 h2 h3).mono ?_)
 rintro e w155 ⟨a145, c146, a147, c148, a149, c150, rfl, r151, r152, r153, hB154⟩
 obtain ⟨G157, eG159⟩ : ∃ G, G = F.ext H w70.drew.heap.size w155 := ⟨_, rfl⟩
 obtain ⟨hl158, S156⟩ := S73.ext hB154
 rw [← eG159] at hl158 S156 r151 r152 r153
 refine ⟨_, rfl, trivial, ?_⟩
 refine T_nil ?_
 refine TT_step rfl ?_
 refine T_callS rfl rfl g_aumbry_aumbrylaw14_cutPiece rfl rfl rfl rfl ((cutPiece_ok S156.le pn va vb vc vd hvs hvr sh sl (h5.mono hl158) (h6.mono hl158) (h7.mono hl158) (h8.mono hl158)).mono ?_)
 rintro e w173 ⟨a160, c161, a162, c163, a164, c165, a166, c167, rfl, r168, r169, r170, r171, hB172⟩
 obtain ⟨G175, eG177⟩ : ∃ G, G = F.ext G157 w155.heap.size w173 := ⟨_, rfl⟩
 obtain ⟨hl176, S174⟩ := S156.ext hB172
 rw [← eG177] at hl176 S174 r168 r169 r170 r171
 refine ⟨_, rfl, trivial, ?_⟩
 refine T_nil ?_
 refine TT_step rfl ?_
 refine T_storeFS 2 S174 (fun _ _ => trivial) rfl rfl rfl rfl rfl rfl rfl rfl rfl (by first | rfl | simp [hVs, *]) (by first | rfl | simp [hVs, *]) (one_all rfl) fun w178 S179 => ?_
 refine T_nil ?_
 refine TT_step rfl ?_
 refine T_storeFS 0 S179 (fun _ _ => trivial) rfl rfl rfl rfl rfl rfl rfl rfl rfl (gV_size (L := [[.int .i64 pn], [.int .i64 va], [.int .i64 vb], [.int .i64 vc], [.int .i64 vd], vs.map bV, vr.map bV, [.int .i64 sh], [.int .i64 sl], [.slice a160 (X.take 70).length c161], [.slice a162 (Y.take 6).length c163], [.slice a164 (Z.take 6).length c165], [.slice a166 (E.take 100).length c167]]) (shP hvs hvr) rfl) ((gV_size (L := [[.int .i64 pn], [.int .i64 va], [.int .i64 vb], [.int .i64 vc], [.int .i64 vd], vs.map bV, vr.map bV, [.int .i64 sh], [.int .i64 sl], [.slice a160 (X.take 70).length c161], [.slice a162 (Y.take 6).length c163], [.slice a164 (Z.take 6).length c165], [.slice a166 (E.take 100).length c167]]) (shP hvs hvr) rfl).trans (gV_size (L := [[.int .i64 pn], [.int .i64 va], [.int .i64 vb], [.int .i64 vc], [.int .i64 vd], vs.map bV, vr.map bV, [.int .i64 sh], [.int .i64 sl], [.slice a5 X.length c5], [.slice a6 Y.length c6], [.slice a7 Z.length c7], [.slice a8 E.length c8]]) (shP hvs hvr) rfl).symm) (gV_one (OneL.one rfl (OneL.one rfl (OneL.one rfl (OneL.one rfl (OneL.one rfl (OneL.arr (OneL.arr (OneL.one rfl (OneL.one rfl (OneL.one rfl (OneL.one rfl (OneL.one rfl (OneL.one rfl OneL.nil)))))))))))))) fun w180 S181 => ?_
 refine T_nil ?_
 refine TT_done ?_
 refine Wr ?_
 refine T_loadFS 3 S181 rfl rfl rfl rfl rfl rfl rfl rfl rfl (gV_size (L := [[.int .i64 kd], ky.map bV, fp.map bV, [.int .i64 ck], [.int .i64 cn], [.int .i64 cz], [.slice a63 (L.take 80).length c64]]) (shC hky hfp) rfl) ?_
 refine T_loadFS 2 S181 rfl rfl rfl rfl rfl rfl rfl rfl rfl (by first | rfl | simp [hVs, *]) ?_
 refine T_callS rfl rfl g_aumbry_layout_RightShare rfl rfl rfl rfl ((rightS_ok S181.le (hT.mono (hl158.trans hl176)) kd ck cn cz hky hfp (hr66.mono (hl158.trans hl176)) sn (r151.mono hl176) (r152.mono hl176) (r153.mono hl176) (by omega) (by omega) (by omega) HX1).mono ?_)
 rintro e w183 ⟨rfl, hB182⟩
 have S184 := S181.call hB182
 refine ⟨_, rfl, trivial, ?_⟩
 iterate 3 refine Pv ?_
 refine T_allocS S184 (fun _ _ => trivial) rfl rfl rfl rfl rfl rfl rfl fun b185 w186 S187 => ?_
 refine T_storeFS 0 S187 (fun _ _ => trivial) rfl rfl rfl rfl rfl rfl rfl rfl rfl (qV_sz (q_len (Go.Au.rsH4 _ _) (Go.Au.rsH5 _ _) rfl)) (qV_sz (q_len (Go.Au.rsH4 _ _) (Go.Au.rsH5 _ _) rfl)) (qV_one) fun w188 S189 => ?_
 refine Pv ?_
 refine T_nil ?_
 refine Wr ?_
 refine T_loadFS 4 S189 rfl rfl rfl rfl rfl rfl rfl rfl rfl (gV_size (L := [[.int .i64 kd], ky.map bV, fp.map bV, [.int .i64 ck], [.int .i64 cn], [.int .i64 cz], [.slice a63 (L.take 80).length c64]]) (shC hky hfp) rfl) ?_
 refine T_loadFS 3 S189 rfl rfl rfl rfl rfl rfl rfl rfl rfl (by first | rfl | simp [hVs, *]) ?_
 refine T_callS rfl rfl g_aumbry_aumbryref13_RightShare rfl rfl rfl rfl ((rightSR_ok S189.le kd ck cn cz hky hfp (hr66.mono (hl158.trans hl176)) sn (r151.mono hl176) (r152.mono hl176) (r153.mono hl176) (by omega) (by omega) (by omega) HX1).mono ?_)
 rintro e w191 ⟨rfl, hB190⟩
 have S192 := S189.call hB190
 refine ⟨_, rfl, trivial, ?_⟩
 iterate 3 refine Pv ?_
 refine T_allocS S192 (fun _ _ => trivial) rfl rfl rfl rfl rfl rfl rfl fun b193 w194 S195 => ?_
 refine T_storeFS 0 S195 (fun _ _ => trivial) rfl rfl rfl rfl rfl rfl rfl rfl rfl (qV_sz (q_len (Go.Au.rsH4 _ _) (Go.Au.rsH5 _ _) rfl)) (qV_sz (q_len (Go.Au.rsH4 _ _) (Go.Au.rsH5 _ _) rfl)) (qV_one) fun w196 S197 => ?_
 refine Pv ?_
 refine T_nil ?_
 refine W_seq ?_
 obtain ⟨G199, hl200, S198, r201⟩ := S197.stillBlk 3 rfl
 obtain ⟨G203, hl204, S202, r205⟩ := S198.stillBlk 2 rfl
 refine W_plan (planF Tryz.prog G203 [45, 46]) rfl (by kernel_rfl) S202.le ?_
 have S206 := S202.drew
 iterate 2 refine Pv ?_
 refine T_beq rfl rfl rfl rfl rfl rfl rfl ?_
 refine Pv ?_
 refine T_bool 36 true rfl (decide_eq_true (by first | rfl | exact ⟨rfl, rfl, rfl, rfl, rfl, rfl⟩ | omega)) ?_
 refine Ys ?_
 refine T_loadFS 1 S206 rfl rfl rfl rfl rfl rfl rfl rfl rfl (qV_sz (q_len (Go.Au.rsH4 _ _) (Go.Au.rsH5 _ _) rfl)) ?_
 refine Ys ?_
 refine T_loadFS 0 S206 rfl rfl rfl rfl rfl rfl rfl rfl rfl (qV_sz (q_len (Go.Au.rsH4 _ _) (Go.Au.rsH5 _ _) rfl)) ?_
 refine Ys ?_
 refine T_eqQ rfl rfl rfl rfl (by kernel_rfl) rfl rfl rfl rfl rfl rfl rfl rfl rfl rfl rfl rfl rfl rfl rfl rfl rfl rfl rfl (by kernel_rfl) (by kernel_rfl) rfl rfl rfl (Go.Au.rsH4 _ _) (Go.Au.rsH4 _ _) (Go.Au.rsH5 _ _) (Go.Au.rsH5 _ _) ?_
 iterate 2 refine Pv ?_
 refine T_bool 41 true rfl (decide_eq_true (by first | rfl | exact ⟨rfl, rfl, rfl, rfl, rfl, rfl⟩ | omega)) ?_
 refine Ys ?_
 refine T_loadGA _ S206 (still_cells (hl204 _ _ r201)) rfl rfl rfl rfl rfl rfl rfl rfl (hVs hph) ?_
 refine Ys ?_
 refine T_loadGA _ S206 (still_cells r205) rfl rfl rfl rfl rfl rfl rfl rfl (gV_size (L := [[.int .i64 pn], [.int .i64 va], [.int .i64 vb], [.int .i64 vc], [.int .i64 vd], vs.map bV, vr.map bV, [.int .i64 sh], [.int .i64 sl], [.slice a160 (X.take 70).length c161], [.slice a162 (Y.take 6).length c163], [.slice a164 (Z.take 6).length c165], [.slice a166 (E.take 100).length c167]]) (shP hvs hvr) rfl) ?_
 refine Ys ?_
 refine T_callS rfl rfl g_aumbry_layout_RightPiece rfl rfl rfl rfl ((rightP_ok S206.le (hT.mono (hl158.trans (hl176.trans (hl200.trans hl204)))) hph pn va vb vc vd hvs hvr sh sl (r168.mono (hl200.trans hl204)) (r169.mono (hl200.trans hl204)) (r170.mono (hl200.trans hl204)) (r171.mono (hl200.trans hl204)) (by omega) (by omega) (by omega) (by omega) (by omega) (by omega) (by omega) (by omega)).mono ?_)
 rintro e w208 ⟨rfl, hB207⟩
 have S209 := S206.call hB207
 refine ⟨_, rfl, (((Hp.le.refl _)).trans S209.le), ?_⟩
 refine Ys ?_
 refine T_loadGAP _ (fun _ h => h) (still_cells (hl204 _ _ r201)) rfl rfl rfl rfl rfl rfl rfl rfl (hVs hph) ?_
 refine Ys ?_
 refine T_loadGAP _ (fun _ h => h) (still_cells r205) rfl rfl rfl rfl rfl rfl rfl rfl (gV_size (L := [[.int .i64 pn], [.int .i64 va], [.int .i64 vb], [.int .i64 vc], [.int .i64 vd], vs.map bV, vr.map bV, [.int .i64 sh], [.int .i64 sl], [.slice a160 (X.take 70).length c161], [.slice a162 (Y.take 6).length c163], [.slice a164 (Z.take 6).length c165], [.slice a166 (E.take 100).length c167]]) (shP hvs hvr) rfl) ?_
 refine Ys ?_
 refine T_callS rfl rfl g_aumbry_aumbryref13_RightPiece rfl rfl rfl rfl ((rightPR_ok S209.le hph pn va vb vc vd hvs hvr sh sl (r168.mono (hl200.trans hl204)) (r169.mono (hl200.trans hl204)) (r170.mono (hl200.trans hl204)) (r171.mono (hl200.trans hl204)) (by omega) (by omega) (by omega) (by omega) (by omega) (by omega) (by omega) (by omega)).mono ?_)
 rintro e w211 ⟨rfl, hB210⟩
 have S212 := S209.call hB210
 refine ⟨_, rfl, (((Hp.le.refl _)).trans S212.le), ?_⟩
 refine Ys ?_
 refine T_beq rfl rfl rfl rfl rfl rfl rfl ?_
 iterate 2 refine Pv ?_
 refine T_bool 50 true rfl (decide_eq_true (by first | rfl | exact ⟨rfl, rfl, rfl, rfl, rfl, rfl⟩ | omega)) ?_
 refine Ys ?_
 refine T_callS rfl rfl g_aumbry_aumbrylaw14_wakes rfl rfl rfl rfl ((wakes_ok S212.le (hT.mono (hl158.trans (hl176.trans (hl200.trans hl204))))).mono ?_)
 rintro e w214 ⟨rfl, hB213⟩
 have S215 := S212.call hB213
 refine ⟨_, rfl, (((Hp.le.refl _)).trans S215.le), ?_⟩
 iterate 2 refine Pv ?_
 refine T_nil ?_
 refine W_ret ?_
 refine ⟨_, ⟨_, _, rfl, rfl, rfl⟩, ?_⟩
 exact ⟨rfl, S215.below⟩

end Go.Proofs.YtmjmjjkigblbgaaGreatDoor
