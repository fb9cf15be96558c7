/- Pieces: packed, read, compared; the statement. -/
import Derived.Test.YtmjmjjkigblbgaaDoorLaySig
set_option linter.unusedVariables false
set_option linter.unusedSimpArgs false
set_option maxRecDepth 8192
namespace Go.Proofs.YtmjmjjkigblbgaaDoor
open Go Go.F Go.RowKit

theorem pc_none {H : Hp} {w w' : World} {b : List UInt8} (h : ¬ Go.Au.PcOk b) (hB : Below w.heap.size w w') :
    ∃ a1 c1 a2 c2 a3 c3 a4 c4, Ending.returned (.tuple #[gV [[.int .i64 0], [.int .i64 0], [.int .i64 0], [.int .i64 0], [.int .i64 0], (List.replicate 16 0).map bV, (List.replicate 32 0).map bV, [.int .i64 0], [.int .i64 0], [.slice none 0 0], [.slice none 0 0], [.slice none 0 0], [.slice none 0 0]], .bool false]) = .returned (.tuple #[gV [[.int .i64 (Go.Au.pcN b)], [.int .i64 (Go.Au.pcA b 0)], [.int .i64 (Go.Au.pcA b 1)], [.int .i64 (Go.Au.pcA b 2)], [.int .i64 (Go.Au.pcA b 3)], (Go.Au.pcS b).map bV, (Go.Au.pcR b).map bV, [.int .i64 (Go.Au.pcH b)], [.int .i64 (Go.Au.pcL b)], [.slice a1 (Go.Au.pcV b).length c1], [.slice a2 (Go.Au.pcP b).length c2], [.slice a3 (Go.Au.pcQ b).length c3], [.slice a4 (Go.Au.pcB b).length c4]], .bool (decide (Go.Au.PcOk b))]) ∧ RdH (F.ext H w.heap.size w') (.slice a1 (Go.Au.pcV b).length c1) 32 (Go.Au.pcV b) ∧ RdH (F.ext H w.heap.size w') (.slice a2 (Go.Au.pcP b).length c2) 32 (Go.Au.pcP b) ∧ RdH (F.ext H w.heap.size w') (.slice a3 (Go.Au.pcQ b).length c3) 32 (Go.Au.pcQ b) ∧ Rd (F.ext H w.heap.size w') (.slice a4 (Go.Au.pcB b).length c4) (Go.Au.pcB b).length 1 ((Go.Au.pcB b).map bV) ∧ Below w.heap.size w w' := by
  have e0 : Go.Au.pcN b = 0 := if_neg h
  have e1 : ∀ i, Go.Au.pcA b i = 0 := fun i => if_neg h
  have e2 : Go.Au.pcS b = List.replicate 16 0 := if_neg h
  have e3 : Go.Au.pcR b = List.replicate 32 0 := if_neg h
  have e4 : Go.Au.pcH b = 0 := if_neg h
  have e5 : Go.Au.pcL b = 0 := if_neg h
  have e6 : Go.Au.pcV b = [] := if_neg h
  have e7 : Go.Au.pcP b = [] := if_neg h
  have e8 : Go.Au.pcQ b = [] := if_neg h
  have e9 : Go.Au.pcB b = [] := if_neg h
  rw [e0, e1, e1, e1, e1, e2, e3, e4, e5, e6, e7, e8, e9, decide_eq_false h]
  exact ⟨none, 0, none, 0, none, 0, none, 0, rfl, nilH _, nilH _, nilH _, Rd.nil _ _, hB⟩
theorem pc_some {H : Hp} {w w' : World} {b : List UInt8} (h : Go.Au.PcOk b) {D3 : List (List UInt8)} (e3 : D3 = Go.Au.hashN (Go.Au.p5 b 3)) {a1 a2 a3 a4 : Option Addr} {n1 n2 n3 n4 c1 c2 c3 c4 : Nat} (r1 : RdH (F.ext H w.heap.size w') (.slice a1 n1 c1) 32 (Go.Au.sgV (Go.Au.p5 b 2))) (r2 : RdH (F.ext H w.heap.size w') (.slice a2 n2 c2) 32 (Go.Au.sgP (Go.Au.p5 b 2))) (r3 : RdH (F.ext H w.heap.size w') (.slice a3 n3 c3) 32 D3) (r4 : Rd (F.ext H w.heap.size w') (.slice a4 n4 c4) n4 1 ((Go.Au.p5 b 4).map bV)) (hB : Below w.heap.size w w') :
    ∃ a1' c1' a2' c2' a3' c3' a4' c4', Ending.returned (.tuple #[gV [[.int .i64 ((((Go.Au.p5 b 0).getD 0 0).toNat : Nat) : Int)], [.int .i64 (Go.Au.vN (Go.Au.p5 b 1) 0)], [.int .i64 (Go.Au.vN (Go.Au.p5 b 1) 1)], [.int .i64 (Go.Au.vN (Go.Au.p5 b 1) 2)], [.int .i64 (Go.Au.vN (Go.Au.p5 b 1) 3)], (Go.Au.vS (Go.Au.p5 b 1)).map bV, (Go.Au.vR (Go.Au.p5 b 1)).map bV, [.int .i64 (Go.Au.sgH (Go.Au.p5 b 2))], [.int .i64 (Go.Au.sgL (Go.Au.p5 b 2))], [.slice a1 n1 c1], [.slice a2 n2 c2], [.slice a3 n3 c3], [.slice a4 n4 c4]], .bool true]) = .returned (.tuple #[gV [[.int .i64 (Go.Au.pcN b)], [.int .i64 (Go.Au.pcA b 0)], [.int .i64 (Go.Au.pcA b 1)], [.int .i64 (Go.Au.pcA b 2)], [.int .i64 (Go.Au.pcA b 3)], (Go.Au.pcS b).map bV, (Go.Au.pcR b).map bV, [.int .i64 (Go.Au.pcH b)], [.int .i64 (Go.Au.pcL b)], [.slice a1' (Go.Au.pcV b).length c1'], [.slice a2' (Go.Au.pcP b).length c2'], [.slice a3' (Go.Au.pcQ b).length c3'], [.slice a4' (Go.Au.pcB b).length c4']], .bool (decide (Go.Au.PcOk b))]) ∧ RdH (F.ext H w.heap.size w') (.slice a1' (Go.Au.pcV b).length c1') 32 (Go.Au.pcV b) ∧ RdH (F.ext H w.heap.size w') (.slice a2' (Go.Au.pcP b).length c2') 32 (Go.Au.pcP b) ∧ RdH (F.ext H w.heap.size w') (.slice a3' (Go.Au.pcQ b).length c3') 32 (Go.Au.pcQ b) ∧ Rd (F.ext H w.heap.size w') (.slice a4' (Go.Au.pcB b).length c4') (Go.Au.pcB b).length 1 ((Go.Au.pcB b).map bV) ∧ Below w.heap.size w w' := by
  have e0 : Go.Au.pcN b = ((((Go.Au.p5 b 0).getD 0 0).toNat : Nat) : Int) := if_pos h
  have e1 : ∀ i, Go.Au.pcA b i = Go.Au.vN (Go.Au.p5 b 1) i := fun i => if_pos h
  have e2 : Go.Au.pcS b = Go.Au.vS (Go.Au.p5 b 1) := if_pos h
  have e3' : Go.Au.pcR b = Go.Au.vR (Go.Au.p5 b 1) := if_pos h
  have e4 : Go.Au.pcH b = Go.Au.sgH (Go.Au.p5 b 2) := if_pos h
  have e5 : Go.Au.pcL b = Go.Au.sgL (Go.Au.p5 b 2) := if_pos h
  have e6 : Go.Au.pcV b = Go.Au.sgV (Go.Au.p5 b 2) := if_pos h
  have e7 : Go.Au.pcP b = Go.Au.sgP (Go.Au.p5 b 2) := if_pos h
  have e8 : Go.Au.pcQ b = Go.Au.hashN (Go.Au.p5 b 3) := if_pos h
  have e9 : Go.Au.pcB b = Go.Au.p5 b 4 := if_pos h
  rw [e0, e1, e1, e1, e1, e2, e3', e4, e5, e6, e7, e8, e9, decide_eq_true h]
  subst e3
  obtain rfl := r1.len
  obtain rfl := r2.len
  obtain rfl := r3.len
  obtain rfl := r4.lenB
  exact ⟨a1, c1, a2, c2, a3, c3, a4, c4, rfl, r1, r2, r3, r4, hB⟩
theorem packP_ok {H : Hp} {w : World} (hH : H.le (hw w)) (hT : Tabs H) (pn va vb vc vd : Int) {vs vr : List UInt8} (hvs : vs.length = 16) (hvr : vr.length = 32) (sh sl : Int) {X Y Z : List (List UInt8)} {B : List UInt8} {a1 a2 a3 a4 : Option Addr} {n1 n2 n3 n4 c1 c2 c3 c4 : Nat} (h1 : RdH H (.slice a1 n1 c1) 32 X) (h2 : RdH H (.slice a2 n2 c2) 32 Y) (h3 : RdH H (.slice a3 n3 c3) 32 Z) (h4 : Rd H (.slice a4 n4 c4) n4 1 (B.map bV)) (hpn : pn ≤ 9223372036854775807) (hva : va ≤ 9223372036854775807) (hvb : vb ≤ 9223372036854775807) (hvc : vc ≤ 9223372036854775807) (hvd : vd ≤ 9223372036854775807) (hsh : sh ≤ 9223372036854775807) (hsl : sl ≤ 9223372036854775807) (hX : X.length ≤ 70) (hY : Y.length ≤ 6) (hZ : Z.length ≤ 6) (hB : B.length ≤ 100) :
    Calls Tryd.prog 37 #[gV [[.int .i64 pn], [.int .i64 va], [.int .i64 vb], [.int .i64 vc], [.int .i64 vd], vs.map bV, vr.map bV, [.int .i64 sh], [.int .i64 sl], [.slice a1 n1 c1], [.slice a2 n2 c2], [.slice a3 n3 c3], [.slice a4 n4 c4]]] w fun e w' => ∃ a c, (Go.Au.packP pn va vb vc vd vs vr sh sl X Y Z B).length ≤ c ∧ e = .returned (.slice a (Go.Au.packP pn va vb vc vd vs vr sh sl X Y Z B).length c) ∧ rowZ w' w.heap.size 5 1 (.slice a (Go.Au.packP pn va vb vc vd vs vr sh sl X Y Z B).length c) (Go.Au.packP pn va vb vc vd vs vr sh sl X Y Z B).length ((Go.Au.packP pn va vb vc vd vs vr sh sl X Y Z B).map bV) ∧ Below w.heap.size w w' := by
  obtain rfl : n1 = X.length := h1.len
  obtain rfl : n2 = Y.length := h2.len
  obtain rfl : n3 = Z.length := h3.len
  obtain rfl : n4 = B.length := h4.lenB
  have hpq := Go.Au.packP_len pn va vb vc vd (s := vs) (t := vr) sh sl hvs hvr hX hY hZ hB h1.1 h2.1 h3.1
  obtain ⟨hpl, hpp, hpf, hpv⟩ := id hpq
  unfold Go.Au.packP at hpl
  refine enter1 _ Tryd.func37 rfl Tryd.ntmps37 Tryd.results37 rfl ?_
  have S0 := St.start w hH
  refine W_seq ?_
  refine W_region ?_
  refine T_boxS S0 (fun _ _ => trivial) rfl rfl rfl rfl rfl rfl fun b1 w2 S3 => ?_
  refine T_pev rfl rfl rfl rfl ?_
  refine T_nil ?_
  refine W_seq ?_
  obtain ⟨G5, hl6, S4, r7⟩ := S3.stillBlk 0 rfl
  refine W_plan (planF Tryd.prog G5 [7, 10, 13, 16]) rfl (by kernel_rfl) S4.le ?_
  have S8 := S4.drew
  refine T_fldm 0 rfl rfl rfl rfl rfl rfl (by decide) rfl rfl rfl ?_
  refine T_loadG S8 (still_cell r7 (gV_cell (ns := [1, 1, 1, 1, 1, 16, 32, 1, 1, 1, 1, 1, 1]) (Shp.cons rfl (Shp.cons rfl (Shp.cons rfl (Shp.cons rfl (Shp.cons rfl (Shp.cons (lenB hvs) (Shp.cons (lenB hvr) (Shp.cons rfl (Shp.cons rfl (Shp.cons rfl (Shp.cons rfl (Shp.cons rfl (Shp.cons rfl Shp.nil))))))))))))) 0 rfl rfl)) rfl rfl rfl rfl rfl rfl rfl ?_
  refine T_callS rfl rfl g_aumbry_code_Put rfl rfl rfl rfl ((putN_ok S8.le pn 1 (by omega) (by omega)).mono ?_)
  rintro e w14 ⟨a9, c10, hc11, rfl, ho12, hB13⟩
  have S15 := S8.own hB13 ho12
  refine ⟨_, rfl, (((Hp.le.refl _)).trans S15.le), ?_⟩
  refine T_fldm 1 rfl rfl rfl rfl rfl rfl (by decide) rfl rfl rfl ?_
  refine T_loadGAP (qV va vb vc vd vs vr : Value).cells (fun _ h => h) (still_part r7 (gV_sub (ns := [1, 1, 1, 1, 1, 16, 32, 1, 1, 1, 1, 1, 1]) (Shp.cons rfl (Shp.cons rfl (Shp.cons rfl (Shp.cons rfl (Shp.cons rfl (Shp.cons (lenB hvs) (Shp.cons (lenB hvr) (Shp.cons rfl (Shp.cons rfl (Shp.cons rfl (Shp.cons rfl (Shp.cons rfl (Shp.cons rfl Shp.nil))))))))))))) 1 6 (c := (qV va vb vc vd vs vr : Value).cells.toList) (qV_flat) rfl)) rfl rfl rfl rfl rfl rfl rfl rfl (qV_sz (q_len hvs hvr rfl)) ?_
  refine T_callS rfl rfl g_aumbry_layout_PackVersion rfl rfl rfl rfl ((packV_ok S15.le (hT.mono hl6) va vb vc vd (s := vs) (t := vr) hvs hvr (by omega) (by omega) (by omega) (by omega)).mono ?_)
  rintro e w21 ⟨a16, c17, hc18, rfl, ho19, hB20⟩
  have hl22 := Go.Au.packV_len va vb vc vd (s := vs) (t := vr) (by have := hvs; omega) (by have := hvr; omega)
  have S23 := S15.own hB20 ho19
  refine ⟨_, rfl, (((Hp.le.refl _)).trans S23.le), ?_⟩
  refine T_fldm 53 rfl rfl rfl rfl rfl rfl (by decide) rfl rfl rfl ?_
  refine T_loadGAP (.agg #[.int .i64 sh, .int .i64 sl, .slice a1 X.length c1, .slice a2 Y.length c2] : Value).cells (fun _ h => h) (still_part r7 (gV_sub (ns := [1, 1, 1, 1, 1, 16, 32, 1, 1, 1, 1, 1, 1]) (Shp.cons rfl (Shp.cons rfl (Shp.cons rfl (Shp.cons rfl (Shp.cons rfl (Shp.cons (lenB hvs) (Shp.cons (lenB hvr) (Shp.cons rfl (Shp.cons rfl (Shp.cons rfl (Shp.cons rfl (Shp.cons rfl (Shp.cons rfl Shp.nil))))))))))))) 7 4 (c := [.int .i64 sh, .int .i64 sl, .slice a1 X.length c1, .slice a2 Y.length c2]) (rfl) rfl)) rfl rfl rfl rfl rfl rfl rfl rfl (by first | rfl | simp [hVs, *]) ?_
  refine T_callS rfl rfl g_aumbry_mss_Pack rfl rfl rfl rfl ((pack_ok S23.le sh sl (h1.mono hl6) (h2.mono hl6) (by omega) (by omega) (by omega) (by omega)).mono ?_)
  rintro e w29 ⟨a24, c25, hc26, rfl, ho27, hB28⟩
  have S30 := S23.own hB28 ho27
  refine ⟨_, rfl, (((Hp.le.refl _)).trans S30.le), ?_⟩
  refine T_fldm 57 rfl rfl rfl rfl rfl rfl (by decide) rfl rfl rfl ?_
  refine T_loadGP (fun _ h => h) (still_cell r7 (gV_cell (ns := [1, 1, 1, 1, 1, 16, 32, 1, 1, 1, 1, 1, 1]) (Shp.cons rfl (Shp.cons rfl (Shp.cons rfl (Shp.cons rfl (Shp.cons rfl (Shp.cons (lenB hvs) (Shp.cons (lenB hvr) (Shp.cons rfl (Shp.cons rfl (Shp.cons rfl (Shp.cons rfl (Shp.cons rfl (Shp.cons rfl Shp.nil))))))))))))) 11 rfl rfl)) rfl rfl rfl rfl rfl rfl rfl ?_
  refine T_callS rfl rfl g_aumbry_layout_row rfl rfl rfl rfl ((rowL_ok S30.le (h3.mono hl6) (by omega)).mono ?_)
  rintro e w36 ⟨a31, c32, hc33, rfl, ho34, hB35⟩
  have S37 := S30.own hB35 ho34
  refine ⟨_, rfl, (((Hp.le.refl _)).trans S37.le), ?_⟩
  refine T_fldm 58 rfl rfl rfl rfl rfl rfl (by decide) rfl rfl rfl ?_
  refine T_loadGP (fun _ h => h) (still_cell r7 (gV_cell (ns := [1, 1, 1, 1, 1, 16, 32, 1, 1, 1, 1, 1, 1]) (Shp.cons rfl (Shp.cons rfl (Shp.cons rfl (Shp.cons rfl (Shp.cons rfl (Shp.cons (lenB hvs) (Shp.cons (lenB hvr) (Shp.cons rfl (Shp.cons rfl (Shp.cons rfl (Shp.cons rfl (Shp.cons rfl (Shp.cons rfl Shp.nil))))))))))))) 12 rfl rfl)) rfl rfl rfl rfl rfl rfl rfl ?_
  obtain ⟨G43, hl44, S42, r45⟩ := S37.stillRow 3 rfl
  obtain ⟨G47, hl48, S46, r49⟩ := S42.stillRow 2 rfl
  obtain ⟨G51, hl52, S50, r53⟩ := S46.stillRow 1 rfl
  obtain ⟨G55, hl56, S54, r57⟩ := S50.stillRow 0 rfl
  have rs58 : Rds G55 [.slice a9 ((Go.Sha.put (max 0 pn).toNat 1).length) c10, .slice a16 ((Go.Au.packV va vb vc vd vs vr).length) c17, .slice a24 ((Go.Au.pack sh sl X Y).length) c25, .slice a31 ((Go.Au.flatTo [] Z Z.length).length) c32, .slice a4 B.length c4] [Go.Sha.put (max 0 pn).toNat 1, Go.Au.packV va vb vc vd vs vr, Go.Au.pack sh sl X Y, Go.Au.flatTo [] Z Z.length, B] := Rds.cons (Rd.canonB (r45.mono (hl48.trans (hl52.trans hl56)))) (Rds.cons (Rd.canonB (r49.mono (hl52.trans hl56))) (Rds.cons (Rd.canonB (r53.mono hl56)) (Rds.cons (Rd.canonB r57) (Rds.cons (Rd.canonB (h4.mono (hl6.trans (hl44.trans (hl48.trans (hl52.trans hl56)))))) (Rds.nil _)))))
  refine T_litS [.slice a9 ((Go.Sha.put (max 0 pn).toNat 1).length) c10, .slice a16 ((Go.Au.packV va vb vc vd vs vr).length) c17, .slice a24 ((Go.Au.pack sh sl X Y).length) c25, .slice a31 ((Go.Au.flatTo [] Z Z.length).length) c32, .slice a4 B.length c4] rfl rfl rfl rfl rfl rfl rfl rfl rfl rfl rfl rfl rfl (by simp [Value.cells]; rfl) rfl fun a38 w39 hB40 ho41 => ?_
  have S59 := S54.own hB40 ho41
  refine ⟨(((hl44.trans (hl48.trans (hl52.trans hl56)))).trans S59.le), ?_⟩
  obtain ⟨G61, hl62, S60, r63⟩ := S59.stillRow 0 rfl
  have r64 := RdL.mk r63 (rs58.mono hl62)
  refine T_callS rfl rfl g_aumbry_code_Nets rfl rfl rfl rfl ((nets_ok S60.le (hT.mono (hl6.trans (hl44.trans (hl48.trans (hl52.trans (hl56.trans hl62)))))) r64 (by omega)).mono ?_)
  rintro e w70 ⟨a65, c66, hc67, rfl, ho68, hB69⟩
  have S71 := S60.own hB69 ho68
  refine ⟨_, rfl, (((hl44.trans (hl48.trans (hl52.trans (hl56.trans hl62))))).trans S71.le), ?_⟩
  refine T_pev rfl rfl rfl rfl ?_
  refine T_nil ?_
  refine W_ret ?_
  refine ⟨_, ⟨_, _, rfl, rfl, rfl⟩, ?_⟩
  exact ⟨_, _, hc67, rfl, S71.row 0 rfl, S71.below⟩


theorem packPR_ok {H : Hp} {w : World} (hH : H.le (hw w)) (pn va vb vc vd : Int) {vs vr : List UInt8} (hvs : vs.length = 16) (hvr : vr.length = 32) (sh sl : Int) {X Y Z : List (List UInt8)} {B : List UInt8} {a1 a2 a3 a4 : Option Addr} {n1 n2 n3 n4 c1 c2 c3 c4 : Nat} (h1 : RdH H (.slice a1 n1 c1) 32 X) (h2 : RdH H (.slice a2 n2 c2) 32 Y) (h3 : RdH H (.slice a3 n3 c3) 32 Z) (h4 : Rd H (.slice a4 n4 c4) n4 1 (B.map bV)) (hpn : pn ≤ 9223372036854775807) (hva : va ≤ 9223372036854775807) (hvb : vb ≤ 9223372036854775807) (hvc : vc ≤ 9223372036854775807) (hvd : vd ≤ 9223372036854775807) (hsh : sh ≤ 9223372036854775807) (hsl : sl ≤ 9223372036854775807) (hX : X.length ≤ 70) (hY : Y.length ≤ 6) (hZ : Z.length ≤ 6) (hB : B.length ≤ 100) :
    Calls Tryd.prog 38 #[gV [[.int .i64 pn], [.int .i64 va], [.int .i64 vb], [.int .i64 vc], [.int .i64 vd], vs.map bV, vr.map bV, [.int .i64 sh], [.int .i64 sl], [.slice a1 n1 c1], [.slice a2 n2 c2], [.slice a3 n3 c3], [.slice a4 n4 c4]]] w fun e w' => ∃ a c, (Go.Au.packP pn va vb vc vd vs vr sh sl X Y Z B).length ≤ c ∧ e = .returned (.slice a (Go.Au.packP pn va vb vc vd vs vr sh sl X Y Z B).length c) ∧ rowZ w' w.heap.size 5 1 (.slice a (Go.Au.packP pn va vb vc vd vs vr sh sl X Y Z B).length c) (Go.Au.packP pn va vb vc vd vs vr sh sl X Y Z B).length ((Go.Au.packP pn va vb vc vd vs vr sh sl X Y Z B).map bV) ∧ Below w.heap.size w w' := by
  obtain rfl : n1 = X.length := h1.len
  obtain rfl : n2 = Y.length := h2.len
  obtain rfl : n3 = Z.length := h3.len
  obtain rfl : n4 = B.length := h4.lenB
  have hpq := Go.Au.packP_len pn va vb vc vd (s := vs) (t := vr) sh sl hvs hvr hX hY hZ hB h1.1 h2.1 h3.1
  obtain ⟨hpl, hpp, hpf, hpv⟩ := id hpq
  unfold Go.Au.packP at hpl
  refine enter1 _ Tryd.func38 rfl Tryd.ntmps38 Tryd.results38 rfl ?_
  have S0 := St.start w hH
  refine W_seq ?_
  refine W_region ?_
  refine T_boxS S0 (fun _ _ => trivial) rfl rfl rfl rfl rfl rfl fun b1 w2 S3 => ?_
  refine T_pev rfl rfl rfl rfl ?_
  refine T_nil ?_
  refine W_seq ?_
  obtain ⟨G5, hl6, S4, r7⟩ := S3.stillBlk 0 rfl
  refine W_plan (planF Tryd.prog G5 [7, 10, 13, 16]) rfl (by kernel_rfl) S4.le ?_
  have S8 := S4.drew
  refine T_fldm 0 rfl rfl rfl rfl rfl rfl (by decide) rfl rfl rfl ?_
  refine T_loadG S8 (still_cell r7 (gV_cell (ns := [1, 1, 1, 1, 1, 16, 32, 1, 1, 1, 1, 1, 1]) (Shp.cons rfl (Shp.cons rfl (Shp.cons rfl (Shp.cons rfl (Shp.cons rfl (Shp.cons (lenB hvs) (Shp.cons (lenB hvr) (Shp.cons rfl (Shp.cons rfl (Shp.cons rfl (Shp.cons rfl (Shp.cons rfl (Shp.cons rfl Shp.nil))))))))))))) 0 rfl rfl)) rfl rfl rfl rfl rfl rfl rfl ?_
  refine T_callS rfl rfl g_aumbry_aumbryref01_Put rfl rfl rfl rfl ((putR_ok S8.le pn 1 (by omega) (by omega)).mono ?_)
  rintro e w14 ⟨a9, c10, hc11, rfl, ho12, hB13⟩
  have S15 := S8.own hB13 ho12
  refine ⟨_, rfl, (((Hp.le.refl _)).trans S15.le), ?_⟩
  refine T_fldm 1 rfl rfl rfl rfl rfl rfl (by decide) rfl rfl rfl ?_
  refine T_loadGAP (qV va vb vc vd vs vr : Value).cells (fun _ h => h) (still_part r7 (gV_sub (ns := [1, 1, 1, 1, 1, 16, 32, 1, 1, 1, 1, 1, 1]) (Shp.cons rfl (Shp.cons rfl (Shp.cons rfl (Shp.cons rfl (Shp.cons rfl (Shp.cons (lenB hvs) (Shp.cons (lenB hvr) (Shp.cons rfl (Shp.cons rfl (Shp.cons rfl (Shp.cons rfl (Shp.cons rfl (Shp.cons rfl Shp.nil))))))))))))) 1 6 (c := (qV va vb vc vd vs vr : Value).cells.toList) (qV_flat) rfl)) rfl rfl rfl rfl rfl rfl rfl rfl (qV_sz (q_len hvs hvr rfl)) ?_
  refine T_callS rfl rfl g_aumbry_aumbryref13_PackVersion rfl rfl rfl rfl ((packVR_ok S15.le va vb vc vd (s := vs) (t := vr) hvs hvr (by omega) (by omega) (by omega) (by omega)).mono ?_)
  rintro e w21 ⟨a16, c17, hc18, rfl, ho19, hB20⟩
  have hl22 := Go.Au.packV_len va vb vc vd (s := vs) (t := vr) (by have := hvs; omega) (by have := hvr; omega)
  have S23 := S15.own hB20 ho19
  refine ⟨_, rfl, (((Hp.le.refl _)).trans S23.le), ?_⟩
  refine T_fldm 53 rfl rfl rfl rfl rfl rfl (by decide) rfl rfl rfl ?_
  refine T_loadGAP (.agg #[.int .i64 sh, .int .i64 sl, .slice a1 X.length c1, .slice a2 Y.length c2] : Value).cells (fun _ h => h) (still_part r7 (gV_sub (ns := [1, 1, 1, 1, 1, 16, 32, 1, 1, 1, 1, 1, 1]) (Shp.cons rfl (Shp.cons rfl (Shp.cons rfl (Shp.cons rfl (Shp.cons rfl (Shp.cons (lenB hvs) (Shp.cons (lenB hvr) (Shp.cons rfl (Shp.cons rfl (Shp.cons rfl (Shp.cons rfl (Shp.cons rfl (Shp.cons rfl Shp.nil))))))))))))) 7 4 (c := [.int .i64 sh, .int .i64 sl, .slice a1 X.length c1, .slice a2 Y.length c2]) (rfl) rfl)) rfl rfl rfl rfl rfl rfl rfl rfl (by first | rfl | simp [hVs, *]) ?_
  refine T_callS rfl rfl g_aumbry_aumbryref07_Pack rfl rfl rfl rfl ((packR_ok S23.le sh sl (h1.mono hl6) (h2.mono hl6) (by omega) (by omega) (by omega) (by omega)).mono ?_)
  rintro e w29 ⟨a24, c25, hc26, rfl, ho27, hB28⟩
  have S30 := S23.own hB28 ho27
  refine ⟨_, rfl, (((Hp.le.refl _)).trans S30.le), ?_⟩
  refine T_fldm 57 rfl rfl rfl rfl rfl rfl (by decide) rfl rfl rfl ?_
  refine T_loadGP (fun _ h => h) (still_cell r7 (gV_cell (ns := [1, 1, 1, 1, 1, 16, 32, 1, 1, 1, 1, 1, 1]) (Shp.cons rfl (Shp.cons rfl (Shp.cons rfl (Shp.cons rfl (Shp.cons rfl (Shp.cons (lenB hvs) (Shp.cons (lenB hvr) (Shp.cons rfl (Shp.cons rfl (Shp.cons rfl (Shp.cons rfl (Shp.cons rfl (Shp.cons rfl Shp.nil))))))))))))) 11 rfl rfl)) rfl rfl rfl rfl rfl rfl rfl ?_
  refine T_callS rfl rfl g_aumbry_aumbryref07_Hashes rfl rfl rfl rfl ((hashesR_ok S30.le (h3.mono hl6) (by omega)).mono ?_)
  rintro e w36 ⟨a31, c32, hc33, rfl, ho34, hB35⟩
  have S37 := S30.own hB35 ho34
  refine ⟨_, rfl, (((Hp.le.refl _)).trans S37.le), ?_⟩
  refine T_fldm 58 rfl rfl rfl rfl rfl rfl (by decide) rfl rfl rfl ?_
  refine T_loadGP (fun _ h => h) (still_cell r7 (gV_cell (ns := [1, 1, 1, 1, 1, 16, 32, 1, 1, 1, 1, 1, 1]) (Shp.cons rfl (Shp.cons rfl (Shp.cons rfl (Shp.cons rfl (Shp.cons rfl (Shp.cons (lenB hvs) (Shp.cons (lenB hvr) (Shp.cons rfl (Shp.cons rfl (Shp.cons rfl (Shp.cons rfl (Shp.cons rfl (Shp.cons rfl Shp.nil))))))))))))) 12 rfl rfl)) rfl rfl rfl rfl rfl rfl rfl ?_
  obtain ⟨G43, hl44, S42, r45⟩ := S37.stillRow 3 rfl
  obtain ⟨G47, hl48, S46, r49⟩ := S42.stillRow 2 rfl
  obtain ⟨G51, hl52, S50, r53⟩ := S46.stillRow 1 rfl
  obtain ⟨G55, hl56, S54, r57⟩ := S50.stillRow 0 rfl
  have rs58 : Rds G55 [.slice a9 ((Go.Sha.put (max 0 pn).toNat 1).length) c10, .slice a16 ((Go.Au.packV va vb vc vd vs vr).length) c17, .slice a24 ((Go.Au.pack sh sl X Y).length) c25, .slice a31 ((Go.Au.flatTo [] Z Z.length).length) c32, .slice a4 B.length c4] [Go.Sha.put (max 0 pn).toNat 1, Go.Au.packV va vb vc vd vs vr, Go.Au.pack sh sl X Y, Go.Au.flatTo [] Z Z.length, B] := Rds.cons (Rd.canonB (r45.mono (hl48.trans (hl52.trans hl56)))) (Rds.cons (Rd.canonB (r49.mono (hl52.trans hl56))) (Rds.cons (Rd.canonB (r53.mono hl56)) (Rds.cons (Rd.canonB r57) (Rds.cons (Rd.canonB (h4.mono (hl6.trans (hl44.trans (hl48.trans (hl52.trans hl56)))))) (Rds.nil _)))))
  refine T_litS [.slice a9 ((Go.Sha.put (max 0 pn).toNat 1).length) c10, .slice a16 ((Go.Au.packV va vb vc vd vs vr).length) c17, .slice a24 ((Go.Au.pack sh sl X Y).length) c25, .slice a31 ((Go.Au.flatTo [] Z Z.length).length) c32, .slice a4 B.length c4] rfl rfl rfl rfl rfl rfl rfl rfl rfl rfl rfl rfl rfl (by simp [Value.cells]; rfl) rfl fun a38 w39 hB40 ho41 => ?_
  have S59 := S54.own hB40 ho41
  refine ⟨(((hl44.trans (hl48.trans (hl52.trans hl56)))).trans S59.le), ?_⟩
  obtain ⟨G61, hl62, S60, r63⟩ := S59.stillRow 0 rfl
  have r64 := RdL.mk r63 (rs58.mono hl62)
  refine T_callS rfl rfl g_aumbry_aumbryref01_Nets rfl rfl rfl rfl ((netsR_ok S60.le r64 (by omega)).mono ?_)
  rintro e w70 ⟨a65, c66, hc67, rfl, ho68, hB69⟩
  have S71 := S60.own hB69 ho68
  refine ⟨_, rfl, (((hl44.trans (hl48.trans (hl52.trans (hl56.trans hl62))))).trans S71.le), ?_⟩
  refine T_pev rfl rfl rfl rfl ?_
  refine T_nil ?_
  refine W_ret ?_
  refine ⟨_, ⟨_, _, rfl, rfl, rfl⟩, ?_⟩
  exact ⟨_, _, hc67, rfl, S71.row 0 rfl, S71.below⟩


set_option maxHeartbeats 1000000 in
theorem unpackPc_ok {H : Hp} {w : World} (hH : H.le (hw w)) (hT : Tabs H) {b : List UInt8} {aa0 : Option Addr} {nn0 cc0 : Nat} (hv : Rd H (.slice aa0 nn0 cc0) nn0 1 (b.map bV)) (hb : b.length ≤ 10000) :
    Calls Tryd.prog 35 #[.slice aa0 nn0 cc0] w fun e w' => ∃ a1 c1 a2 c2 a3 c3 a4 c4, e = .returned (.tuple #[gV [[.int .i64 (Go.Au.pcN b)], [.int .i64 (Go.Au.pcA b 0)], [.int .i64 (Go.Au.pcA b 1)], [.int .i64 (Go.Au.pcA b 2)], [.int .i64 (Go.Au.pcA b 3)], (Go.Au.pcS b).map bV, (Go.Au.pcR b).map bV, [.int .i64 (Go.Au.pcH b)], [.int .i64 (Go.Au.pcL b)], [.slice a1 (Go.Au.pcV b).length c1], [.slice a2 (Go.Au.pcP b).length c2], [.slice a3 (Go.Au.pcQ b).length c3], [.slice a4 (Go.Au.pcB b).length c4]], .bool (decide (Go.Au.PcOk b))]) ∧ RdH (F.ext H w.heap.size w') (.slice a1 (Go.Au.pcV b).length c1) 32 (Go.Au.pcV b) ∧ RdH (F.ext H w.heap.size w') (.slice a2 (Go.Au.pcP b).length c2) 32 (Go.Au.pcP b) ∧ RdH (F.ext H w.heap.size w') (.slice a3 (Go.Au.pcQ b).length c3) 32 (Go.Au.pcQ b) ∧ Rd (F.ext H w.heap.size w') (.slice a4 (Go.Au.pcB b).length c4) (Go.Au.pcB b).length 1 ((Go.Au.pcB b).map bV) ∧ Below w.heap.size w w' := by
  obtain rfl : nn0 = b.length := hv.lenB
  have hvcap : b.length ≤ cc0 := hv.capOf
  refine enter1 _ Tryd.func35 rfl Tryd.ntmps35 Tryd.results35 rfl ?_
  have S0 := St.start w hH
  refine W_seq ?_
  refine W_region ?_
  refine T_allocS S0 (fun _ _ => trivial) rfl rfl rfl rfl rfl rfl rfl fun b1 w2 S3 => ?_
  refine T_pev rfl rfl rfl rfl ?_
  refine T_nil ?_
  refine W_seq ?_
  refine W_region ?_
  refine T_pev rfl rfl rfl rfl ?_
  refine T_callS rfl rfl g_aumbry_code_TakeNets rfl rfl rfl rfl ((takeNets_ok S3.le hv 5 (by omega) (by omega)).mono ?_)
  rintro e w8 ⟨a4, c5, rfl, r6, hB7⟩
  obtain ⟨G10, eG12⟩ : ∃ G, G = F.ext H w2.heap.size w8 := ⟨_, rfl⟩
  obtain ⟨hl11, S9⟩ := S3.ext hB7
  rw [← eG12] at hl11 S9 r6
  refine ⟨_, rfl, trivial, ?_⟩
  refine T_pev rfl rfl rfl rfl ?_
  refine T_pev rfl rfl rfl rfl ?_
  refine T_pev rfl rfl rfl rfl ?_
  refine T_pev rfl rfl rfl rfl ?_
  refine T_pev rfl rfl rfl rfl ?_
  refine T_nil ?_
  refine W_seq ?_
  refine W_seq ?_
  refine W_region ?_
  refine T_pev rfl rfl rfl rfl ?_
  refine T_pev rfl rfl rfl rfl ?_
  refine T_pev rfl rfl rfl rfl ?_
  refine T_part (t := 18) rfl (List.cons_ne_nil _ _) (fun h13' => ?_) (fun h13' => ?_)
  · have h13 := of_ndec_t h13'
    refine T_no rfl rfl rfl rfl rfl rfl ?_
    refine T_no rfl rfl rfl rfl rfl rfl ?_
    refine T_no rfl rfl rfl rfl rfl rfl ?_
    refine T_pev rfl rfl rfl rfl ?_
    refine T_pev rfl rfl rfl rfl ?_
    refine T_no rfl rfl rfl rfl rfl rfl ?_
    refine T_no rfl rfl rfl rfl rfl rfl ?_
    refine T_no rfl rfl rfl rfl rfl rfl ?_
    refine T_no rfl rfl rfl rfl rfl rfl ?_
    refine T_no rfl rfl rfl rfl rfl rfl ?_
    refine T_pev rfl rfl rfl rfl ?_
    refine T_pev rfl rfl rfl rfl ?_
    refine T_no rfl rfl rfl rfl rfl rfl ?_
    refine T_no rfl rfl rfl rfl rfl rfl ?_
    refine T_no rfl rfl rfl rfl rfl rfl ?_
    refine T_no rfl rfl rfl rfl rfl rfl ?_
    refine T_no rfl rfl rfl rfl rfl rfl ?_
    refine T_no rfl rfl rfl rfl rfl rfl ?_
    refine T_pev rfl rfl rfl rfl ?_
    refine T_nil ?_
    refine W_cond_true rfl ?_
    refine W_seq ?_
    refine W_region ?_
    refine T_buildS (cells := (gV [[.int .i64 0], [.int .i64 0], [.int .i64 0], [.int .i64 0], [.int .i64 0], (List.replicate 16 0).map bV, (List.replicate 32 0).map bV, [.int .i64 0], [.int .i64 0], [.slice none 0 0], [.slice none 0 0], [.slice none 0 0], [.slice none 0 0]] : Value).cells) rfl rfl rfl rfl rfl rfl fill_gnil rfl rfl rfl ?_
    refine T_storeFS 0 S9 (fun _ _ => trivial) rfl rfl rfl rfl rfl rfl rfl rfl rfl (gV_size (L := [[.int .i64 0], [.int .i64 0], [.int .i64 0], [.int .i64 0], [.int .i64 0], (List.replicate 16 0).map bV, (List.replicate 32 0).map bV, [.int .i64 0], [.int .i64 0], [.slice none 0 0], [.slice none 0 0], [.slice none 0 0], [.slice none 0 0]]) (ns := [1, 1, 1, 1, 1, 16, 32, 1, 1, 1, 1, 1, 1]) (Shp.cons rfl (Shp.cons rfl (Shp.cons rfl (Shp.cons rfl (Shp.cons rfl (Shp.cons (lenB List.length_replicate) (Shp.cons (lenB List.length_replicate) (Shp.cons rfl (Shp.cons rfl (Shp.cons rfl (Shp.cons rfl (Shp.cons rfl (Shp.cons rfl Shp.nil))))))))))))) rfl) (gV_size (L := [[.int .i64 0], [.int .i64 0], [.int .i64 0], [.int .i64 0], [.int .i64 0], (List.replicate 16 0).map bV, (List.replicate 32 0).map bV, [.int .i64 0], [.int .i64 0], [.slice none 0 0], [.slice none 0 0], [.slice none 0 0], [.slice none 0 0]]) (ns := [1, 1, 1, 1, 1, 16, 32, 1, 1, 1, 1, 1, 1]) (Shp.cons rfl (Shp.cons rfl (Shp.cons rfl (Shp.cons rfl (Shp.cons rfl (Shp.cons (lenB List.length_replicate) (Shp.cons (lenB List.length_replicate) (Shp.cons rfl (Shp.cons rfl (Shp.cons rfl (Shp.cons rfl (Shp.cons rfl (Shp.cons rfl Shp.nil))))))))))))) rfl) (gV_one (OneL.one rfl (OneL.one rfl (OneL.one rfl (OneL.one rfl (OneL.one rfl (OneL.arr (OneL.arr (OneL.one rfl (OneL.one rfl (OneL.one rfl (OneL.one rfl (OneL.one rfl (OneL.one rfl OneL.nil)))))))))))))) fun w14 S15 => ?_
    refine T_pev rfl rfl rfl rfl ?_
    refine T_nil ?_
    refine W_ret ?_
    refine ⟨_, ⟨_, _, _, rfl, rfl, run_loadVarA rfl rfl (gV_size (L := [[.int .i64 0], [.int .i64 0], [.int .i64 0], [.int .i64 0], [.int .i64 0], (List.replicate 16 0).map bV, (List.replicate 32 0).map bV, [.int .i64 0], [.int .i64 0], [.slice none 0 0], [.slice none 0 0], [.slice none 0 0], [.slice none 0 0]]) (ns := [1, 1, 1, 1, 1, 16, 32, 1, 1, 1, 1, 1, 1]) (Shp.cons rfl (Shp.cons rfl (Shp.cons rfl (Shp.cons rfl (Shp.cons rfl (Shp.cons (lenB List.length_replicate) (Shp.cons (lenB List.length_replicate) (Shp.cons rfl (Shp.cons rfl (Shp.cons rfl (Shp.cons rfl (Shp.cons rfl (Shp.cons rfl Shp.nil))))))))))))) rfl) (S15.cells 0 rfl), ⟨_, _, rfl, rfl, rfl⟩⟩, ?_⟩
    have HNO : ¬ Go.Au.PcOk b := by
      intro hq
      obtain ⟨q0, q1, q2, q3, q4, q5, q6⟩ := hq
      unfold Go.Au.p5 at q2 q3 q4 q5 q6
      first | omega | exact h13 q0 | exact h13 q4 | exact h13 q5 | exact h13 q6
    exact pc_none HNO S15.below
  have h13 := of_ndec_f h13'
  refine T_yes rfl rfl rfl ?_ rfl
  refine T_pev rfl rfl rfl rfl ?_
  refine T_yes rfl rfl rfl ?_ rfl
  refine T_pev rfl rfl rfl rfl ?_
  refine T_yes rfl rfl rfl ?_ rfl
  refine T_pev rfl rfl rfl rfl ?_
  refine T_pev rfl rfl rfl rfl ?_
  refine T_pev rfl rfl rfl rfl ?_
  refine T_part (t := 23) rfl (List.cons_ne_nil _ _) (fun h16' => ?_) (fun h16' => ?_)
  · have h16 := of_decide_eq_true h16'
    refine T_no rfl rfl rfl rfl rfl rfl ?_
    refine T_no rfl rfl rfl rfl rfl rfl ?_
    refine T_no rfl rfl rfl rfl rfl rfl ?_
    refine T_no rfl rfl rfl rfl rfl rfl ?_
    refine T_no rfl rfl rfl rfl rfl rfl ?_
    refine T_pev rfl rfl rfl rfl ?_
    refine T_pev rfl rfl rfl rfl ?_
    refine T_no rfl rfl rfl rfl rfl rfl ?_
    refine T_no rfl rfl rfl rfl rfl rfl ?_
    refine T_no rfl rfl rfl rfl rfl rfl ?_
    refine T_no rfl rfl rfl rfl rfl rfl ?_
    refine T_no rfl rfl rfl rfl rfl rfl ?_
    refine T_no rfl rfl rfl rfl rfl rfl ?_
    refine T_pev rfl rfl rfl rfl ?_
    refine T_nil ?_
    refine W_cond_true rfl ?_
    refine W_seq ?_
    refine W_region ?_
    refine T_buildS (cells := (gV [[.int .i64 0], [.int .i64 0], [.int .i64 0], [.int .i64 0], [.int .i64 0], (List.replicate 16 0).map bV, (List.replicate 32 0).map bV, [.int .i64 0], [.int .i64 0], [.slice none 0 0], [.slice none 0 0], [.slice none 0 0], [.slice none 0 0]] : Value).cells) rfl rfl rfl rfl rfl rfl fill_gnil rfl rfl rfl ?_
    refine T_storeFS 0 S9 (fun _ _ => trivial) rfl rfl rfl rfl rfl rfl rfl rfl rfl (gV_size (L := [[.int .i64 0], [.int .i64 0], [.int .i64 0], [.int .i64 0], [.int .i64 0], (List.replicate 16 0).map bV, (List.replicate 32 0).map bV, [.int .i64 0], [.int .i64 0], [.slice none 0 0], [.slice none 0 0], [.slice none 0 0], [.slice none 0 0]]) (ns := [1, 1, 1, 1, 1, 16, 32, 1, 1, 1, 1, 1, 1]) (Shp.cons rfl (Shp.cons rfl (Shp.cons rfl (Shp.cons rfl (Shp.cons rfl (Shp.cons (lenB List.length_replicate) (Shp.cons (lenB List.length_replicate) (Shp.cons rfl (Shp.cons rfl (Shp.cons rfl (Shp.cons rfl (Shp.cons rfl (Shp.cons rfl Shp.nil))))))))))))) rfl) (gV_size (L := [[.int .i64 0], [.int .i64 0], [.int .i64 0], [.int .i64 0], [.int .i64 0], (List.replicate 16 0).map bV, (List.replicate 32 0).map bV, [.int .i64 0], [.int .i64 0], [.slice none 0 0], [.slice none 0 0], [.slice none 0 0], [.slice none 0 0]]) (ns := [1, 1, 1, 1, 1, 16, 32, 1, 1, 1, 1, 1, 1]) (Shp.cons rfl (Shp.cons rfl (Shp.cons rfl (Shp.cons rfl (Shp.cons rfl (Shp.cons (lenB List.length_replicate) (Shp.cons (lenB List.length_replicate) (Shp.cons rfl (Shp.cons rfl (Shp.cons rfl (Shp.cons rfl (Shp.cons rfl (Shp.cons rfl Shp.nil))))))))))))) rfl) (gV_one (OneL.one rfl (OneL.one rfl (OneL.one rfl (OneL.one rfl (OneL.one rfl (OneL.arr (OneL.arr (OneL.one rfl (OneL.one rfl (OneL.one rfl (OneL.one rfl (OneL.one rfl (OneL.one rfl OneL.nil)))))))))))))) fun w17 S18 => ?_
    refine T_pev rfl rfl rfl rfl ?_
    refine T_nil ?_
    refine W_ret ?_
    refine ⟨_, ⟨_, _, _, rfl, rfl, run_loadVarA rfl rfl (gV_size (L := [[.int .i64 0], [.int .i64 0], [.int .i64 0], [.int .i64 0], [.int .i64 0], (List.replicate 16 0).map bV, (List.replicate 32 0).map bV, [.int .i64 0], [.int .i64 0], [.slice none 0 0], [.slice none 0 0], [.slice none 0 0], [.slice none 0 0]]) (ns := [1, 1, 1, 1, 1, 16, 32, 1, 1, 1, 1, 1, 1]) (Shp.cons rfl (Shp.cons rfl (Shp.cons rfl (Shp.cons rfl (Shp.cons rfl (Shp.cons (lenB List.length_replicate) (Shp.cons (lenB List.length_replicate) (Shp.cons rfl (Shp.cons rfl (Shp.cons rfl (Shp.cons rfl (Shp.cons rfl (Shp.cons rfl Shp.nil))))))))))))) rfl) (S18.cells 0 rfl), ⟨_, _, rfl, rfl, rfl⟩⟩, ?_⟩
    have HNO : ¬ Go.Au.PcOk b := by
      intro hq
      obtain ⟨q0, q1, q2, q3, q4, q5, q6⟩ := hq
      unfold Go.Au.p5 at q2 q3 q4 q5 q6
      first | omega | exact h16 q0 | exact h16 q4 | exact h16 q5 | exact h16 q6
    exact pc_none HNO S18.below
  have h16 := of_decide_eq_false h16'
  refine T_yes rfl rfl rfl ?_ rfl
  have HA := h13
  have hn5 := Go.Au.ntAll_len HA
  have hel := fun i => Go.Au.p5_le b i
  unfold Go.Au.p5 at hel
  have he0 := hel 0
  have he1 := hel 1
  have he2 := hel 2
  have he3 := hel 3
  have he4 := hel 4
  refine T_pev rfl rfl rfl rfl ?_
  refine T_yes rfl rfl rfl ?_ rfl
  obtain ⟨hs22, r23, r24⟩ := (id r6)
  refine T_idxR 0 r23 rfl rfl rfl rfl rfl rfl rfl rfl rfl (by omega) (by omega) fun b19 o20 hc21 => ?_
  obtain ⟨a27, c28, hc30, hv26, r29⟩ := r24.at 0 (by omega)
  have hc31 := hc21 0 (.slice a27 ((Go.Au.ntAll 5 b).getD 0 []).length c28) (by simpa using hv26)
  simp only [Nat.add_zero] at hc31
  refine T_yes rfl rfl rfl ?_ rfl
  refine T_loadG S9 hc31 rfl rfl rfl rfl rfl rfl rfl ?_
  refine T_yes rfl rfl rfl ?_ rfl
  refine T_pev rfl rfl rfl rfl ?_
  refine T_yes rfl rfl rfl ?_ rfl
  refine T_pev rfl rfl rfl rfl ?_
  refine T_pev rfl rfl rfl rfl ?_
  refine T_pev rfl rfl rfl rfl ?_
  refine T_part (t := 30) rfl (List.cons_ne_nil _ _) (fun h32' => ?_) (fun h32' => ?_)
  · have h32 := of_ndec_t h32'
    refine T_no rfl rfl rfl rfl rfl rfl ?_
    refine T_no rfl rfl rfl rfl rfl rfl ?_
    refine T_no rfl rfl rfl rfl rfl rfl ?_
    refine T_no rfl rfl rfl rfl rfl rfl ?_
    refine T_no rfl rfl rfl rfl rfl rfl ?_
    refine T_no rfl rfl rfl rfl rfl rfl ?_
    refine T_pev rfl rfl rfl rfl ?_
    refine T_nil ?_
    refine W_cond_true rfl ?_
    refine W_seq ?_
    refine W_region ?_
    refine T_buildS (cells := (gV [[.int .i64 0], [.int .i64 0], [.int .i64 0], [.int .i64 0], [.int .i64 0], (List.replicate 16 0).map bV, (List.replicate 32 0).map bV, [.int .i64 0], [.int .i64 0], [.slice none 0 0], [.slice none 0 0], [.slice none 0 0], [.slice none 0 0]] : Value).cells) rfl rfl rfl rfl rfl rfl fill_gnil rfl rfl rfl ?_
    refine T_storeFS 0 S9 (fun _ _ => trivial) rfl rfl rfl rfl rfl rfl rfl rfl rfl (gV_size (L := [[.int .i64 0], [.int .i64 0], [.int .i64 0], [.int .i64 0], [.int .i64 0], (List.replicate 16 0).map bV, (List.replicate 32 0).map bV, [.int .i64 0], [.int .i64 0], [.slice none 0 0], [.slice none 0 0], [.slice none 0 0], [.slice none 0 0]]) (ns := [1, 1, 1, 1, 1, 16, 32, 1, 1, 1, 1, 1, 1]) (Shp.cons rfl (Shp.cons rfl (Shp.cons rfl (Shp.cons rfl (Shp.cons rfl (Shp.cons (lenB List.length_replicate) (Shp.cons (lenB List.length_replicate) (Shp.cons rfl (Shp.cons rfl (Shp.cons rfl (Shp.cons rfl (Shp.cons rfl (Shp.cons rfl Shp.nil))))))))))))) rfl) (gV_size (L := [[.int .i64 0], [.int .i64 0], [.int .i64 0], [.int .i64 0], [.int .i64 0], (List.replicate 16 0).map bV, (List.replicate 32 0).map bV, [.int .i64 0], [.int .i64 0], [.slice none 0 0], [.slice none 0 0], [.slice none 0 0], [.slice none 0 0]]) (ns := [1, 1, 1, 1, 1, 16, 32, 1, 1, 1, 1, 1, 1]) (Shp.cons rfl (Shp.cons rfl (Shp.cons rfl (Shp.cons rfl (Shp.cons rfl (Shp.cons (lenB List.length_replicate) (Shp.cons (lenB List.length_replicate) (Shp.cons rfl (Shp.cons rfl (Shp.cons rfl (Shp.cons rfl (Shp.cons rfl (Shp.cons rfl Shp.nil))))))))))))) rfl) (gV_one (OneL.one rfl (OneL.one rfl (OneL.one rfl (OneL.one rfl (OneL.one rfl (OneL.arr (OneL.arr (OneL.one rfl (OneL.one rfl (OneL.one rfl (OneL.one rfl (OneL.one rfl (OneL.one rfl OneL.nil)))))))))))))) fun w33 S34 => ?_
    refine T_pev rfl rfl rfl rfl ?_
    refine T_nil ?_
    refine W_ret ?_
    refine ⟨_, ⟨_, _, _, rfl, rfl, run_loadVarA rfl rfl (gV_size (L := [[.int .i64 0], [.int .i64 0], [.int .i64 0], [.int .i64 0], [.int .i64 0], (List.replicate 16 0).map bV, (List.replicate 32 0).map bV, [.int .i64 0], [.int .i64 0], [.slice none 0 0], [.slice none 0 0], [.slice none 0 0], [.slice none 0 0]]) (ns := [1, 1, 1, 1, 1, 16, 32, 1, 1, 1, 1, 1, 1]) (Shp.cons rfl (Shp.cons rfl (Shp.cons rfl (Shp.cons rfl (Shp.cons rfl (Shp.cons (lenB List.length_replicate) (Shp.cons (lenB List.length_replicate) (Shp.cons rfl (Shp.cons rfl (Shp.cons rfl (Shp.cons rfl (Shp.cons rfl (Shp.cons rfl Shp.nil))))))))))))) rfl) (S34.cells 0 rfl), ⟨_, _, rfl, rfl, rfl⟩⟩, ?_⟩
    have HNO : ¬ Go.Au.PcOk b := by
      intro hq
      obtain ⟨q0, q1, q2, q3, q4, q5, q6⟩ := hq
      unfold Go.Au.p5 at q2 q3 q4 q5 q6
      first | omega | exact h32 q0 | exact h32 q4 | exact h32 q5 | exact h32 q6
    exact pc_none HNO S34.below
  have h32 := of_ndec_f h32'
  refine T_yes rfl rfl rfl ?_ rfl
  refine T_pev rfl rfl rfl rfl ?_
  refine T_yes rfl rfl rfl ?_ rfl
  obtain ⟨hs38, r39, r40⟩ := (id r6)
  refine T_idxR 0 r39 rfl rfl rfl rfl rfl rfl rfl rfl rfl (by omega) (by omega) fun b35 o36 hc37 => ?_
  obtain ⟨a43, c44, hc46, hv42, r45⟩ := r40.at 0 (by omega)
  have hc47 := hc37 0 (.slice a43 ((Go.Au.ntAll 5 b).getD 0 []).length c44) (by simpa using hv42)
  simp only [Nat.add_zero] at hc47
  refine T_yes rfl rfl rfl ?_ rfl
  refine T_loadG S9 hc47 rfl rfl rfl rfl rfl rfl rfl ?_
  refine T_yes rfl rfl rfl ?_ rfl
  refine T_idxR 0 r45 rfl rfl rfl rfl rfl rfl rfl rfl rfl (by omega) (by omega) fun b48 o49 hc50 => ?_
  have hc51 := hc50 0 (bV (((Go.Au.ntAll 5 b).getD 0 []).getD 0 0)) (at_b ((Go.Au.ntAll 5 b).getD 0 []) 0 (by omega))
  simp only [Nat.add_zero] at hc51
  refine T_yes rfl rfl rfl ?_ rfl
  refine T_loadG S9 hc51 rfl rfl rfl rfl rfl rfl rfl ?_
  refine T_yes rfl rfl rfl ?_ rfl
  refine T_pev rfl rfl rfl rfl ?_
  refine T_pev rfl rfl rfl rfl ?_
  refine T_nil ?_
  refine W_cond_dec rfl (fun h52 => ?_) (fun h52 => ?_)
  · refine W_seq ?_
    refine W_region ?_
    refine T_buildS (cells := (gV [[.int .i64 0], [.int .i64 0], [.int .i64 0], [.int .i64 0], [.int .i64 0], (List.replicate 16 0).map bV, (List.replicate 32 0).map bV, [.int .i64 0], [.int .i64 0], [.slice none 0 0], [.slice none 0 0], [.slice none 0 0], [.slice none 0 0]] : Value).cells) rfl rfl rfl rfl rfl rfl fill_gnil rfl rfl rfl ?_
    refine T_storeFS 0 S9 (fun _ _ => trivial) rfl rfl rfl rfl rfl rfl rfl rfl rfl (gV_size (L := [[.int .i64 0], [.int .i64 0], [.int .i64 0], [.int .i64 0], [.int .i64 0], (List.replicate 16 0).map bV, (List.replicate 32 0).map bV, [.int .i64 0], [.int .i64 0], [.slice none 0 0], [.slice none 0 0], [.slice none 0 0], [.slice none 0 0]]) (ns := [1, 1, 1, 1, 1, 16, 32, 1, 1, 1, 1, 1, 1]) (Shp.cons rfl (Shp.cons rfl (Shp.cons rfl (Shp.cons rfl (Shp.cons rfl (Shp.cons (lenB List.length_replicate) (Shp.cons (lenB List.length_replicate) (Shp.cons rfl (Shp.cons rfl (Shp.cons rfl (Shp.cons rfl (Shp.cons rfl (Shp.cons rfl Shp.nil))))))))))))) rfl) (gV_size (L := [[.int .i64 0], [.int .i64 0], [.int .i64 0], [.int .i64 0], [.int .i64 0], (List.replicate 16 0).map bV, (List.replicate 32 0).map bV, [.int .i64 0], [.int .i64 0], [.slice none 0 0], [.slice none 0 0], [.slice none 0 0], [.slice none 0 0]]) (ns := [1, 1, 1, 1, 1, 16, 32, 1, 1, 1, 1, 1, 1]) (Shp.cons rfl (Shp.cons rfl (Shp.cons rfl (Shp.cons rfl (Shp.cons rfl (Shp.cons (lenB List.length_replicate) (Shp.cons (lenB List.length_replicate) (Shp.cons rfl (Shp.cons rfl (Shp.cons rfl (Shp.cons rfl (Shp.cons rfl (Shp.cons rfl Shp.nil))))))))))))) rfl) (gV_one (OneL.one rfl (OneL.one rfl (OneL.one rfl (OneL.one rfl (OneL.one rfl (OneL.arr (OneL.arr (OneL.one rfl (OneL.one rfl (OneL.one rfl (OneL.one rfl (OneL.one rfl (OneL.one rfl OneL.nil)))))))))))))) fun w53 S54 => ?_
    refine T_pev rfl rfl rfl rfl ?_
    refine T_nil ?_
    refine W_ret ?_
    refine ⟨_, ⟨_, _, _, rfl, rfl, run_loadVarA rfl rfl (gV_size (L := [[.int .i64 0], [.int .i64 0], [.int .i64 0], [.int .i64 0], [.int .i64 0], (List.replicate 16 0).map bV, (List.replicate 32 0).map bV, [.int .i64 0], [.int .i64 0], [.slice none 0 0], [.slice none 0 0], [.slice none 0 0], [.slice none 0 0]]) (ns := [1, 1, 1, 1, 1, 16, 32, 1, 1, 1, 1, 1, 1]) (Shp.cons rfl (Shp.cons rfl (Shp.cons rfl (Shp.cons rfl (Shp.cons rfl (Shp.cons (lenB List.length_replicate) (Shp.cons (lenB List.length_replicate) (Shp.cons rfl (Shp.cons rfl (Shp.cons rfl (Shp.cons rfl (Shp.cons rfl (Shp.cons rfl Shp.nil))))))))))))) rfl) (S54.cells 0 rfl), ⟨_, _, rfl, rfl, rfl⟩⟩, ?_⟩
    have HNO : ¬ Go.Au.PcOk b := by
      intro hq
      obtain ⟨q0, q1, q2, q3, q4, q5, q6⟩ := hq
      unfold Go.Au.p5 at q2 q3 q4 q5 q6
      first | omega | exact h52 q0 | exact h52 q4 | exact h52 q5 | exact h52 q6
    exact pc_none HNO S54.below
  refine W_skip ?_
  refine W_seq ?_
  refine W_region ?_
  refine T_pev rfl rfl rfl rfl ?_
  obtain ⟨hs58, r59, r60⟩ := (id r6)
  refine T_idxR 1 r59 rfl rfl rfl rfl rfl rfl rfl rfl rfl (by omega) (by omega) fun b55 o56 hc57 => ?_
  obtain ⟨a63, c64, hc66, hv62, r65⟩ := r60.at 1 (by omega)
  have hc67 := hc57 0 (.slice a63 ((Go.Au.ntAll 5 b).getD 1 []).length c64) (by simpa using hv62)
  simp only [Nat.add_zero] at hc67
  have hp1 := he1
  clear hel
  refine T_loadG S9 hc67 rfl rfl rfl rfl rfl rfl rfl ?_
  refine T_callS rfl rfl g_aumbry_layout_UnpackVersion rfl rfl rfl rfl ((unpackV_ok S9.le (hT.mono hl11) r65 (by first | omega | decide)).mono ?_)
  rintro e w69 ⟨rfl, hB68⟩
  have S70 := S9.call hB68
  refine ⟨_, rfl, trivial, ?_⟩
  refine T_pev rfl rfl rfl rfl ?_
  refine T_pev rfl rfl rfl rfl ?_
  refine T_pev rfl rfl rfl rfl ?_
  refine T_allocS S70 (fun _ _ => trivial) rfl rfl rfl rfl rfl rfl rfl fun b71 w72 S73 => ?_
  refine T_storeFS 0 S73 (fun _ _ => trivial) rfl rfl rfl rfl rfl rfl rfl rfl rfl (qV_sz (q_len (Go.Au.vS_len _) (Go.Au.vR_len _) rfl)) (qV_sz (q_len (Go.Au.vS_len _) (Go.Au.vR_len _) rfl)) (qV_one) fun w74 S75 => ?_
  refine T_pev rfl rfl rfl rfl ?_
  refine T_nil ?_
  refine W_seq ?_
  refine W_region ?_
  refine T_pev rfl rfl rfl rfl ?_
  obtain ⟨hs79, r80, r81⟩ := (id r6)
  refine T_idxR 2 r80 rfl rfl rfl rfl rfl rfl rfl rfl rfl (by omega) (by omega) fun b76 o77 hc78 => ?_
  obtain ⟨a84, c85, hc87, hv83, r86⟩ := r81.at 2 (by omega)
  have hc88 := hc78 0 (.slice a84 ((Go.Au.ntAll 5 b).getD 2 []).length c85) (by simpa using hv83)
  simp only [Nat.add_zero] at hc88
  refine T_loadG S75 hc88 rfl rfl rfl rfl rfl rfl rfl ?_
  refine T_callS rfl rfl g_aumbry_mss_Unpack rfl rfl rfl rfl ((unpackSig_ok S75.le (hT.mono hl11) r86).mono ?_)
  rintro e w96 ⟨a89, c90, a91, c92, rfl, r93, r94, hB95⟩
  obtain ⟨G98, eG100⟩ : ∃ G, G = F.ext G10 w74.heap.size w96 := ⟨_, rfl⟩
  obtain ⟨hl99, S97⟩ := S75.ext hB95
  rw [← eG100] at hl99 S97 r93 r94
  refine ⟨_, rfl, trivial, ?_⟩
  refine T_pev rfl rfl rfl rfl ?_
  refine T_pev rfl rfl rfl rfl ?_
  refine T_pev rfl rfl rfl rfl ?_
  refine T_allocS S97 (fun _ _ => trivial) rfl rfl rfl rfl rfl rfl rfl fun b101 w102 S103 => ?_
  refine T_storeFS 0 S103 (fun _ _ => trivial) rfl rfl rfl rfl rfl rfl rfl rfl rfl (by first | rfl | simp [hVs, *]) (by first | rfl | simp [hVs, *]) (one_all rfl) fun w104 S105 => ?_
  refine T_pev rfl rfl rfl rfl ?_
  refine T_nil ?_
  refine W_seq ?_
  refine W_region ?_
  refine T_pev rfl rfl rfl rfl ?_
  obtain ⟨hs109, r110, r111⟩ := (r6.mono hl99)
  refine T_idxR 3 r110 rfl rfl rfl rfl rfl rfl rfl rfl rfl (by omega) (by omega) fun b106 o107 hc108 => ?_
  obtain ⟨a114, c115, hc117, hv113, r116⟩ := r111.at 3 (by omega)
  have hc118 := hc108 0 (.slice a114 ((Go.Au.ntAll 5 b).getD 3 []).length c115) (by simpa using hv113)
  simp only [Nat.add_zero] at hc118
  refine T_loadG S105 hc118 rfl rfl rfl rfl rfl rfl rfl ?_
  refine T_callS rfl rfl g_aumbry_layout_hashes rfl rfl rfl rfl ((hashesL_ok S105.le r116 (by omega)).mono ?_)
  rintro e w124 ⟨a119, c120, hc121, rfl, r122, hB123⟩
  obtain ⟨G126, eG128⟩ : ∃ G, G = F.ext G98 w104.heap.size w124 := ⟨_, rfl⟩
  obtain ⟨hl127, S125⟩ := S105.ext hB123
  rw [← eG128] at hl127 S125 r122
  refine ⟨_, rfl, trivial, ?_⟩
  refine T_pev rfl rfl rfl rfl ?_
  refine T_pev rfl rfl rfl rfl ?_
  refine T_pev rfl rfl rfl rfl ?_
  refine T_pev rfl rfl rfl rfl ?_
  refine T_pev rfl rfl rfl rfl ?_
  refine T_nil ?_
  refine W_seq ?_
  refine W_seq ?_
  refine W_region ?_
  refine T_pev rfl rfl rfl rfl ?_
  refine T_pev rfl rfl rfl rfl ?_
  refine T_pev rfl rfl rfl rfl ?_
  refine T_part (t := 62) rfl (List.cons_ne_nil _ _) (fun h129' => ?_) (fun h129' => ?_)
  · have h129 := of_ndec_t h129'
    refine T_no rfl rfl rfl rfl rfl rfl ?_
    refine T_no rfl rfl rfl rfl rfl rfl ?_
    refine T_pev rfl rfl rfl rfl ?_
    refine T_pev rfl rfl rfl rfl ?_
    refine T_no rfl rfl rfl rfl rfl rfl ?_
    refine T_no rfl rfl rfl rfl rfl rfl ?_
    refine T_pev rfl rfl rfl rfl ?_
    refine T_nil ?_
    refine W_cond_true rfl ?_
    refine W_seq ?_
    refine W_region ?_
    refine T_buildS (cells := (gV [[.int .i64 0], [.int .i64 0], [.int .i64 0], [.int .i64 0], [.int .i64 0], (List.replicate 16 0).map bV, (List.replicate 32 0).map bV, [.int .i64 0], [.int .i64 0], [.slice none 0 0], [.slice none 0 0], [.slice none 0 0], [.slice none 0 0]] : Value).cells) rfl rfl rfl rfl rfl rfl fill_gnil rfl rfl rfl ?_
    refine T_storeFS 2 S125 (fun _ _ => trivial) rfl rfl rfl rfl rfl rfl rfl rfl rfl (gV_size (L := [[.int .i64 0], [.int .i64 0], [.int .i64 0], [.int .i64 0], [.int .i64 0], (List.replicate 16 0).map bV, (List.replicate 32 0).map bV, [.int .i64 0], [.int .i64 0], [.slice none 0 0], [.slice none 0 0], [.slice none 0 0], [.slice none 0 0]]) (ns := [1, 1, 1, 1, 1, 16, 32, 1, 1, 1, 1, 1, 1]) (Shp.cons rfl (Shp.cons rfl (Shp.cons rfl (Shp.cons rfl (Shp.cons rfl (Shp.cons (lenB List.length_replicate) (Shp.cons (lenB List.length_replicate) (Shp.cons rfl (Shp.cons rfl (Shp.cons rfl (Shp.cons rfl (Shp.cons rfl (Shp.cons rfl Shp.nil))))))))))))) rfl) (gV_size (L := [[.int .i64 0], [.int .i64 0], [.int .i64 0], [.int .i64 0], [.int .i64 0], (List.replicate 16 0).map bV, (List.replicate 32 0).map bV, [.int .i64 0], [.int .i64 0], [.slice none 0 0], [.slice none 0 0], [.slice none 0 0], [.slice none 0 0]]) (ns := [1, 1, 1, 1, 1, 16, 32, 1, 1, 1, 1, 1, 1]) (Shp.cons rfl (Shp.cons rfl (Shp.cons rfl (Shp.cons rfl (Shp.cons rfl (Shp.cons (lenB List.length_replicate) (Shp.cons (lenB List.length_replicate) (Shp.cons rfl (Shp.cons rfl (Shp.cons rfl (Shp.cons rfl (Shp.cons rfl (Shp.cons rfl Shp.nil))))))))))))) rfl) (gV_one (OneL.one rfl (OneL.one rfl (OneL.one rfl (OneL.one rfl (OneL.one rfl (OneL.arr (OneL.arr (OneL.one rfl (OneL.one rfl (OneL.one rfl (OneL.one rfl (OneL.one rfl (OneL.one rfl OneL.nil)))))))))))))) fun w130 S131 => ?_
    refine T_pev rfl rfl rfl rfl ?_
    refine T_nil ?_
    refine W_ret ?_
    refine ⟨_, ⟨_, _, _, rfl, rfl, run_loadVarA rfl rfl (gV_size (L := [[.int .i64 0], [.int .i64 0], [.int .i64 0], [.int .i64 0], [.int .i64 0], (List.replicate 16 0).map bV, (List.replicate 32 0).map bV, [.int .i64 0], [.int .i64 0], [.slice none 0 0], [.slice none 0 0], [.slice none 0 0], [.slice none 0 0]]) (ns := [1, 1, 1, 1, 1, 16, 32, 1, 1, 1, 1, 1, 1]) (Shp.cons rfl (Shp.cons rfl (Shp.cons rfl (Shp.cons rfl (Shp.cons rfl (Shp.cons (lenB List.length_replicate) (Shp.cons (lenB List.length_replicate) (Shp.cons rfl (Shp.cons rfl (Shp.cons rfl (Shp.cons rfl (Shp.cons rfl (Shp.cons rfl Shp.nil))))))))))))) rfl) (S131.cells 2 rfl), ⟨_, _, rfl, rfl, rfl⟩⟩, ?_⟩
    have HNO : ¬ Go.Au.PcOk b := by
      intro hq
      obtain ⟨q0, q1, q2, q3, q4, q5, q6⟩ := hq
      unfold Go.Au.p5 at q2 q3 q4 q5 q6
      first | omega | exact h129 q0 | exact h129 q4 | exact h129 q5 | exact h129 q6
    exact pc_none HNO S131.below
  have h129 := of_ndec_f h129'
  refine T_yes rfl rfl rfl ?_ rfl
  refine T_pev rfl rfl rfl rfl ?_
  refine T_yes rfl rfl rfl ?_ rfl
  refine T_pev rfl rfl rfl rfl ?_
  refine T_pev rfl rfl rfl rfl ?_
  refine T_pev rfl rfl rfl rfl ?_
  refine T_part (t := 66) rfl (List.cons_ne_nil _ _) (fun h132' => ?_) (fun h132' => ?_)
  · have h132 := of_ndec_t h132'
    refine T_no rfl rfl rfl rfl rfl rfl ?_
    refine T_no rfl rfl rfl rfl rfl rfl ?_
    refine T_pev rfl rfl rfl rfl ?_
    refine T_nil ?_
    refine W_cond_true rfl ?_
    refine W_seq ?_
    refine W_region ?_
    refine T_buildS (cells := (gV [[.int .i64 0], [.int .i64 0], [.int .i64 0], [.int .i64 0], [.int .i64 0], (List.replicate 16 0).map bV, (List.replicate 32 0).map bV, [.int .i64 0], [.int .i64 0], [.slice none 0 0], [.slice none 0 0], [.slice none 0 0], [.slice none 0 0]] : Value).cells) rfl rfl rfl rfl rfl rfl fill_gnil rfl rfl rfl ?_
    refine T_storeFS 2 S125 (fun _ _ => trivial) rfl rfl rfl rfl rfl rfl rfl rfl rfl (gV_size (L := [[.int .i64 0], [.int .i64 0], [.int .i64 0], [.int .i64 0], [.int .i64 0], (List.replicate 16 0).map bV, (List.replicate 32 0).map bV, [.int .i64 0], [.int .i64 0], [.slice none 0 0], [.slice none 0 0], [.slice none 0 0], [.slice none 0 0]]) (ns := [1, 1, 1, 1, 1, 16, 32, 1, 1, 1, 1, 1, 1]) (Shp.cons rfl (Shp.cons rfl (Shp.cons rfl (Shp.cons rfl (Shp.cons rfl (Shp.cons (lenB List.length_replicate) (Shp.cons (lenB List.length_replicate) (Shp.cons rfl (Shp.cons rfl (Shp.cons rfl (Shp.cons rfl (Shp.cons rfl (Shp.cons rfl Shp.nil))))))))))))) rfl) (gV_size (L := [[.int .i64 0], [.int .i64 0], [.int .i64 0], [.int .i64 0], [.int .i64 0], (List.replicate 16 0).map bV, (List.replicate 32 0).map bV, [.int .i64 0], [.int .i64 0], [.slice none 0 0], [.slice none 0 0], [.slice none 0 0], [.slice none 0 0]]) (ns := [1, 1, 1, 1, 1, 16, 32, 1, 1, 1, 1, 1, 1]) (Shp.cons rfl (Shp.cons rfl (Shp.cons rfl (Shp.cons rfl (Shp.cons rfl (Shp.cons (lenB List.length_replicate) (Shp.cons (lenB List.length_replicate) (Shp.cons rfl (Shp.cons rfl (Shp.cons rfl (Shp.cons rfl (Shp.cons rfl (Shp.cons rfl Shp.nil))))))))))))) rfl) (gV_one (OneL.one rfl (OneL.one rfl (OneL.one rfl (OneL.one rfl (OneL.one rfl (OneL.arr (OneL.arr (OneL.one rfl (OneL.one rfl (OneL.one rfl (OneL.one rfl (OneL.one rfl (OneL.one rfl OneL.nil)))))))))))))) fun w133 S134 => ?_
    refine T_pev rfl rfl rfl rfl ?_
    refine T_nil ?_
    refine W_ret ?_
    refine ⟨_, ⟨_, _, _, rfl, rfl, run_loadVarA rfl rfl (gV_size (L := [[.int .i64 0], [.int .i64 0], [.int .i64 0], [.int .i64 0], [.int .i64 0], (List.replicate 16 0).map bV, (List.replicate 32 0).map bV, [.int .i64 0], [.int .i64 0], [.slice none 0 0], [.slice none 0 0], [.slice none 0 0], [.slice none 0 0]]) (ns := [1, 1, 1, 1, 1, 16, 32, 1, 1, 1, 1, 1, 1]) (Shp.cons rfl (Shp.cons rfl (Shp.cons rfl (Shp.cons rfl (Shp.cons rfl (Shp.cons (lenB List.length_replicate) (Shp.cons (lenB List.length_replicate) (Shp.cons rfl (Shp.cons rfl (Shp.cons rfl (Shp.cons rfl (Shp.cons rfl (Shp.cons rfl Shp.nil))))))))))))) rfl) (S134.cells 2 rfl), ⟨_, _, rfl, rfl, rfl⟩⟩, ?_⟩
    have HNO : ¬ Go.Au.PcOk b := by
      intro hq
      obtain ⟨q0, q1, q2, q3, q4, q5, q6⟩ := hq
      unfold Go.Au.p5 at q2 q3 q4 q5 q6
      first | omega | exact h132 q0 | exact h132 q4 | exact h132 q5 | exact h132 q6
    exact pc_none HNO S134.below
  have h132 := of_ndec_f h132'
  refine T_yes rfl rfl rfl ?_ rfl
  refine T_pev rfl rfl rfl rfl ?_
  refine T_yes rfl rfl rfl ?_ rfl
  refine T_pev rfl rfl rfl rfl ?_
  refine T_pev rfl rfl rfl rfl ?_
  refine T_nil ?_
  refine W_cond_not rfl (fun h135 => ?_) (fun h135 => ?_)
  · refine W_seq ?_
    refine W_region ?_
    refine T_buildS (cells := (gV [[.int .i64 0], [.int .i64 0], [.int .i64 0], [.int .i64 0], [.int .i64 0], (List.replicate 16 0).map bV, (List.replicate 32 0).map bV, [.int .i64 0], [.int .i64 0], [.slice none 0 0], [.slice none 0 0], [.slice none 0 0], [.slice none 0 0]] : Value).cells) rfl rfl rfl rfl rfl rfl fill_gnil rfl rfl rfl ?_
    refine T_storeFS 2 S125 (fun _ _ => trivial) rfl rfl rfl rfl rfl rfl rfl rfl rfl (gV_size (L := [[.int .i64 0], [.int .i64 0], [.int .i64 0], [.int .i64 0], [.int .i64 0], (List.replicate 16 0).map bV, (List.replicate 32 0).map bV, [.int .i64 0], [.int .i64 0], [.slice none 0 0], [.slice none 0 0], [.slice none 0 0], [.slice none 0 0]]) (ns := [1, 1, 1, 1, 1, 16, 32, 1, 1, 1, 1, 1, 1]) (Shp.cons rfl (Shp.cons rfl (Shp.cons rfl (Shp.cons rfl (Shp.cons rfl (Shp.cons (lenB List.length_replicate) (Shp.cons (lenB List.length_replicate) (Shp.cons rfl (Shp.cons rfl (Shp.cons rfl (Shp.cons rfl (Shp.cons rfl (Shp.cons rfl Shp.nil))))))))))))) rfl) (gV_size (L := [[.int .i64 0], [.int .i64 0], [.int .i64 0], [.int .i64 0], [.int .i64 0], (List.replicate 16 0).map bV, (List.replicate 32 0).map bV, [.int .i64 0], [.int .i64 0], [.slice none 0 0], [.slice none 0 0], [.slice none 0 0], [.slice none 0 0]]) (ns := [1, 1, 1, 1, 1, 16, 32, 1, 1, 1, 1, 1, 1]) (Shp.cons rfl (Shp.cons rfl (Shp.cons rfl (Shp.cons rfl (Shp.cons rfl (Shp.cons (lenB List.length_replicate) (Shp.cons (lenB List.length_replicate) (Shp.cons rfl (Shp.cons rfl (Shp.cons rfl (Shp.cons rfl (Shp.cons rfl (Shp.cons rfl Shp.nil))))))))))))) rfl) (gV_one (OneL.one rfl (OneL.one rfl (OneL.one rfl (OneL.one rfl (OneL.one rfl (OneL.arr (OneL.arr (OneL.one rfl (OneL.one rfl (OneL.one rfl (OneL.one rfl (OneL.one rfl (OneL.one rfl OneL.nil)))))))))))))) fun w136 S137 => ?_
    refine T_pev rfl rfl rfl rfl ?_
    refine T_nil ?_
    refine W_ret ?_
    refine ⟨_, ⟨_, _, _, rfl, rfl, run_loadVarA rfl rfl (gV_size (L := [[.int .i64 0], [.int .i64 0], [.int .i64 0], [.int .i64 0], [.int .i64 0], (List.replicate 16 0).map bV, (List.replicate 32 0).map bV, [.int .i64 0], [.int .i64 0], [.slice none 0 0], [.slice none 0 0], [.slice none 0 0], [.slice none 0 0]]) (ns := [1, 1, 1, 1, 1, 16, 32, 1, 1, 1, 1, 1, 1]) (Shp.cons rfl (Shp.cons rfl (Shp.cons rfl (Shp.cons rfl (Shp.cons rfl (Shp.cons (lenB List.length_replicate) (Shp.cons (lenB List.length_replicate) (Shp.cons rfl (Shp.cons rfl (Shp.cons rfl (Shp.cons rfl (Shp.cons rfl (Shp.cons rfl Shp.nil))))))))))))) rfl) (S137.cells 2 rfl), ⟨_, _, rfl, rfl, rfl⟩⟩, ?_⟩
    have HNO : ¬ Go.Au.PcOk b := by
      intro hq
      obtain ⟨q0, q1, q2, q3, q4, q5, q6⟩ := hq
      unfold Go.Au.p5 at q2 q3 q4 q5 q6
      first | omega | exact h135 q0 | exact h135 q4 | exact h135 q5 | exact h135 q6
    exact pc_none HNO S137.below
  refine W_skip ?_
  refine W_seq ?_
  have HOK : Go.Au.PcOk b := ⟨HA, by omega, by show (((Go.Au.ntAll 5 b).getD 0 []).length) = 1; omega, by show (((Go.Au.ntAll 5 b).getD 0 []).getD 0 0).toNat < 16; omega, h129, h132, h135⟩
  refine W_draw rfl (by kernel_rfl) ?_
  have S138 := S125.drew
  refine T_pev rfl rfl rfl rfl ?_
  obtain ⟨hs142, r143, r144⟩ := (r6.mono (hl99.trans hl127))
  refine T_idxR 0 r143 rfl rfl rfl rfl rfl rfl rfl rfl rfl (by omega) (by omega) fun b139 o140 hc141 => ?_
  obtain ⟨a147, c148, hc150, hv146, r149⟩ := r144.at 0 (by omega)
  have hc151 := hc141 0 (.slice a147 ((Go.Au.ntAll 5 b).getD 0 []).length c148) (by simpa using hv146)
  simp only [Nat.add_zero] at hc151
  refine T_loadG S138 hc151 rfl rfl rfl rfl rfl rfl rfl ?_
  refine T_idxR 0 r149 rfl rfl rfl rfl rfl rfl rfl rfl rfl (by omega) (by omega) fun b152 o153 hc154 => ?_
  have hc155 := hc154 0 (bV (((Go.Au.ntAll 5 b).getD 0 []).getD 0 0)) (at_b ((Go.Au.ntAll 5 b).getD 0 []) 0 (by omega))
  simp only [Nat.add_zero] at hc155
  refine T_loadG S138 hc155 rfl rfl rfl rfl rfl rfl rfl ?_
  refine T_b2i rfl rfl rfl rfl rfl rfl rfl ?_
  refine T_loadFS 1 S138 rfl rfl rfl rfl rfl rfl rfl rfl rfl (qV_sz (q_len (Go.Au.vS_len _) (Go.Au.vR_len _) rfl)) ?_
  refine T_loadFS 0 S138 rfl rfl rfl rfl rfl rfl rfl rfl rfl (by first | rfl | simp [hVs, *]) ?_
  refine T_pev rfl rfl rfl rfl ?_
  refine T_pev rfl rfl rfl rfl ?_
  obtain ⟨hs159, r160, r161⟩ := (r6.mono (hl99.trans hl127))
  refine T_idxR 4 r160 rfl rfl rfl rfl rfl rfl rfl rfl rfl (by omega) (by omega) fun b156 o157 hc158 => ?_
  obtain ⟨a164, c165, hc167, hv163, r166⟩ := r161.at 4 (by omega)
  have hc168 := hc158 0 (.slice a164 ((Go.Au.ntAll 5 b).getD 4 []).length c165) (by simpa using hv163)
  simp only [Nat.add_zero] at hc168
  refine T_loadG S138 hc168 rfl rfl rfl rfl rfl rfl rfl ?_
  refine T_buildS (cells := (gV [[.int .i64 ((((Go.Au.ntAll 5 b).getD 0 []).getD 0 0).toNat : Int)], [.int .i64 (Go.Au.vN ((Go.Au.ntAll 5 b).getD 1 []) 0)], [.int .i64 (Go.Au.vN ((Go.Au.ntAll 5 b).getD 1 []) 1)], [.int .i64 (Go.Au.vN ((Go.Au.ntAll 5 b).getD 1 []) 2)], [.int .i64 (Go.Au.vN ((Go.Au.ntAll 5 b).getD 1 []) 3)], (Go.Au.vS ((Go.Au.ntAll 5 b).getD 1 [])).map bV, (Go.Au.vR ((Go.Au.ntAll 5 b).getD 1 [])).map bV, [.int .i64 (Go.Au.sgH ((Go.Au.ntAll 5 b).getD 2 []))], [.int .i64 (Go.Au.sgL ((Go.Au.ntAll 5 b).getD 2 []))], [.slice a89 (Go.Au.sgV ((Go.Au.ntAll 5 b).getD 2 [])).length c90], [.slice a91 (Go.Au.sgP ((Go.Au.ntAll 5 b).getD 2 [])).length c92], [.slice a119 (Go.Au.chunks ((Go.Au.ntAll 5 b).getD 3 []) (((Go.Au.ntAll 5 b).getD 3 []).length / 32)).length c120], [.slice a164 ((Go.Au.ntAll 5 b).getD 4 []).length c165]] : Value).cells) rfl rfl rfl rfl rfl rfl (fill_g (L := [[.int .i64 0], [.int .i64 0], [.int .i64 0], [.int .i64 0], [.int .i64 0], (List.replicate 16 0).map bV, (List.replicate 32 0).map bV, [.int .i64 0], [.int .i64 0], [.slice none 0 0], [.slice none 0 0], [.slice none 0 0], [.slice none 0 0]]) (ns := [1, 1, 1, 1, 1, 16, 32, 1, 1, 1, 1, 1, 1]) (v := .int .i64 ((((Go.Au.ntAll 5 b).getD 0 []).getD 0 0).toNat : Int)) (off := 0) (k := 1) rfl (Shp.cons rfl (Shp.cons rfl (Shp.cons rfl (Shp.cons rfl (Shp.cons rfl (Shp.cons (lenB List.length_replicate) (Shp.cons (lenB List.length_replicate) (Shp.cons rfl (Shp.cons rfl (Shp.cons rfl (Shp.cons rfl (Shp.cons rfl (Shp.cons rfl Shp.nil))))))))))))) 0 1 [[.int .i64 ((((Go.Au.ntAll 5 b).getD 0 []).getD 0 0).toNat : Int)]] rfl (by first | rfl | simp [hVs, *]) rfl rfl (fill_g (L := [[.int .i64 ((((Go.Au.ntAll 5 b).getD 0 []).getD 0 0).toNat : Int)], [.int .i64 0], [.int .i64 0], [.int .i64 0], [.int .i64 0], (List.replicate 16 0).map bV, (List.replicate 32 0).map bV, [.int .i64 0], [.int .i64 0], [.slice none 0 0], [.slice none 0 0], [.slice none 0 0], [.slice none 0 0]]) (ns := [1, 1, 1, 1, 1, 16, 32, 1, 1, 1, 1, 1, 1]) (v := qV (Go.Au.vN ((Go.Au.ntAll 5 b).getD 1 []) 0) (Go.Au.vN ((Go.Au.ntAll 5 b).getD 1 []) 1) (Go.Au.vN ((Go.Au.ntAll 5 b).getD 1 []) 2) (Go.Au.vN ((Go.Au.ntAll 5 b).getD 1 []) 3) (Go.Au.vS ((Go.Au.ntAll 5 b).getD 1 [])) (Go.Au.vR ((Go.Au.ntAll 5 b).getD 1 []))) (off := 1) (k := 52) rfl (Shp.cons rfl (Shp.cons rfl (Shp.cons rfl (Shp.cons rfl (Shp.cons rfl (Shp.cons (lenB List.length_replicate) (Shp.cons (lenB List.length_replicate) (Shp.cons rfl (Shp.cons rfl (Shp.cons rfl (Shp.cons rfl (Shp.cons rfl (Shp.cons rfl Shp.nil))))))))))))) 1 6 [[.int .i64 (Go.Au.vN ((Go.Au.ntAll 5 b).getD 1 []) 0)], [.int .i64 (Go.Au.vN ((Go.Au.ntAll 5 b).getD 1 []) 1)], [.int .i64 (Go.Au.vN ((Go.Au.ntAll 5 b).getD 1 []) 2)], [.int .i64 (Go.Au.vN ((Go.Au.ntAll 5 b).getD 1 []) 3)], (Go.Au.vS ((Go.Au.ntAll 5 b).getD 1 [])).map bV, (Go.Au.vR ((Go.Au.ntAll 5 b).getD 1 [])).map bV] qV_flat (qV_sz (q_len (Go.Au.vS_len _) (Go.Au.vR_len _) rfl)) rfl rfl (fill_g (L := [[.int .i64 ((((Go.Au.ntAll 5 b).getD 0 []).getD 0 0).toNat : Int)], [.int .i64 (Go.Au.vN ((Go.Au.ntAll 5 b).getD 1 []) 0)], [.int .i64 (Go.Au.vN ((Go.Au.ntAll 5 b).getD 1 []) 1)], [.int .i64 (Go.Au.vN ((Go.Au.ntAll 5 b).getD 1 []) 2)], [.int .i64 (Go.Au.vN ((Go.Au.ntAll 5 b).getD 1 []) 3)], (Go.Au.vS ((Go.Au.ntAll 5 b).getD 1 [])).map bV, (Go.Au.vR ((Go.Au.ntAll 5 b).getD 1 [])).map bV, [.int .i64 0], [.int .i64 0], [.slice none 0 0], [.slice none 0 0], [.slice none 0 0], [.slice none 0 0]]) (ns := [1, 1, 1, 1, 1, 16, 32, 1, 1, 1, 1, 1, 1]) (v := .agg #[.int .i64 (Go.Au.sgH ((Go.Au.ntAll 5 b).getD 2 [])), .int .i64 (Go.Au.sgL ((Go.Au.ntAll 5 b).getD 2 [])), .slice a89 (Go.Au.sgV ((Go.Au.ntAll 5 b).getD 2 [])).length c90, .slice a91 (Go.Au.sgP ((Go.Au.ntAll 5 b).getD 2 [])).length c92]) (off := 53) (k := 4) rfl (Shp.cons rfl (Shp.cons rfl (Shp.cons rfl (Shp.cons rfl (Shp.cons rfl (Shp.cons (lenB (Go.Au.vS_len _)) (Shp.cons (lenB (Go.Au.vR_len _)) (Shp.cons rfl (Shp.cons rfl (Shp.cons rfl (Shp.cons rfl (Shp.cons rfl (Shp.cons rfl Shp.nil))))))))))))) 7 4 [[.int .i64 (Go.Au.sgH ((Go.Au.ntAll 5 b).getD 2 []))], [.int .i64 (Go.Au.sgL ((Go.Au.ntAll 5 b).getD 2 []))], [.slice a89 (Go.Au.sgV ((Go.Au.ntAll 5 b).getD 2 [])).length c90], [.slice a91 (Go.Au.sgP ((Go.Au.ntAll 5 b).getD 2 [])).length c92]] rfl (by first | rfl | simp [hVs, *]) rfl rfl (fill_g (L := [[.int .i64 ((((Go.Au.ntAll 5 b).getD 0 []).getD 0 0).toNat : Int)], [.int .i64 (Go.Au.vN ((Go.Au.ntAll 5 b).getD 1 []) 0)], [.int .i64 (Go.Au.vN ((Go.Au.ntAll 5 b).getD 1 []) 1)], [.int .i64 (Go.Au.vN ((Go.Au.ntAll 5 b).getD 1 []) 2)], [.int .i64 (Go.Au.vN ((Go.Au.ntAll 5 b).getD 1 []) 3)], (Go.Au.vS ((Go.Au.ntAll 5 b).getD 1 [])).map bV, (Go.Au.vR ((Go.Au.ntAll 5 b).getD 1 [])).map bV, [.int .i64 (Go.Au.sgH ((Go.Au.ntAll 5 b).getD 2 []))], [.int .i64 (Go.Au.sgL ((Go.Au.ntAll 5 b).getD 2 []))], [.slice a89 (Go.Au.sgV ((Go.Au.ntAll 5 b).getD 2 [])).length c90], [.slice a91 (Go.Au.sgP ((Go.Au.ntAll 5 b).getD 2 [])).length c92], [.slice none 0 0], [.slice none 0 0]]) (ns := [1, 1, 1, 1, 1, 16, 32, 1, 1, 1, 1, 1, 1]) (v := .slice a119 (Go.Au.chunks ((Go.Au.ntAll 5 b).getD 3 []) (((Go.Au.ntAll 5 b).getD 3 []).length / 32)).length c120) (off := 57) (k := 1) rfl (Shp.cons rfl (Shp.cons rfl (Shp.cons rfl (Shp.cons rfl (Shp.cons rfl (Shp.cons (lenB (Go.Au.vS_len _)) (Shp.cons (lenB (Go.Au.vR_len _)) (Shp.cons rfl (Shp.cons rfl (Shp.cons rfl (Shp.cons rfl (Shp.cons rfl (Shp.cons rfl Shp.nil))))))))))))) 11 1 [[.slice a119 (Go.Au.chunks ((Go.Au.ntAll 5 b).getD 3 []) (((Go.Au.ntAll 5 b).getD 3 []).length / 32)).length c120]] rfl (by first | rfl | simp [hVs, *]) rfl rfl (fill_g (L := [[.int .i64 ((((Go.Au.ntAll 5 b).getD 0 []).getD 0 0).toNat : Int)], [.int .i64 (Go.Au.vN ((Go.Au.ntAll 5 b).getD 1 []) 0)], [.int .i64 (Go.Au.vN ((Go.Au.ntAll 5 b).getD 1 []) 1)], [.int .i64 (Go.Au.vN ((Go.Au.ntAll 5 b).getD 1 []) 2)], [.int .i64 (Go.Au.vN ((Go.Au.ntAll 5 b).getD 1 []) 3)], (Go.Au.vS ((Go.Au.ntAll 5 b).getD 1 [])).map bV, (Go.Au.vR ((Go.Au.ntAll 5 b).getD 1 [])).map bV, [.int .i64 (Go.Au.sgH ((Go.Au.ntAll 5 b).getD 2 []))], [.int .i64 (Go.Au.sgL ((Go.Au.ntAll 5 b).getD 2 []))], [.slice a89 (Go.Au.sgV ((Go.Au.ntAll 5 b).getD 2 [])).length c90], [.slice a91 (Go.Au.sgP ((Go.Au.ntAll 5 b).getD 2 [])).length c92], [.slice a119 (Go.Au.chunks ((Go.Au.ntAll 5 b).getD 3 []) (((Go.Au.ntAll 5 b).getD 3 []).length / 32)).length c120], [.slice none 0 0]]) (ns := [1, 1, 1, 1, 1, 16, 32, 1, 1, 1, 1, 1, 1]) (v := .slice a164 ((Go.Au.ntAll 5 b).getD 4 []).length c165) (off := 58) (k := 1) rfl (Shp.cons rfl (Shp.cons rfl (Shp.cons rfl (Shp.cons rfl (Shp.cons rfl (Shp.cons (lenB (Go.Au.vS_len _)) (Shp.cons (lenB (Go.Au.vR_len _)) (Shp.cons rfl (Shp.cons rfl (Shp.cons rfl (Shp.cons rfl (Shp.cons rfl (Shp.cons rfl Shp.nil))))))))))))) 12 1 [[.slice a164 ((Go.Au.ntAll 5 b).getD 4 []).length c165]] rfl (by first | rfl | simp [hVs, *]) rfl rfl fill_gnil))))) rfl rfl rfl ?_
  refine T_storeFS 2 S138 (fun _ _ => trivial) rfl rfl rfl rfl rfl rfl rfl rfl rfl (gV_size (L := [[.int .i64 ((((Go.Au.ntAll 5 b).getD 0 []).getD 0 0).toNat : Int)], [.int .i64 (Go.Au.vN ((Go.Au.ntAll 5 b).getD 1 []) 0)], [.int .i64 (Go.Au.vN ((Go.Au.ntAll 5 b).getD 1 []) 1)], [.int .i64 (Go.Au.vN ((Go.Au.ntAll 5 b).getD 1 []) 2)], [.int .i64 (Go.Au.vN ((Go.Au.ntAll 5 b).getD 1 []) 3)], (Go.Au.vS ((Go.Au.ntAll 5 b).getD 1 [])).map bV, (Go.Au.vR ((Go.Au.ntAll 5 b).getD 1 [])).map bV, [.int .i64 (Go.Au.sgH ((Go.Au.ntAll 5 b).getD 2 []))], [.int .i64 (Go.Au.sgL ((Go.Au.ntAll 5 b).getD 2 []))], [.slice a89 (Go.Au.sgV ((Go.Au.ntAll 5 b).getD 2 [])).length c90], [.slice a91 (Go.Au.sgP ((Go.Au.ntAll 5 b).getD 2 [])).length c92], [.slice a119 (Go.Au.chunks ((Go.Au.ntAll 5 b).getD 3 []) (((Go.Au.ntAll 5 b).getD 3 []).length / 32)).length c120], [.slice a164 ((Go.Au.ntAll 5 b).getD 4 []).length c165]]) (ns := [1, 1, 1, 1, 1, 16, 32, 1, 1, 1, 1, 1, 1]) (Shp.cons rfl (Shp.cons rfl (Shp.cons rfl (Shp.cons rfl (Shp.cons rfl (Shp.cons (lenB (Go.Au.vS_len _)) (Shp.cons (lenB (Go.Au.vR_len _)) (Shp.cons rfl (Shp.cons rfl (Shp.cons rfl (Shp.cons rfl (Shp.cons rfl (Shp.cons rfl Shp.nil))))))))))))) rfl) (gV_size (L := [[.int .i64 ((((Go.Au.ntAll 5 b).getD 0 []).getD 0 0).toNat : Int)], [.int .i64 (Go.Au.vN ((Go.Au.ntAll 5 b).getD 1 []) 0)], [.int .i64 (Go.Au.vN ((Go.Au.ntAll 5 b).getD 1 []) 1)], [.int .i64 (Go.Au.vN ((Go.Au.ntAll 5 b).getD 1 []) 2)], [.int .i64 (Go.Au.vN ((Go.Au.ntAll 5 b).getD 1 []) 3)], (Go.Au.vS ((Go.Au.ntAll 5 b).getD 1 [])).map bV, (Go.Au.vR ((Go.Au.ntAll 5 b).getD 1 [])).map bV, [.int .i64 (Go.Au.sgH ((Go.Au.ntAll 5 b).getD 2 []))], [.int .i64 (Go.Au.sgL ((Go.Au.ntAll 5 b).getD 2 []))], [.slice a89 (Go.Au.sgV ((Go.Au.ntAll 5 b).getD 2 [])).length c90], [.slice a91 (Go.Au.sgP ((Go.Au.ntAll 5 b).getD 2 [])).length c92], [.slice a119 (Go.Au.chunks ((Go.Au.ntAll 5 b).getD 3 []) (((Go.Au.ntAll 5 b).getD 3 []).length / 32)).length c120], [.slice a164 ((Go.Au.ntAll 5 b).getD 4 []).length c165]]) (ns := [1, 1, 1, 1, 1, 16, 32, 1, 1, 1, 1, 1, 1]) (Shp.cons rfl (Shp.cons rfl (Shp.cons rfl (Shp.cons rfl (Shp.cons rfl (Shp.cons (lenB (Go.Au.vS_len _)) (Shp.cons (lenB (Go.Au.vR_len _)) (Shp.cons rfl (Shp.cons rfl (Shp.cons rfl (Shp.cons rfl (Shp.cons rfl (Shp.cons rfl Shp.nil))))))))))))) rfl) (gV_one (OneL.one rfl (OneL.one rfl (OneL.one rfl (OneL.one rfl (OneL.one rfl (OneL.arr (OneL.arr (OneL.one rfl (OneL.one rfl (OneL.one rfl (OneL.one rfl (OneL.one rfl (OneL.one rfl OneL.nil)))))))))))))) fun w169 S170 => ?_
  refine T_pev rfl rfl rfl rfl ?_
  refine T_nil ?_
  refine W_ret ?_
  refine ⟨_, ⟨_, _, _, rfl, rfl, run_loadVarA rfl rfl (gV_size (L := [[.int .i64 ((((Go.Au.ntAll 5 b).getD 0 []).getD 0 0).toNat : Int)], [.int .i64 (Go.Au.vN ((Go.Au.ntAll 5 b).getD 1 []) 0)], [.int .i64 (Go.Au.vN ((Go.Au.ntAll 5 b).getD 1 []) 1)], [.int .i64 (Go.Au.vN ((Go.Au.ntAll 5 b).getD 1 []) 2)], [.int .i64 (Go.Au.vN ((Go.Au.ntAll 5 b).getD 1 []) 3)], (Go.Au.vS ((Go.Au.ntAll 5 b).getD 1 [])).map bV, (Go.Au.vR ((Go.Au.ntAll 5 b).getD 1 [])).map bV, [.int .i64 (Go.Au.sgH ((Go.Au.ntAll 5 b).getD 2 []))], [.int .i64 (Go.Au.sgL ((Go.Au.ntAll 5 b).getD 2 []))], [.slice a89 (Go.Au.sgV ((Go.Au.ntAll 5 b).getD 2 [])).length c90], [.slice a91 (Go.Au.sgP ((Go.Au.ntAll 5 b).getD 2 [])).length c92], [.slice a119 (Go.Au.chunks ((Go.Au.ntAll 5 b).getD 3 []) (((Go.Au.ntAll 5 b).getD 3 []).length / 32)).length c120], [.slice a164 ((Go.Au.ntAll 5 b).getD 4 []).length c165]]) (ns := [1, 1, 1, 1, 1, 16, 32, 1, 1, 1, 1, 1, 1]) (Shp.cons rfl (Shp.cons rfl (Shp.cons rfl (Shp.cons rfl (Shp.cons rfl (Shp.cons (lenB (Go.Au.vS_len _)) (Shp.cons (lenB (Go.Au.vR_len _)) (Shp.cons rfl (Shp.cons rfl (Shp.cons rfl (Shp.cons rfl (Shp.cons rfl (Shp.cons rfl Shp.nil))))))))))))) rfl) (S170.cells 2 rfl), ⟨_, _, rfl, rfl, rfl⟩⟩, ?_⟩
  exact pc_some HOK (Go.Au.hashN_yes (by have := HOK.2.2.2.2.2.2; exact this)).symm (((r93.mono hl127)).mono S170.fin) (((r94.mono hl127)).mono S170.fin) ((r122).mono S170.fin) ((r166).mono S170.fin) S170.below


set_option maxHeartbeats 1000000 in
theorem unpackPcR_ok {H : Hp} {w : World} (hH : H.le (hw w)) {b : List UInt8} {aa0 : Option Addr} {nn0 cc0 : Nat} (hv : Rd H (.slice aa0 nn0 cc0) nn0 1 (b.map bV)) (hb : b.length ≤ 10000) :
    Calls Tryd.prog 36 #[.slice aa0 nn0 cc0] w fun e w' => ∃ a1 c1 a2 c2 a3 c3 a4 c4, e = .returned (.tuple #[gV [[.int .i64 (Go.Au.pcN b)], [.int .i64 (Go.Au.pcA b 0)], [.int .i64 (Go.Au.pcA b 1)], [.int .i64 (Go.Au.pcA b 2)], [.int .i64 (Go.Au.pcA b 3)], (Go.Au.pcS b).map bV, (Go.Au.pcR b).map bV, [.int .i64 (Go.Au.pcH b)], [.int .i64 (Go.Au.pcL b)], [.slice a1 (Go.Au.pcV b).length c1], [.slice a2 (Go.Au.pcP b).length c2], [.slice a3 (Go.Au.pcQ b).length c3], [.slice a4 (Go.Au.pcB b).length c4]], .bool (decide (Go.Au.PcOk b))]) ∧ RdH (F.ext H w.heap.size w') (.slice a1 (Go.Au.pcV b).length c1) 32 (Go.Au.pcV b) ∧ RdH (F.ext H w.heap.size w') (.slice a2 (Go.Au.pcP b).length c2) 32 (Go.Au.pcP b) ∧ RdH (F.ext H w.heap.size w') (.slice a3 (Go.Au.pcQ b).length c3) 32 (Go.Au.pcQ b) ∧ Rd (F.ext H w.heap.size w') (.slice a4 (Go.Au.pcB b).length c4) (Go.Au.pcB b).length 1 ((Go.Au.pcB b).map bV) ∧ Below w.heap.size w w' := by
  obtain rfl : nn0 = b.length := hv.lenB
  have hvcap : b.length ≤ cc0 := hv.capOf
  refine enter1 _ Tryd.func36 rfl Tryd.ntmps36 Tryd.results36 rfl ?_
  have S0 := St.start w hH
  refine W_seq ?_
  refine W_region ?_
  refine T_allocS S0 (fun _ _ => trivial) rfl rfl rfl rfl rfl rfl rfl fun b1 w2 S3 => ?_
  refine T_pev rfl rfl rfl rfl ?_
  refine T_nil ?_
  refine W_seq ?_
  refine W_region ?_
  refine T_pev rfl rfl rfl rfl ?_
  refine T_callS rfl rfl g_aumbry_aumbryref01_TakeNets rfl rfl rfl rfl ((takeNetsR_ok S3.le hv 5 (by omega) (by omega)).mono ?_)
  rintro e w8 ⟨a4, c5, rfl, r6, hB7⟩
  obtain ⟨G10, eG12⟩ : ∃ G, G = F.ext H w2.heap.size w8 := ⟨_, rfl⟩
  obtain ⟨hl11, S9⟩ := S3.ext hB7
  rw [← eG12] at hl11 S9 r6
  refine ⟨_, rfl, trivial, ?_⟩
  refine T_pev rfl rfl rfl rfl ?_
  refine T_pev rfl rfl rfl rfl ?_
  refine T_pev rfl rfl rfl rfl ?_
  refine T_pev rfl rfl rfl rfl ?_
  refine T_pev rfl rfl rfl rfl ?_
  refine T_nil ?_
  refine W_seq ?_
  refine W_seq ?_
  refine W_region ?_
  refine T_pev rfl rfl rfl rfl ?_
  refine T_pev rfl rfl rfl rfl ?_
  refine T_pev rfl rfl rfl rfl ?_
  refine T_part (t := 18) rfl (List.cons_ne_nil _ _) (fun h13' => ?_) (fun h13' => ?_)
  · have h13 := of_ndec_t h13'
    refine T_no rfl rfl rfl rfl rfl rfl ?_
    refine T_no rfl rfl rfl rfl rfl rfl ?_
    refine T_no rfl rfl rfl rfl rfl rfl ?_
    refine T_pev rfl rfl rfl rfl ?_
    refine T_pev rfl rfl rfl rfl ?_
    refine T_no rfl rfl rfl rfl rfl rfl ?_
    refine T_no rfl rfl rfl rfl rfl rfl ?_
    refine T_no rfl rfl rfl rfl rfl rfl ?_
    refine T_no rfl rfl rfl rfl rfl rfl ?_
    refine T_no rfl rfl rfl rfl rfl rfl ?_
    refine T_pev rfl rfl rfl rfl ?_
    refine T_pev rfl rfl rfl rfl ?_
    refine T_no rfl rfl rfl rfl rfl rfl ?_
    refine T_no rfl rfl rfl rfl rfl rfl ?_
    refine T_no rfl rfl rfl rfl rfl rfl ?_
    refine T_no rfl rfl rfl rfl rfl rfl ?_
    refine T_no rfl rfl rfl rfl rfl rfl ?_
    refine T_no rfl rfl rfl rfl rfl rfl ?_
    refine T_pev rfl rfl rfl rfl ?_
    refine T_nil ?_
    refine W_cond_true rfl ?_
    refine W_seq ?_
    refine W_region ?_
    refine T_buildS (cells := (gV [[.int .i64 0], [.int .i64 0], [.int .i64 0], [.int .i64 0], [.int .i64 0], (List.replicate 16 0).map bV, (List.replicate 32 0).map bV, [.int .i64 0], [.int .i64 0], [.slice none 0 0], [.slice none 0 0], [.slice none 0 0], [.slice none 0 0]] : Value).cells) rfl rfl rfl rfl rfl rfl fill_gnil rfl rfl rfl ?_
    refine T_storeFS 0 S9 (fun _ _ => trivial) rfl rfl rfl rfl rfl rfl rfl rfl rfl (gV_size (L := [[.int .i64 0], [.int .i64 0], [.int .i64 0], [.int .i64 0], [.int .i64 0], (List.replicate 16 0).map bV, (List.replicate 32 0).map bV, [.int .i64 0], [.int .i64 0], [.slice none 0 0], [.slice none 0 0], [.slice none 0 0], [.slice none 0 0]]) (ns := [1, 1, 1, 1, 1, 16, 32, 1, 1, 1, 1, 1, 1]) (Shp.cons rfl (Shp.cons rfl (Shp.cons rfl (Shp.cons rfl (Shp.cons rfl (Shp.cons (lenB List.length_replicate) (Shp.cons (lenB List.length_replicate) (Shp.cons rfl (Shp.cons rfl (Shp.cons rfl (Shp.cons rfl (Shp.cons rfl (Shp.cons rfl Shp.nil))))))))))))) rfl) (gV_size (L := [[.int .i64 0], [.int .i64 0], [.int .i64 0], [.int .i64 0], [.int .i64 0], (List.replicate 16 0).map bV, (List.replicate 32 0).map bV, [.int .i64 0], [.int .i64 0], [.slice none 0 0], [.slice none 0 0], [.slice none 0 0], [.slice none 0 0]]) (ns := [1, 1, 1, 1, 1, 16, 32, 1, 1, 1, 1, 1, 1]) (Shp.cons rfl (Shp.cons rfl (Shp.cons rfl (Shp.cons rfl (Shp.cons rfl (Shp.cons (lenB List.length_replicate) (Shp.cons (lenB List.length_replicate) (Shp.cons rfl (Shp.cons rfl (Shp.cons rfl (Shp.cons rfl (Shp.cons rfl (Shp.cons rfl Shp.nil))))))))))))) rfl) (gV_one (OneL.one rfl (OneL.one rfl (OneL.one rfl (OneL.one rfl (OneL.one rfl (OneL.arr (OneL.arr (OneL.one rfl (OneL.one rfl (OneL.one rfl (OneL.one rfl (OneL.one rfl (OneL.one rfl OneL.nil)))))))))))))) fun w14 S15 => ?_
    refine T_pev rfl rfl rfl rfl ?_
    refine T_nil ?_
    refine W_ret ?_
    refine ⟨_, ⟨_, _, _, rfl, rfl, run_loadVarA rfl rfl (gV_size (L := [[.int .i64 0], [.int .i64 0], [.int .i64 0], [.int .i64 0], [.int .i64 0], (List.replicate 16 0).map bV, (List.replicate 32 0).map bV, [.int .i64 0], [.int .i64 0], [.slice none 0 0], [.slice none 0 0], [.slice none 0 0], [.slice none 0 0]]) (ns := [1, 1, 1, 1, 1, 16, 32, 1, 1, 1, 1, 1, 1]) (Shp.cons rfl (Shp.cons rfl (Shp.cons rfl (Shp.cons rfl (Shp.cons rfl (Shp.cons (lenB List.length_replicate) (Shp.cons (lenB List.length_replicate) (Shp.cons rfl (Shp.cons rfl (Shp.cons rfl (Shp.cons rfl (Shp.cons rfl (Shp.cons rfl Shp.nil))))))))))))) rfl) (S15.cells 0 rfl), ⟨_, _, rfl, rfl, rfl⟩⟩, ?_⟩
    have HNO : ¬ Go.Au.PcOk b := by
      intro hq
      obtain ⟨q0, q1, q2, q3, q4, q5, q6⟩ := hq
      unfold Go.Au.p5 at q2 q3 q4 q5 q6
      first | omega | exact h13 q0 | exact h13 q4 | exact h13 q5 | exact h13 q6
    exact pc_none HNO S15.below
  have h13 := of_ndec_f h13'
  refine T_yes rfl rfl rfl ?_ rfl
  refine T_pev rfl rfl rfl rfl ?_
  refine T_yes rfl rfl rfl ?_ rfl
  refine T_pev rfl rfl rfl rfl ?_
  refine T_yes rfl rfl rfl ?_ rfl
  refine T_pev rfl rfl rfl rfl ?_
  refine T_pev rfl rfl rfl rfl ?_
  refine T_pev rfl rfl rfl rfl ?_
  refine T_part (t := 23) rfl (List.cons_ne_nil _ _) (fun h16' => ?_) (fun h16' => ?_)
  · have h16 := of_decide_eq_true h16'
    refine T_no rfl rfl rfl rfl rfl rfl ?_
    refine T_no rfl rfl rfl rfl rfl rfl ?_
    refine T_no rfl rfl rfl rfl rfl rfl ?_
    refine T_no rfl rfl rfl rfl rfl rfl ?_
    refine T_no rfl rfl rfl rfl rfl rfl ?_
    refine T_pev rfl rfl rfl rfl ?_
    refine T_pev rfl rfl rfl rfl ?_
    refine T_no rfl rfl rfl rfl rfl rfl ?_
    refine T_no rfl rfl rfl rfl rfl rfl ?_
    refine T_no rfl rfl rfl rfl rfl rfl ?_
    refine T_no rfl rfl rfl rfl rfl rfl ?_
    refine T_no rfl rfl rfl rfl rfl rfl ?_
    refine T_no rfl rfl rfl rfl rfl rfl ?_
    refine T_pev rfl rfl rfl rfl ?_
    refine T_nil ?_
    refine W_cond_true rfl ?_
    refine W_seq ?_
    refine W_region ?_
    refine T_buildS (cells := (gV [[.int .i64 0], [.int .i64 0], [.int .i64 0], [.int .i64 0], [.int .i64 0], (List.replicate 16 0).map bV, (List.replicate 32 0).map bV, [.int .i64 0], [.int .i64 0], [.slice none 0 0], [.slice none 0 0], [.slice none 0 0], [.slice none 0 0]] : Value).cells) rfl rfl rfl rfl rfl rfl fill_gnil rfl rfl rfl ?_
    refine T_storeFS 0 S9 (fun _ _ => trivial) rfl rfl rfl rfl rfl rfl rfl rfl rfl (gV_size (L := [[.int .i64 0], [.int .i64 0], [.int .i64 0], [.int .i64 0], [.int .i64 0], (List.replicate 16 0).map bV, (List.replicate 32 0).map bV, [.int .i64 0], [.int .i64 0], [.slice none 0 0], [.slice none 0 0], [.slice none 0 0], [.slice none 0 0]]) (ns := [1, 1, 1, 1, 1, 16, 32, 1, 1, 1, 1, 1, 1]) (Shp.cons rfl (Shp.cons rfl (Shp.cons rfl (Shp.cons rfl (Shp.cons rfl (Shp.cons (lenB List.length_replicate) (Shp.cons (lenB List.length_replicate) (Shp.cons rfl (Shp.cons rfl (Shp.cons rfl (Shp.cons rfl (Shp.cons rfl (Shp.cons rfl Shp.nil))))))))))))) rfl) (gV_size (L := [[.int .i64 0], [.int .i64 0], [.int .i64 0], [.int .i64 0], [.int .i64 0], (List.replicate 16 0).map bV, (List.replicate 32 0).map bV, [.int .i64 0], [.int .i64 0], [.slice none 0 0], [.slice none 0 0], [.slice none 0 0], [.slice none 0 0]]) (ns := [1, 1, 1, 1, 1, 16, 32, 1, 1, 1, 1, 1, 1]) (Shp.cons rfl (Shp.cons rfl (Shp.cons rfl (Shp.cons rfl (Shp.cons rfl (Shp.cons (lenB List.length_replicate) (Shp.cons (lenB List.length_replicate) (Shp.cons rfl (Shp.cons rfl (Shp.cons rfl (Shp.cons rfl (Shp.cons rfl (Shp.cons rfl Shp.nil))))))))))))) rfl) (gV_one (OneL.one rfl (OneL.one rfl (OneL.one rfl (OneL.one rfl (OneL.one rfl (OneL.arr (OneL.arr (OneL.one rfl (OneL.one rfl (OneL.one rfl (OneL.one rfl (OneL.one rfl (OneL.one rfl OneL.nil)))))))))))))) fun w17 S18 => ?_
    refine T_pev rfl rfl rfl rfl ?_
    refine T_nil ?_
    refine W_ret ?_
    refine ⟨_, ⟨_, _, _, rfl, rfl, run_loadVarA rfl rfl (gV_size (L := [[.int .i64 0], [.int .i64 0], [.int .i64 0], [.int .i64 0], [.int .i64 0], (List.replicate 16 0).map bV, (List.replicate 32 0).map bV, [.int .i64 0], [.int .i64 0], [.slice none 0 0], [.slice none 0 0], [.slice none 0 0], [.slice none 0 0]]) (ns := [1, 1, 1, 1, 1, 16, 32, 1, 1, 1, 1, 1, 1]) (Shp.cons rfl (Shp.cons rfl (Shp.cons rfl (Shp.cons rfl (Shp.cons rfl (Shp.cons (lenB List.length_replicate) (Shp.cons (lenB List.length_replicate) (Shp.cons rfl (Shp.cons rfl (Shp.cons rfl (Shp.cons rfl (Shp.cons rfl (Shp.cons rfl Shp.nil))))))))))))) rfl) (S18.cells 0 rfl), ⟨_, _, rfl, rfl, rfl⟩⟩, ?_⟩
    have HNO : ¬ Go.Au.PcOk b := by
      intro hq
      obtain ⟨q0, q1, q2, q3, q4, q5, q6⟩ := hq
      unfold Go.Au.p5 at q2 q3 q4 q5 q6
      first | omega | exact h16 q0 | exact h16 q4 | exact h16 q5 | exact h16 q6
    exact pc_none HNO S18.below
  have h16 := of_decide_eq_false h16'
  refine T_yes rfl rfl rfl ?_ rfl
  have HA := h13
  have hn5 := Go.Au.ntAll_len HA
  have hel := fun i => Go.Au.p5_le b i
  unfold Go.Au.p5 at hel
  have he0 := hel 0
  have he1 := hel 1
  have he2 := hel 2
  have he3 := hel 3
  have he4 := hel 4
  refine T_pev rfl rfl rfl rfl ?_
  refine T_yes rfl rfl rfl ?_ rfl
  obtain ⟨hs22, r23, r24⟩ := (id r6)
  refine T_idxR 0 r23 rfl rfl rfl rfl rfl rfl rfl rfl rfl (by omega) (by omega) fun b19 o20 hc21 => ?_
  obtain ⟨a27, c28, hc30, hv26, r29⟩ := r24.at 0 (by omega)
  have hc31 := hc21 0 (.slice a27 ((Go.Au.ntAll 5 b).getD 0 []).length c28) (by simpa using hv26)
  simp only [Nat.add_zero] at hc31
  refine T_yes rfl rfl rfl ?_ rfl
  refine T_loadG S9 hc31 rfl rfl rfl rfl rfl rfl rfl ?_
  refine T_yes rfl rfl rfl ?_ rfl
  refine T_pev rfl rfl rfl rfl ?_
  refine T_yes rfl rfl rfl ?_ rfl
  refine T_pev rfl rfl rfl rfl ?_
  refine T_pev rfl rfl rfl rfl ?_
  refine T_pev rfl rfl rfl rfl ?_
  refine T_part (t := 30) rfl (List.cons_ne_nil _ _) (fun h32' => ?_) (fun h32' => ?_)
  · have h32 := of_ndec_t h32'
    refine T_no rfl rfl rfl rfl rfl rfl ?_
    refine T_no rfl rfl rfl rfl rfl rfl ?_
    refine T_no rfl rfl rfl rfl rfl rfl ?_
    refine T_no rfl rfl rfl rfl rfl rfl ?_
    refine T_no rfl rfl rfl rfl rfl rfl ?_
    refine T_no rfl rfl rfl rfl rfl rfl ?_
    refine T_pev rfl rfl rfl rfl ?_
    refine T_nil ?_
    refine W_cond_true rfl ?_
    refine W_seq ?_
    refine W_region ?_
    refine T_buildS (cells := (gV [[.int .i64 0], [.int .i64 0], [.int .i64 0], [.int .i64 0], [.int .i64 0], (List.replicate 16 0).map bV, (List.replicate 32 0).map bV, [.int .i64 0], [.int .i64 0], [.slice none 0 0], [.slice none 0 0], [.slice none 0 0], [.slice none 0 0]] : Value).cells) rfl rfl rfl rfl rfl rfl fill_gnil rfl rfl rfl ?_
    refine T_storeFS 0 S9 (fun _ _ => trivial) rfl rfl rfl rfl rfl rfl rfl rfl rfl (gV_size (L := [[.int .i64 0], [.int .i64 0], [.int .i64 0], [.int .i64 0], [.int .i64 0], (List.replicate 16 0).map bV, (List.replicate 32 0).map bV, [.int .i64 0], [.int .i64 0], [.slice none 0 0], [.slice none 0 0], [.slice none 0 0], [.slice none 0 0]]) (ns := [1, 1, 1, 1, 1, 16, 32, 1, 1, 1, 1, 1, 1]) (Shp.cons rfl (Shp.cons rfl (Shp.cons rfl (Shp.cons rfl (Shp.cons rfl (Shp.cons (lenB List.length_replicate) (Shp.cons (lenB List.length_replicate) (Shp.cons rfl (Shp.cons rfl (Shp.cons rfl (Shp.cons rfl (Shp.cons rfl (Shp.cons rfl Shp.nil))))))))))))) rfl) (gV_size (L := [[.int .i64 0], [.int .i64 0], [.int .i64 0], [.int .i64 0], [.int .i64 0], (List.replicate 16 0).map bV, (List.replicate 32 0).map bV, [.int .i64 0], [.int .i64 0], [.slice none 0 0], [.slice none 0 0], [.slice none 0 0], [.slice none 0 0]]) (ns := [1, 1, 1, 1, 1, 16, 32, 1, 1, 1, 1, 1, 1]) (Shp.cons rfl (Shp.cons rfl (Shp.cons rfl (Shp.cons rfl (Shp.cons rfl (Shp.cons (lenB List.length_replicate) (Shp.cons (lenB List.length_replicate) (Shp.cons rfl (Shp.cons rfl (Shp.cons rfl (Shp.cons rfl (Shp.cons rfl (Shp.cons rfl Shp.nil))))))))))))) rfl) (gV_one (OneL.one rfl (OneL.one rfl (OneL.one rfl (OneL.one rfl (OneL.one rfl (OneL.arr (OneL.arr (OneL.one rfl (OneL.one rfl (OneL.one rfl (OneL.one rfl (OneL.one rfl (OneL.one rfl OneL.nil)))))))))))))) fun w33 S34 => ?_
    refine T_pev rfl rfl rfl rfl ?_
    refine T_nil ?_
    refine W_ret ?_
    refine ⟨_, ⟨_, _, _, rfl, rfl, run_loadVarA rfl rfl (gV_size (L := [[.int .i64 0], [.int .i64 0], [.int .i64 0], [.int .i64 0], [.int .i64 0], (List.replicate 16 0).map bV, (List.replicate 32 0).map bV, [.int .i64 0], [.int .i64 0], [.slice none 0 0], [.slice none 0 0], [.slice none 0 0], [.slice none 0 0]]) (ns := [1, 1, 1, 1, 1, 16, 32, 1, 1, 1, 1, 1, 1]) (Shp.cons rfl (Shp.cons rfl (Shp.cons rfl (Shp.cons rfl (Shp.cons rfl (Shp.cons (lenB List.length_replicate) (Shp.cons (lenB List.length_replicate) (Shp.cons rfl (Shp.cons rfl (Shp.cons rfl (Shp.cons rfl (Shp.cons rfl (Shp.cons rfl Shp.nil))))))))))))) rfl) (S34.cells 0 rfl), ⟨_, _, rfl, rfl, rfl⟩⟩, ?_⟩
    have HNO : ¬ Go.Au.PcOk b := by
      intro hq
      obtain ⟨q0, q1, q2, q3, q4, q5, q6⟩ := hq
      unfold Go.Au.p5 at q2 q3 q4 q5 q6
      first | omega | exact h32 q0 | exact h32 q4 | exact h32 q5 | exact h32 q6
    exact pc_none HNO S34.below
  have h32 := of_ndec_f h32'
  refine T_yes rfl rfl rfl ?_ rfl
  refine T_pev rfl rfl rfl rfl ?_
  refine T_yes rfl rfl rfl ?_ rfl
  obtain ⟨hs38, r39, r40⟩ := (id r6)
  refine T_idxR 0 r39 rfl rfl rfl rfl rfl rfl rfl rfl rfl (by omega) (by omega) fun b35 o36 hc37 => ?_
  obtain ⟨a43, c44, hc46, hv42, r45⟩ := r40.at 0 (by omega)
  have hc47 := hc37 0 (.slice a43 ((Go.Au.ntAll 5 b).getD 0 []).length c44) (by simpa using hv42)
  simp only [Nat.add_zero] at hc47
  refine T_yes rfl rfl rfl ?_ rfl
  refine T_loadG S9 hc47 rfl rfl rfl rfl rfl rfl rfl ?_
  refine T_yes rfl rfl rfl ?_ rfl
  refine T_idxR 0 r45 rfl rfl rfl rfl rfl rfl rfl rfl rfl (by omega) (by omega) fun b48 o49 hc50 => ?_
  have hc51 := hc50 0 (bV (((Go.Au.ntAll 5 b).getD 0 []).getD 0 0)) (at_b ((Go.Au.ntAll 5 b).getD 0 []) 0 (by omega))
  simp only [Nat.add_zero] at hc51
  refine T_yes rfl rfl rfl ?_ rfl
  refine T_loadG S9 hc51 rfl rfl rfl rfl rfl rfl rfl ?_
  refine T_yes rfl rfl rfl ?_ rfl
  refine T_pev rfl rfl rfl rfl ?_
  refine T_pev rfl rfl rfl rfl ?_
  refine T_nil ?_
  refine W_cond_dec rfl (fun h52 => ?_) (fun h52 => ?_)
  · refine W_seq ?_
    refine W_region ?_
    refine T_buildS (cells := (gV [[.int .i64 0], [.int .i64 0], [.int .i64 0], [.int .i64 0], [.int .i64 0], (List.replicate 16 0).map bV, (List.replicate 32 0).map bV, [.int .i64 0], [.int .i64 0], [.slice none 0 0], [.slice none 0 0], [.slice none 0 0], [.slice none 0 0]] : Value).cells) rfl rfl rfl rfl rfl rfl fill_gnil rfl rfl rfl ?_
    refine T_storeFS 0 S9 (fun _ _ => trivial) rfl rfl rfl rfl rfl rfl rfl rfl rfl (gV_size (L := [[.int .i64 0], [.int .i64 0], [.int .i64 0], [.int .i64 0], [.int .i64 0], (List.replicate 16 0).map bV, (List.replicate 32 0).map bV, [.int .i64 0], [.int .i64 0], [.slice none 0 0], [.slice none 0 0], [.slice none 0 0], [.slice none 0 0]]) (ns := [1, 1, 1, 1, 1, 16, 32, 1, 1, 1, 1, 1, 1]) (Shp.cons rfl (Shp.cons rfl (Shp.cons rfl (Shp.cons rfl (Shp.cons rfl (Shp.cons (lenB List.length_replicate) (Shp.cons (lenB List.length_replicate) (Shp.cons rfl (Shp.cons rfl (Shp.cons rfl (Shp.cons rfl (Shp.cons rfl (Shp.cons rfl Shp.nil))))))))))))) rfl) (gV_size (L := [[.int .i64 0], [.int .i64 0], [.int .i64 0], [.int .i64 0], [.int .i64 0], (List.replicate 16 0).map bV, (List.replicate 32 0).map bV, [.int .i64 0], [.int .i64 0], [.slice none 0 0], [.slice none 0 0], [.slice none 0 0], [.slice none 0 0]]) (ns := [1, 1, 1, 1, 1, 16, 32, 1, 1, 1, 1, 1, 1]) (Shp.cons rfl (Shp.cons rfl (Shp.cons rfl (Shp.cons rfl (Shp.cons rfl (Shp.cons (lenB List.length_replicate) (Shp.cons (lenB List.length_replicate) (Shp.cons rfl (Shp.cons rfl (Shp.cons rfl (Shp.cons rfl (Shp.cons rfl (Shp.cons rfl Shp.nil))))))))))))) rfl) (gV_one (OneL.one rfl (OneL.one rfl (OneL.one rfl (OneL.one rfl (OneL.one rfl (OneL.arr (OneL.arr (OneL.one rfl (OneL.one rfl (OneL.one rfl (OneL.one rfl (OneL.one rfl (OneL.one rfl OneL.nil)))))))))))))) fun w53 S54 => ?_
    refine T_pev rfl rfl rfl rfl ?_
    refine T_nil ?_
    refine W_ret ?_
    refine ⟨_, ⟨_, _, _, rfl, rfl, run_loadVarA rfl rfl (gV_size (L := [[.int .i64 0], [.int .i64 0], [.int .i64 0], [.int .i64 0], [.int .i64 0], (List.replicate 16 0).map bV, (List.replicate 32 0).map bV, [.int .i64 0], [.int .i64 0], [.slice none 0 0], [.slice none 0 0], [.slice none 0 0], [.slice none 0 0]]) (ns := [1, 1, 1, 1, 1, 16, 32, 1, 1, 1, 1, 1, 1]) (Shp.cons rfl (Shp.cons rfl (Shp.cons rfl (Shp.cons rfl (Shp.cons rfl (Shp.cons (lenB List.length_replicate) (Shp.cons (lenB List.length_replicate) (Shp.cons rfl (Shp.cons rfl (Shp.cons rfl (Shp.cons rfl (Shp.cons rfl (Shp.cons rfl Shp.nil))))))))))))) rfl) (S54.cells 0 rfl), ⟨_, _, rfl, rfl, rfl⟩⟩, ?_⟩
    have HNO : ¬ Go.Au.PcOk b := by
      intro hq
      obtain ⟨q0, q1, q2, q3, q4, q5, q6⟩ := hq
      unfold Go.Au.p5 at q2 q3 q4 q5 q6
      first | omega | exact h52 q0 | exact h52 q4 | exact h52 q5 | exact h52 q6
    exact pc_none HNO S54.below
  refine W_skip ?_
  refine W_seq ?_
  refine W_region ?_
  refine T_pev rfl rfl rfl rfl ?_
  obtain ⟨hs58, r59, r60⟩ := (id r6)
  refine T_idxR 1 r59 rfl rfl rfl rfl rfl rfl rfl rfl rfl (by omega) (by omega) fun b55 o56 hc57 => ?_
  obtain ⟨a63, c64, hc66, hv62, r65⟩ := r60.at 1 (by omega)
  have hc67 := hc57 0 (.slice a63 ((Go.Au.ntAll 5 b).getD 1 []).length c64) (by simpa using hv62)
  simp only [Nat.add_zero] at hc67
  have hp1 := he1
  clear hel
  refine T_loadG S9 hc67 rfl rfl rfl rfl rfl rfl rfl ?_
  refine T_callS rfl rfl g_aumbry_aumbryref13_UnpackVersion rfl rfl rfl rfl ((unpackVR_ok S9.le r65 (by first | omega | decide)).mono ?_)
  rintro e w69 ⟨rfl, hB68⟩
  have S70 := S9.call hB68
  refine ⟨_, rfl, trivial, ?_⟩
  refine T_pev rfl rfl rfl rfl ?_
  refine T_pev rfl rfl rfl rfl ?_
  refine T_pev rfl rfl rfl rfl ?_
  refine T_allocS S70 (fun _ _ => trivial) rfl rfl rfl rfl rfl rfl rfl fun b71 w72 S73 => ?_
  refine T_storeFS 0 S73 (fun _ _ => trivial) rfl rfl rfl rfl rfl rfl rfl rfl rfl (qV_sz (q_len (Go.Au.vS_len _) (Go.Au.vR_len _) rfl)) (qV_sz (q_len (Go.Au.vS_len _) (Go.Au.vR_len _) rfl)) (qV_one) fun w74 S75 => ?_
  refine T_pev rfl rfl rfl rfl ?_
  refine T_nil ?_
  refine W_seq ?_
  refine W_region ?_
  refine T_pev rfl rfl rfl rfl ?_
  obtain ⟨hs79, r80, r81⟩ := (id r6)
  refine T_idxR 2 r80 rfl rfl rfl rfl rfl rfl rfl rfl rfl (by omega) (by omega) fun b76 o77 hc78 => ?_
  obtain ⟨a84, c85, hc87, hv83, r86⟩ := r81.at 2 (by omega)
  have hc88 := hc78 0 (.slice a84 ((Go.Au.ntAll 5 b).getD 2 []).length c85) (by simpa using hv83)
  simp only [Nat.add_zero] at hc88
  refine T_loadG S75 hc88 rfl rfl rfl rfl rfl rfl rfl ?_
  refine T_callS rfl rfl g_aumbry_aumbryref07_Unpack rfl rfl rfl rfl ((unpackSigR_ok S75.le r86).mono ?_)
  rintro e w96 ⟨a89, c90, a91, c92, rfl, r93, r94, hB95⟩
  obtain ⟨G98, eG100⟩ : ∃ G, G = F.ext G10 w74.heap.size w96 := ⟨_, rfl⟩
  obtain ⟨hl99, S97⟩ := S75.ext hB95
  rw [← eG100] at hl99 S97 r93 r94
  refine ⟨_, rfl, trivial, ?_⟩
  refine T_pev rfl rfl rfl rfl ?_
  refine T_pev rfl rfl rfl rfl ?_
  refine T_pev rfl rfl rfl rfl ?_
  refine T_allocS S97 (fun _ _ => trivial) rfl rfl rfl rfl rfl rfl rfl fun b101 w102 S103 => ?_
  refine T_storeFS 0 S103 (fun _ _ => trivial) rfl rfl rfl rfl rfl rfl rfl rfl rfl (by first | rfl | simp [hVs, *]) (by first | rfl | simp [hVs, *]) (one_all rfl) fun w104 S105 => ?_
  refine T_pev rfl rfl rfl rfl ?_
  refine T_nil ?_
  refine W_seq ?_
  refine W_region ?_
  refine T_pev rfl rfl rfl rfl ?_
  obtain ⟨hs109, r110, r111⟩ := (r6.mono hl99)
  refine T_idxR 3 r110 rfl rfl rfl rfl rfl rfl rfl rfl rfl (by omega) (by omega) fun b106 o107 hc108 => ?_
  obtain ⟨a114, c115, hc117, hv113, r116⟩ := r111.at 3 (by omega)
  have hc118 := hc108 0 (.slice a114 ((Go.Au.ntAll 5 b).getD 3 []).length c115) (by simpa using hv113)
  simp only [Nat.add_zero] at hc118
  refine T_loadG S105 hc118 rfl rfl rfl rfl rfl rfl rfl ?_
  refine T_callS rfl rfl g_aumbry_aumbryref07_TakeHashes rfl rfl rfl rfl ((takeHashesN_ok S105.le r116 (by omega)).mono ?_)
  rintro e w124 ⟨a119, c120, hc121, rfl, r122, hB123⟩
  obtain ⟨G126, eG128⟩ : ∃ G, G = F.ext G98 w104.heap.size w124 := ⟨_, rfl⟩
  obtain ⟨hl127, S125⟩ := S105.ext hB123
  rw [← eG128] at hl127 S125 r122
  refine ⟨_, rfl, trivial, ?_⟩
  refine T_pev rfl rfl rfl rfl ?_
  refine T_pev rfl rfl rfl rfl ?_
  refine T_pev rfl rfl rfl rfl ?_
  refine T_pev rfl rfl rfl rfl ?_
  refine T_pev rfl rfl rfl rfl ?_
  refine T_nil ?_
  refine W_seq ?_
  refine W_seq ?_
  refine W_region ?_
  refine T_pev rfl rfl rfl rfl ?_
  refine T_pev rfl rfl rfl rfl ?_
  refine T_pev rfl rfl rfl rfl ?_
  refine T_part (t := 62) rfl (List.cons_ne_nil _ _) (fun h129' => ?_) (fun h129' => ?_)
  · have h129 := of_ndec_t h129'
    refine T_no rfl rfl rfl rfl rfl rfl ?_
    refine T_no rfl rfl rfl rfl rfl rfl ?_
    refine T_pev rfl rfl rfl rfl ?_
    refine T_pev rfl rfl rfl rfl ?_
    refine T_no rfl rfl rfl rfl rfl rfl ?_
    refine T_no rfl rfl rfl rfl rfl rfl ?_
    refine T_pev rfl rfl rfl rfl ?_
    refine T_nil ?_
    refine W_cond_true rfl ?_
    refine W_seq ?_
    refine W_region ?_
    refine T_buildS (cells := (gV [[.int .i64 0], [.int .i64 0], [.int .i64 0], [.int .i64 0], [.int .i64 0], (List.replicate 16 0).map bV, (List.replicate 32 0).map bV, [.int .i64 0], [.int .i64 0], [.slice none 0 0], [.slice none 0 0], [.slice none 0 0], [.slice none 0 0]] : Value).cells) rfl rfl rfl rfl rfl rfl fill_gnil rfl rfl rfl ?_
    refine T_storeFS 2 S125 (fun _ _ => trivial) rfl rfl rfl rfl rfl rfl rfl rfl rfl (gV_size (L := [[.int .i64 0], [.int .i64 0], [.int .i64 0], [.int .i64 0], [.int .i64 0], (List.replicate 16 0).map bV, (List.replicate 32 0).map bV, [.int .i64 0], [.int .i64 0], [.slice none 0 0], [.slice none 0 0], [.slice none 0 0], [.slice none 0 0]]) (ns := [1, 1, 1, 1, 1, 16, 32, 1, 1, 1, 1, 1, 1]) (Shp.cons rfl (Shp.cons rfl (Shp.cons rfl (Shp.cons rfl (Shp.cons rfl (Shp.cons (lenB List.length_replicate) (Shp.cons (lenB List.length_replicate) (Shp.cons rfl (Shp.cons rfl (Shp.cons rfl (Shp.cons rfl (Shp.cons rfl (Shp.cons rfl Shp.nil))))))))))))) rfl) (gV_size (L := [[.int .i64 0], [.int .i64 0], [.int .i64 0], [.int .i64 0], [.int .i64 0], (List.replicate 16 0).map bV, (List.replicate 32 0).map bV, [.int .i64 0], [.int .i64 0], [.slice none 0 0], [.slice none 0 0], [.slice none 0 0], [.slice none 0 0]]) (ns := [1, 1, 1, 1, 1, 16, 32, 1, 1, 1, 1, 1, 1]) (Shp.cons rfl (Shp.cons rfl (Shp.cons rfl (Shp.cons rfl (Shp.cons rfl (Shp.cons (lenB List.length_replicate) (Shp.cons (lenB List.length_replicate) (Shp.cons rfl (Shp.cons rfl (Shp.cons rfl (Shp.cons rfl (Shp.cons rfl (Shp.cons rfl Shp.nil))))))))))))) rfl) (gV_one (OneL.one rfl (OneL.one rfl (OneL.one rfl (OneL.one rfl (OneL.one rfl (OneL.arr (OneL.arr (OneL.one rfl (OneL.one rfl (OneL.one rfl (OneL.one rfl (OneL.one rfl (OneL.one rfl OneL.nil)))))))))))))) fun w130 S131 => ?_
    refine T_pev rfl rfl rfl rfl ?_
    refine T_nil ?_
    refine W_ret ?_
    refine ⟨_, ⟨_, _, _, rfl, rfl, run_loadVarA rfl rfl (gV_size (L := [[.int .i64 0], [.int .i64 0], [.int .i64 0], [.int .i64 0], [.int .i64 0], (List.replicate 16 0).map bV, (List.replicate 32 0).map bV, [.int .i64 0], [.int .i64 0], [.slice none 0 0], [.slice none 0 0], [.slice none 0 0], [.slice none 0 0]]) (ns := [1, 1, 1, 1, 1, 16, 32, 1, 1, 1, 1, 1, 1]) (Shp.cons rfl (Shp.cons rfl (Shp.cons rfl (Shp.cons rfl (Shp.cons rfl (Shp.cons (lenB List.length_replicate) (Shp.cons (lenB List.length_replicate) (Shp.cons rfl (Shp.cons rfl (Shp.cons rfl (Shp.cons rfl (Shp.cons rfl (Shp.cons rfl Shp.nil))))))))))))) rfl) (S131.cells 2 rfl), ⟨_, _, rfl, rfl, rfl⟩⟩, ?_⟩
    have HNO : ¬ Go.Au.PcOk b := by
      intro hq
      obtain ⟨q0, q1, q2, q3, q4, q5, q6⟩ := hq
      unfold Go.Au.p5 at q2 q3 q4 q5 q6
      first | omega | exact h129 q0 | exact h129 q4 | exact h129 q5 | exact h129 q6
    exact pc_none HNO S131.below
  have h129 := of_ndec_f h129'
  refine T_yes rfl rfl rfl ?_ rfl
  refine T_pev rfl rfl rfl rfl ?_
  refine T_yes rfl rfl rfl ?_ rfl
  refine T_pev rfl rfl rfl rfl ?_
  refine T_pev rfl rfl rfl rfl ?_
  refine T_pev rfl rfl rfl rfl ?_
  refine T_part (t := 66) rfl (List.cons_ne_nil _ _) (fun h132' => ?_) (fun h132' => ?_)
  · have h132 := of_ndec_t h132'
    refine T_no rfl rfl rfl rfl rfl rfl ?_
    refine T_no rfl rfl rfl rfl rfl rfl ?_
    refine T_pev rfl rfl rfl rfl ?_
    refine T_nil ?_
    refine W_cond_true rfl ?_
    refine W_seq ?_
    refine W_region ?_
    refine T_buildS (cells := (gV [[.int .i64 0], [.int .i64 0], [.int .i64 0], [.int .i64 0], [.int .i64 0], (List.replicate 16 0).map bV, (List.replicate 32 0).map bV, [.int .i64 0], [.int .i64 0], [.slice none 0 0], [.slice none 0 0], [.slice none 0 0], [.slice none 0 0]] : Value).cells) rfl rfl rfl rfl rfl rfl fill_gnil rfl rfl rfl ?_
    refine T_storeFS 2 S125 (fun _ _ => trivial) rfl rfl rfl rfl rfl rfl rfl rfl rfl (gV_size (L := [[.int .i64 0], [.int .i64 0], [.int .i64 0], [.int .i64 0], [.int .i64 0], (List.replicate 16 0).map bV, (List.replicate 32 0).map bV, [.int .i64 0], [.int .i64 0], [.slice none 0 0], [.slice none 0 0], [.slice none 0 0], [.slice none 0 0]]) (ns := [1, 1, 1, 1, 1, 16, 32, 1, 1, 1, 1, 1, 1]) (Shp.cons rfl (Shp.cons rfl (Shp.cons rfl (Shp.cons rfl (Shp.cons rfl (Shp.cons (lenB List.length_replicate) (Shp.cons (lenB List.length_replicate) (Shp.cons rfl (Shp.cons rfl (Shp.cons rfl (Shp.cons rfl (Shp.cons rfl (Shp.cons rfl Shp.nil))))))))))))) rfl) (gV_size (L := [[.int .i64 0], [.int .i64 0], [.int .i64 0], [.int .i64 0], [.int .i64 0], (List.replicate 16 0).map bV, (List.replicate 32 0).map bV, [.int .i64 0], [.int .i64 0], [.slice none 0 0], [.slice none 0 0], [.slice none 0 0], [.slice none 0 0]]) (ns := [1, 1, 1, 1, 1, 16, 32, 1, 1, 1, 1, 1, 1]) (Shp.cons rfl (Shp.cons rfl (Shp.cons rfl (Shp.cons rfl (Shp.cons rfl (Shp.cons (lenB List.length_replicate) (Shp.cons (lenB List.length_replicate) (Shp.cons rfl (Shp.cons rfl (Shp.cons rfl (Shp.cons rfl (Shp.cons rfl (Shp.cons rfl Shp.nil))))))))))))) rfl) (gV_one (OneL.one rfl (OneL.one rfl (OneL.one rfl (OneL.one rfl (OneL.one rfl (OneL.arr (OneL.arr (OneL.one rfl (OneL.one rfl (OneL.one rfl (OneL.one rfl (OneL.one rfl (OneL.one rfl OneL.nil)))))))))))))) fun w133 S134 => ?_
    refine T_pev rfl rfl rfl rfl ?_
    refine T_nil ?_
    refine W_ret ?_
    refine ⟨_, ⟨_, _, _, rfl, rfl, run_loadVarA rfl rfl (gV_size (L := [[.int .i64 0], [.int .i64 0], [.int .i64 0], [.int .i64 0], [.int .i64 0], (List.replicate 16 0).map bV, (List.replicate 32 0).map bV, [.int .i64 0], [.int .i64 0], [.slice none 0 0], [.slice none 0 0], [.slice none 0 0], [.slice none 0 0]]) (ns := [1, 1, 1, 1, 1, 16, 32, 1, 1, 1, 1, 1, 1]) (Shp.cons rfl (Shp.cons rfl (Shp.cons rfl (Shp.cons rfl (Shp.cons rfl (Shp.cons (lenB List.length_replicate) (Shp.cons (lenB List.length_replicate) (Shp.cons rfl (Shp.cons rfl (Shp.cons rfl (Shp.cons rfl (Shp.cons rfl (Shp.cons rfl Shp.nil))))))))))))) rfl) (S134.cells 2 rfl), ⟨_, _, rfl, rfl, rfl⟩⟩, ?_⟩
    have HNO : ¬ Go.Au.PcOk b := by
      intro hq
      obtain ⟨q0, q1, q2, q3, q4, q5, q6⟩ := hq
      unfold Go.Au.p5 at q2 q3 q4 q5 q6
      first | omega | exact h132 q0 | exact h132 q4 | exact h132 q5 | exact h132 q6
    exact pc_none HNO S134.below
  have h132 := of_ndec_f h132'
  refine T_yes rfl rfl rfl ?_ rfl
  refine T_pev rfl rfl rfl rfl ?_
  refine T_yes rfl rfl rfl ?_ rfl
  refine T_pev rfl rfl rfl rfl ?_
  refine T_pev rfl rfl rfl rfl ?_
  refine T_nil ?_
  refine W_cond_not rfl (fun h135 => ?_) (fun h135 => ?_)
  · refine W_seq ?_
    refine W_region ?_
    refine T_buildS (cells := (gV [[.int .i64 0], [.int .i64 0], [.int .i64 0], [.int .i64 0], [.int .i64 0], (List.replicate 16 0).map bV, (List.replicate 32 0).map bV, [.int .i64 0], [.int .i64 0], [.slice none 0 0], [.slice none 0 0], [.slice none 0 0], [.slice none 0 0]] : Value).cells) rfl rfl rfl rfl rfl rfl fill_gnil rfl rfl rfl ?_
    refine T_storeFS 2 S125 (fun _ _ => trivial) rfl rfl rfl rfl rfl rfl rfl rfl rfl (gV_size (L := [[.int .i64 0], [.int .i64 0], [.int .i64 0], [.int .i64 0], [.int .i64 0], (List.replicate 16 0).map bV, (List.replicate 32 0).map bV, [.int .i64 0], [.int .i64 0], [.slice none 0 0], [.slice none 0 0], [.slice none 0 0], [.slice none 0 0]]) (ns := [1, 1, 1, 1, 1, 16, 32, 1, 1, 1, 1, 1, 1]) (Shp.cons rfl (Shp.cons rfl (Shp.cons rfl (Shp.cons rfl (Shp.cons rfl (Shp.cons (lenB List.length_replicate) (Shp.cons (lenB List.length_replicate) (Shp.cons rfl (Shp.cons rfl (Shp.cons rfl (Shp.cons rfl (Shp.cons rfl (Shp.cons rfl Shp.nil))))))))))))) rfl) (gV_size (L := [[.int .i64 0], [.int .i64 0], [.int .i64 0], [.int .i64 0], [.int .i64 0], (List.replicate 16 0).map bV, (List.replicate 32 0).map bV, [.int .i64 0], [.int .i64 0], [.slice none 0 0], [.slice none 0 0], [.slice none 0 0], [.slice none 0 0]]) (ns := [1, 1, 1, 1, 1, 16, 32, 1, 1, 1, 1, 1, 1]) (Shp.cons rfl (Shp.cons rfl (Shp.cons rfl (Shp.cons rfl (Shp.cons rfl (Shp.cons (lenB List.length_replicate) (Shp.cons (lenB List.length_replicate) (Shp.cons rfl (Shp.cons rfl (Shp.cons rfl (Shp.cons rfl (Shp.cons rfl (Shp.cons rfl Shp.nil))))))))))))) rfl) (gV_one (OneL.one rfl (OneL.one rfl (OneL.one rfl (OneL.one rfl (OneL.one rfl (OneL.arr (OneL.arr (OneL.one rfl (OneL.one rfl (OneL.one rfl (OneL.one rfl (OneL.one rfl (OneL.one rfl OneL.nil)))))))))))))) fun w136 S137 => ?_
    refine T_pev rfl rfl rfl rfl ?_
    refine T_nil ?_
    refine W_ret ?_
    refine ⟨_, ⟨_, _, _, rfl, rfl, run_loadVarA rfl rfl (gV_size (L := [[.int .i64 0], [.int .i64 0], [.int .i64 0], [.int .i64 0], [.int .i64 0], (List.replicate 16 0).map bV, (List.replicate 32 0).map bV, [.int .i64 0], [.int .i64 0], [.slice none 0 0], [.slice none 0 0], [.slice none 0 0], [.slice none 0 0]]) (ns := [1, 1, 1, 1, 1, 16, 32, 1, 1, 1, 1, 1, 1]) (Shp.cons rfl (Shp.cons rfl (Shp.cons rfl (Shp.cons rfl (Shp.cons rfl (Shp.cons (lenB List.length_replicate) (Shp.cons (lenB List.length_replicate) (Shp.cons rfl (Shp.cons rfl (Shp.cons rfl (Shp.cons rfl (Shp.cons rfl (Shp.cons rfl Shp.nil))))))))))))) rfl) (S137.cells 2 rfl), ⟨_, _, rfl, rfl, rfl⟩⟩, ?_⟩
    have HNO : ¬ Go.Au.PcOk b := by
      intro hq
      obtain ⟨q0, q1, q2, q3, q4, q5, q6⟩ := hq
      unfold Go.Au.p5 at q2 q3 q4 q5 q6
      first | omega | exact h135 q0 | exact h135 q4 | exact h135 q5 | exact h135 q6
    exact pc_none HNO S137.below
  refine W_skip ?_
  refine W_seq ?_
  have HOK : Go.Au.PcOk b := ⟨HA, by omega, by show (((Go.Au.ntAll 5 b).getD 0 []).length) = 1; omega, by show (((Go.Au.ntAll 5 b).getD 0 []).getD 0 0).toNat < 16; omega, h129, h132, h135⟩
  obtain ⟨G139, hl140, S138, r141⟩ := S125.stillBlk 1 rfl
  obtain ⟨G143, hl144, S142, r145⟩ := S138.stillBlk 0 rfl
  refine W_plan (planF Tryd.prog G143 [73, 75, 77, 78]) rfl (by kernel_rfl) S142.le ?_
  have S146 := S142.drew
  refine T_pev rfl rfl rfl rfl ?_
  obtain ⟨hs150, r151, r152⟩ := (r6.mono (hl99.trans (hl127.trans (hl140.trans hl144))))
  refine T_idxR 0 r151 rfl rfl rfl rfl rfl rfl rfl rfl rfl (by omega) (by omega) fun b147 o148 hc149 => ?_
  obtain ⟨a155, c156, hc158, hv154, r157⟩ := r152.at 0 (by omega)
  have hc159 := hc149 0 (.slice a155 ((Go.Au.ntAll 5 b).getD 0 []).length c156) (by simpa using hv154)
  simp only [Nat.add_zero] at hc159
  refine T_loadGP (fun _ h => h) hc159 rfl rfl rfl rfl rfl rfl rfl ?_
  refine T_idxR 0 r157 rfl rfl rfl rfl rfl rfl rfl rfl rfl (by omega) (by omega) fun b160 o161 hc162 => ?_
  have hc163 := hc162 0 (bV (((Go.Au.ntAll 5 b).getD 0 []).getD 0 0)) (at_b ((Go.Au.ntAll 5 b).getD 0 []) 0 (by omega))
  simp only [Nat.add_zero] at hc163
  refine T_loadGP (fun _ h => h) hc163 rfl rfl rfl rfl rfl rfl rfl ?_
  refine T_b2i rfl rfl rfl rfl rfl rfl rfl ?_
  refine T_loadGAP _ (fun _ h => h) (still_cells (hl144 _ _ r141)) rfl rfl rfl rfl rfl rfl rfl rfl (qV_sz (q_len (Go.Au.vS_len _) (Go.Au.vR_len _) rfl)) ?_
  refine T_loadGAP _ (fun _ h => h) (still_cells r145) rfl rfl rfl rfl rfl rfl rfl rfl (by first | rfl | simp [hVs, *]) ?_
  refine T_pev rfl rfl rfl rfl ?_
  refine T_pev rfl rfl rfl rfl ?_
  obtain ⟨hs167, r168, r169⟩ := (r6.mono (hl99.trans (hl127.trans (hl140.trans hl144))))
  refine T_idxR 4 r168 rfl rfl rfl rfl rfl rfl rfl rfl rfl (by omega) (by omega) fun b164 o165 hc166 => ?_
  obtain ⟨a172, c173, hc175, hv171, r174⟩ := r169.at 4 (by omega)
  have hc176 := hc166 0 (.slice a172 ((Go.Au.ntAll 5 b).getD 4 []).length c173) (by simpa using hv171)
  simp only [Nat.add_zero] at hc176
  refine T_loadG S146 hc176 rfl rfl rfl rfl rfl rfl rfl ?_
  have S177 := S146.nilRow 5 1
  refine T_appendS 0 (((Go.Au.ntAll 5 b).getD 4 []).length) (((Go.Au.ntAll 5 b).getD 4 []).map bV) S177 (fun _ h => ((Hp.le.refl _)).trans h) rfl rfl rfl rfl rfl rfl rfl rfl rfl rfl rfl rfl rfl rfl (r174.mono S177.le) (one_bV _) (by first | rfl | (simp; done) | (simp; omega) | omega) (by simp) (by unfold maxLen; omega) (by show _ * 1 ≤ _; omega) fun a178 c179 w180 hc181 S182 => ?_
  obtain ⟨G184, hl185, S183, r186⟩ := S182.stillRow 0 rfl
  refine T_buildS (cells := (gV [[.int .i64 ((((Go.Au.ntAll 5 b).getD 0 []).getD 0 0).toNat : Int)], [.int .i64 (Go.Au.vN ((Go.Au.ntAll 5 b).getD 1 []) 0)], [.int .i64 (Go.Au.vN ((Go.Au.ntAll 5 b).getD 1 []) 1)], [.int .i64 (Go.Au.vN ((Go.Au.ntAll 5 b).getD 1 []) 2)], [.int .i64 (Go.Au.vN ((Go.Au.ntAll 5 b).getD 1 []) 3)], (Go.Au.vS ((Go.Au.ntAll 5 b).getD 1 [])).map bV, (Go.Au.vR ((Go.Au.ntAll 5 b).getD 1 [])).map bV, [.int .i64 (Go.Au.sgH ((Go.Au.ntAll 5 b).getD 2 []))], [.int .i64 (Go.Au.sgL ((Go.Au.ntAll 5 b).getD 2 []))], [.slice a89 (Go.Au.sgV ((Go.Au.ntAll 5 b).getD 2 [])).length c90], [.slice a91 (Go.Au.sgP ((Go.Au.ntAll 5 b).getD 2 [])).length c92], [.slice a119 (Go.Au.hashN ((Go.Au.ntAll 5 b).getD 3 [])).length c120], [.slice a178 (((Go.Au.ntAll 5 b).getD 4 []).length) c179]] : Value).cells) rfl rfl rfl rfl rfl rfl (fill_g (L := [[.int .i64 0], [.int .i64 0], [.int .i64 0], [.int .i64 0], [.int .i64 0], (List.replicate 16 0).map bV, (List.replicate 32 0).map bV, [.int .i64 0], [.int .i64 0], [.slice none 0 0], [.slice none 0 0], [.slice none 0 0], [.slice none 0 0]]) (ns := [1, 1, 1, 1, 1, 16, 32, 1, 1, 1, 1, 1, 1]) (v := .int .i64 ((((Go.Au.ntAll 5 b).getD 0 []).getD 0 0).toNat : Int)) (off := 0) (k := 1) rfl (Shp.cons rfl (Shp.cons rfl (Shp.cons rfl (Shp.cons rfl (Shp.cons rfl (Shp.cons (lenB List.length_replicate) (Shp.cons (lenB List.length_replicate) (Shp.cons rfl (Shp.cons rfl (Shp.cons rfl (Shp.cons rfl (Shp.cons rfl (Shp.cons rfl Shp.nil))))))))))))) 0 1 [[.int .i64 ((((Go.Au.ntAll 5 b).getD 0 []).getD 0 0).toNat : Int)]] rfl (by first | rfl | simp [hVs, *]) rfl rfl (fill_g (L := [[.int .i64 ((((Go.Au.ntAll 5 b).getD 0 []).getD 0 0).toNat : Int)], [.int .i64 0], [.int .i64 0], [.int .i64 0], [.int .i64 0], (List.replicate 16 0).map bV, (List.replicate 32 0).map bV, [.int .i64 0], [.int .i64 0], [.slice none 0 0], [.slice none 0 0], [.slice none 0 0], [.slice none 0 0]]) (ns := [1, 1, 1, 1, 1, 16, 32, 1, 1, 1, 1, 1, 1]) (v := qV (Go.Au.vN ((Go.Au.ntAll 5 b).getD 1 []) 0) (Go.Au.vN ((Go.Au.ntAll 5 b).getD 1 []) 1) (Go.Au.vN ((Go.Au.ntAll 5 b).getD 1 []) 2) (Go.Au.vN ((Go.Au.ntAll 5 b).getD 1 []) 3) (Go.Au.vS ((Go.Au.ntAll 5 b).getD 1 [])) (Go.Au.vR ((Go.Au.ntAll 5 b).getD 1 []))) (off := 1) (k := 52) rfl (Shp.cons rfl (Shp.cons rfl (Shp.cons rfl (Shp.cons rfl (Shp.cons rfl (Shp.cons (lenB List.length_replicate) (Shp.cons (lenB List.length_replicate) (Shp.cons rfl (Shp.cons rfl (Shp.cons rfl (Shp.cons rfl (Shp.cons rfl (Shp.cons rfl Shp.nil))))))))))))) 1 6 [[.int .i64 (Go.Au.vN ((Go.Au.ntAll 5 b).getD 1 []) 0)], [.int .i64 (Go.Au.vN ((Go.Au.ntAll 5 b).getD 1 []) 1)], [.int .i64 (Go.Au.vN ((Go.Au.ntAll 5 b).getD 1 []) 2)], [.int .i64 (Go.Au.vN ((Go.Au.ntAll 5 b).getD 1 []) 3)], (Go.Au.vS ((Go.Au.ntAll 5 b).getD 1 [])).map bV, (Go.Au.vR ((Go.Au.ntAll 5 b).getD 1 [])).map bV] qV_flat (qV_sz (q_len (Go.Au.vS_len _) (Go.Au.vR_len _) rfl)) rfl rfl (fill_g (L := [[.int .i64 ((((Go.Au.ntAll 5 b).getD 0 []).getD 0 0).toNat : Int)], [.int .i64 (Go.Au.vN ((Go.Au.ntAll 5 b).getD 1 []) 0)], [.int .i64 (Go.Au.vN ((Go.Au.ntAll 5 b).getD 1 []) 1)], [.int .i64 (Go.Au.vN ((Go.Au.ntAll 5 b).getD 1 []) 2)], [.int .i64 (Go.Au.vN ((Go.Au.ntAll 5 b).getD 1 []) 3)], (Go.Au.vS ((Go.Au.ntAll 5 b).getD 1 [])).map bV, (Go.Au.vR ((Go.Au.ntAll 5 b).getD 1 [])).map bV, [.int .i64 0], [.int .i64 0], [.slice none 0 0], [.slice none 0 0], [.slice none 0 0], [.slice none 0 0]]) (ns := [1, 1, 1, 1, 1, 16, 32, 1, 1, 1, 1, 1, 1]) (v := .agg #[.int .i64 (Go.Au.sgH ((Go.Au.ntAll 5 b).getD 2 [])), .int .i64 (Go.Au.sgL ((Go.Au.ntAll 5 b).getD 2 [])), .slice a89 (Go.Au.sgV ((Go.Au.ntAll 5 b).getD 2 [])).length c90, .slice a91 (Go.Au.sgP ((Go.Au.ntAll 5 b).getD 2 [])).length c92]) (off := 53) (k := 4) rfl (Shp.cons rfl (Shp.cons rfl (Shp.cons rfl (Shp.cons rfl (Shp.cons rfl (Shp.cons (lenB (Go.Au.vS_len _)) (Shp.cons (lenB (Go.Au.vR_len _)) (Shp.cons rfl (Shp.cons rfl (Shp.cons rfl (Shp.cons rfl (Shp.cons rfl (Shp.cons rfl Shp.nil))))))))))))) 7 4 [[.int .i64 (Go.Au.sgH ((Go.Au.ntAll 5 b).getD 2 []))], [.int .i64 (Go.Au.sgL ((Go.Au.ntAll 5 b).getD 2 []))], [.slice a89 (Go.Au.sgV ((Go.Au.ntAll 5 b).getD 2 [])).length c90], [.slice a91 (Go.Au.sgP ((Go.Au.ntAll 5 b).getD 2 [])).length c92]] rfl (by first | rfl | simp [hVs, *]) rfl rfl (fill_g (L := [[.int .i64 ((((Go.Au.ntAll 5 b).getD 0 []).getD 0 0).toNat : Int)], [.int .i64 (Go.Au.vN ((Go.Au.ntAll 5 b).getD 1 []) 0)], [.int .i64 (Go.Au.vN ((Go.Au.ntAll 5 b).getD 1 []) 1)], [.int .i64 (Go.Au.vN ((Go.Au.ntAll 5 b).getD 1 []) 2)], [.int .i64 (Go.Au.vN ((Go.Au.ntAll 5 b).getD 1 []) 3)], (Go.Au.vS ((Go.Au.ntAll 5 b).getD 1 [])).map bV, (Go.Au.vR ((Go.Au.ntAll 5 b).getD 1 [])).map bV, [.int .i64 (Go.Au.sgH ((Go.Au.ntAll 5 b).getD 2 []))], [.int .i64 (Go.Au.sgL ((Go.Au.ntAll 5 b).getD 2 []))], [.slice a89 (Go.Au.sgV ((Go.Au.ntAll 5 b).getD 2 [])).length c90], [.slice a91 (Go.Au.sgP ((Go.Au.ntAll 5 b).getD 2 [])).length c92], [.slice none 0 0], [.slice none 0 0]]) (ns := [1, 1, 1, 1, 1, 16, 32, 1, 1, 1, 1, 1, 1]) (v := .slice a119 (Go.Au.hashN ((Go.Au.ntAll 5 b).getD 3 [])).length c120) (off := 57) (k := 1) rfl (Shp.cons rfl (Shp.cons rfl (Shp.cons rfl (Shp.cons rfl (Shp.cons rfl (Shp.cons (lenB (Go.Au.vS_len _)) (Shp.cons (lenB (Go.Au.vR_len _)) (Shp.cons rfl (Shp.cons rfl (Shp.cons rfl (Shp.cons rfl (Shp.cons rfl (Shp.cons rfl Shp.nil))))))))))))) 11 1 [[.slice a119 (Go.Au.hashN ((Go.Au.ntAll 5 b).getD 3 [])).length c120]] rfl (by first | rfl | simp [hVs, *]) rfl rfl (fill_g (L := [[.int .i64 ((((Go.Au.ntAll 5 b).getD 0 []).getD 0 0).toNat : Int)], [.int .i64 (Go.Au.vN ((Go.Au.ntAll 5 b).getD 1 []) 0)], [.int .i64 (Go.Au.vN ((Go.Au.ntAll 5 b).getD 1 []) 1)], [.int .i64 (Go.Au.vN ((Go.Au.ntAll 5 b).getD 1 []) 2)], [.int .i64 (Go.Au.vN ((Go.Au.ntAll 5 b).getD 1 []) 3)], (Go.Au.vS ((Go.Au.ntAll 5 b).getD 1 [])).map bV, (Go.Au.vR ((Go.Au.ntAll 5 b).getD 1 [])).map bV, [.int .i64 (Go.Au.sgH ((Go.Au.ntAll 5 b).getD 2 []))], [.int .i64 (Go.Au.sgL ((Go.Au.ntAll 5 b).getD 2 []))], [.slice a89 (Go.Au.sgV ((Go.Au.ntAll 5 b).getD 2 [])).length c90], [.slice a91 (Go.Au.sgP ((Go.Au.ntAll 5 b).getD 2 [])).length c92], [.slice a119 (Go.Au.hashN ((Go.Au.ntAll 5 b).getD 3 [])).length c120], [.slice none 0 0]]) (ns := [1, 1, 1, 1, 1, 16, 32, 1, 1, 1, 1, 1, 1]) (v := .slice a178 (((Go.Au.ntAll 5 b).getD 4 []).length) c179) (off := 58) (k := 1) rfl (Shp.cons rfl (Shp.cons rfl (Shp.cons rfl (Shp.cons rfl (Shp.cons rfl (Shp.cons (lenB (Go.Au.vS_len _)) (Shp.cons (lenB (Go.Au.vR_len _)) (Shp.cons rfl (Shp.cons rfl (Shp.cons rfl (Shp.cons rfl (Shp.cons rfl (Shp.cons rfl Shp.nil))))))))))))) 12 1 [[.slice a178 (((Go.Au.ntAll 5 b).getD 4 []).length) c179]] rfl (by first | rfl | simp [hVs, *]) rfl rfl fill_gnil))))) rfl rfl rfl ?_
  refine T_storeFS 0 S183 (fun _ h => (hl185).trans h) rfl rfl rfl rfl rfl rfl rfl rfl rfl (gV_size (L := [[.int .i64 ((((Go.Au.ntAll 5 b).getD 0 []).getD 0 0).toNat : Int)], [.int .i64 (Go.Au.vN ((Go.Au.ntAll 5 b).getD 1 []) 0)], [.int .i64 (Go.Au.vN ((Go.Au.ntAll 5 b).getD 1 []) 1)], [.int .i64 (Go.Au.vN ((Go.Au.ntAll 5 b).getD 1 []) 2)], [.int .i64 (Go.Au.vN ((Go.Au.ntAll 5 b).getD 1 []) 3)], (Go.Au.vS ((Go.Au.ntAll 5 b).getD 1 [])).map bV, (Go.Au.vR ((Go.Au.ntAll 5 b).getD 1 [])).map bV, [.int .i64 (Go.Au.sgH ((Go.Au.ntAll 5 b).getD 2 []))], [.int .i64 (Go.Au.sgL ((Go.Au.ntAll 5 b).getD 2 []))], [.slice a89 (Go.Au.sgV ((Go.Au.ntAll 5 b).getD 2 [])).length c90], [.slice a91 (Go.Au.sgP ((Go.Au.ntAll 5 b).getD 2 [])).length c92], [.slice a119 (Go.Au.hashN ((Go.Au.ntAll 5 b).getD 3 [])).length c120], [.slice a178 (((Go.Au.ntAll 5 b).getD 4 []).length) c179]]) (ns := [1, 1, 1, 1, 1, 16, 32, 1, 1, 1, 1, 1, 1]) (Shp.cons rfl (Shp.cons rfl (Shp.cons rfl (Shp.cons rfl (Shp.cons rfl (Shp.cons (lenB (Go.Au.vS_len _)) (Shp.cons (lenB (Go.Au.vR_len _)) (Shp.cons rfl (Shp.cons rfl (Shp.cons rfl (Shp.cons rfl (Shp.cons rfl (Shp.cons rfl Shp.nil))))))))))))) rfl) (gV_size (L := [[.int .i64 ((((Go.Au.ntAll 5 b).getD 0 []).getD 0 0).toNat : Int)], [.int .i64 (Go.Au.vN ((Go.Au.ntAll 5 b).getD 1 []) 0)], [.int .i64 (Go.Au.vN ((Go.Au.ntAll 5 b).getD 1 []) 1)], [.int .i64 (Go.Au.vN ((Go.Au.ntAll 5 b).getD 1 []) 2)], [.int .i64 (Go.Au.vN ((Go.Au.ntAll 5 b).getD 1 []) 3)], (Go.Au.vS ((Go.Au.ntAll 5 b).getD 1 [])).map bV, (Go.Au.vR ((Go.Au.ntAll 5 b).getD 1 [])).map bV, [.int .i64 (Go.Au.sgH ((Go.Au.ntAll 5 b).getD 2 []))], [.int .i64 (Go.Au.sgL ((Go.Au.ntAll 5 b).getD 2 []))], [.slice a89 (Go.Au.sgV ((Go.Au.ntAll 5 b).getD 2 [])).length c90], [.slice a91 (Go.Au.sgP ((Go.Au.ntAll 5 b).getD 2 [])).length c92], [.slice a119 (Go.Au.hashN ((Go.Au.ntAll 5 b).getD 3 [])).length c120], [.slice a178 (((Go.Au.ntAll 5 b).getD 4 []).length) c179]]) (ns := [1, 1, 1, 1, 1, 16, 32, 1, 1, 1, 1, 1, 1]) (Shp.cons rfl (Shp.cons rfl (Shp.cons rfl (Shp.cons rfl (Shp.cons rfl (Shp.cons (lenB (Go.Au.vS_len _)) (Shp.cons (lenB (Go.Au.vR_len _)) (Shp.cons rfl (Shp.cons rfl (Shp.cons rfl (Shp.cons rfl (Shp.cons rfl (Shp.cons rfl Shp.nil))))))))))))) rfl) (gV_one (OneL.one rfl (OneL.one rfl (OneL.one rfl (OneL.one rfl (OneL.one rfl (OneL.arr (OneL.arr (OneL.one rfl (OneL.one rfl (OneL.one rfl (OneL.one rfl (OneL.one rfl (OneL.one rfl OneL.nil)))))))))))))) fun w187 S188 => ?_
  refine T_pev rfl rfl rfl rfl ?_
  refine T_nil ?_
  refine W_ret ?_
  refine ⟨_, ⟨_, _, _, rfl, rfl, run_loadVarA rfl rfl (gV_size (L := [[.int .i64 ((((Go.Au.ntAll 5 b).getD 0 []).getD 0 0).toNat : Int)], [.int .i64 (Go.Au.vN ((Go.Au.ntAll 5 b).getD 1 []) 0)], [.int .i64 (Go.Au.vN ((Go.Au.ntAll 5 b).getD 1 []) 1)], [.int .i64 (Go.Au.vN ((Go.Au.ntAll 5 b).getD 1 []) 2)], [.int .i64 (Go.Au.vN ((Go.Au.ntAll 5 b).getD 1 []) 3)], (Go.Au.vS ((Go.Au.ntAll 5 b).getD 1 [])).map bV, (Go.Au.vR ((Go.Au.ntAll 5 b).getD 1 [])).map bV, [.int .i64 (Go.Au.sgH ((Go.Au.ntAll 5 b).getD 2 []))], [.int .i64 (Go.Au.sgL ((Go.Au.ntAll 5 b).getD 2 []))], [.slice a89 (Go.Au.sgV ((Go.Au.ntAll 5 b).getD 2 [])).length c90], [.slice a91 (Go.Au.sgP ((Go.Au.ntAll 5 b).getD 2 [])).length c92], [.slice a119 (Go.Au.hashN ((Go.Au.ntAll 5 b).getD 3 [])).length c120], [.slice a178 (((Go.Au.ntAll 5 b).getD 4 []).length) c179]]) (ns := [1, 1, 1, 1, 1, 16, 32, 1, 1, 1, 1, 1, 1]) (Shp.cons rfl (Shp.cons rfl (Shp.cons rfl (Shp.cons rfl (Shp.cons rfl (Shp.cons (lenB (Go.Au.vS_len _)) (Shp.cons (lenB (Go.Au.vR_len _)) (Shp.cons rfl (Shp.cons rfl (Shp.cons rfl (Shp.cons rfl (Shp.cons rfl (Shp.cons rfl Shp.nil))))))))))))) rfl) (S188.cells 0 rfl), ⟨_, _, rfl, rfl, rfl⟩⟩, ?_⟩
  exact pc_some HOK rfl (((r93.mono (hl127.trans (hl140.trans (hl144.trans hl185))))).mono S188.fin) (((r94.mono (hl127.trans (hl140.trans (hl144.trans hl185))))).mono S188.fin) (((r122.mono (hl140.trans (hl144.trans hl185)))).mono S188.fin) ((r186).mono S188.fin) S188.below


theorem pieceEq_ok {H : Hp} {w : World} (hH : H.le (hw w)) (pn va vb vc vd : Int) {vs vr : List UInt8} (hvs : vs.length = 16) (hvr : vr.length = 32) (sh sl : Int) {X Y Z : List (List UInt8)} {B : List UInt8} {a1 a2 a3 a4 : Option Addr} {n1 n2 n3 n4 c1 c2 c3 c4 : Nat} (h1 : RdH H (.slice a1 n1 c1) 32 X) (h2 : RdH H (.slice a2 n2 c2) 32 Y) (h3 : RdH H (.slice a3 n3 c3) 32 Z) (h4 : Rd H (.slice a4 n4 c4) n4 1 (B.map bV)) {a5 a6 a7 a8 : Option Addr} {n5 n6 n7 n8 c5 c6 c7 c8 : Nat} (h5 : RdH H (.slice a5 n5 c5) 32 X) (h6 : RdH H (.slice a6 n6 c6) 32 Y) (h7 : RdH H (.slice a7 n7 c7) 32 Z) (h8 : Rd H (.slice a8 n8 c8) n8 1 (B.map bV)) (hX : X.length ≤ 100000) (hY : Y.length ≤ 100000) (hZ : Z.length ≤ 100000) (hB : B.length ≤ 100000) :
    Calls Tryd.prog 39 #[gV [[.int .i64 pn], [.int .i64 va], [.int .i64 vb], [.int .i64 vc], [.int .i64 vd], vs.map bV, vr.map bV, [.int .i64 sh], [.int .i64 sl], [.slice a1 n1 c1], [.slice a2 n2 c2], [.slice a3 n3 c3], [.slice a4 n4 c4]], gV [[.int .i64 pn], [.int .i64 va], [.int .i64 vb], [.int .i64 vc], [.int .i64 vd], vs.map bV, vr.map bV, [.int .i64 sh], [.int .i64 sl], [.slice a5 n5 c5], [.slice a6 n6 c6], [.slice a7 n7 c7], [.slice a8 n8 c8]]] w fun e w' => e = .returned (.bool true) ∧ Below w.heap.size w w' := by
  obtain rfl : n1 = X.length := h1.len
  obtain rfl : n2 = Y.length := h2.len
  obtain rfl : n3 = Z.length := h3.len
  obtain rfl : n4 = B.length := h4.lenB
  obtain rfl : n5 = X.length := h5.len
  obtain rfl : n6 = Y.length := h6.len
  obtain rfl : n7 = Z.length := h7.len
  obtain rfl : n8 = B.length := h8.lenB
  refine enter2 _ Tryd.func39 rfl Tryd.ntmps39 Tryd.results39 rfl ?_
  have S0 := St.start w hH
  refine W_seq ?_
  refine W_region ?_
  refine T_boxS S0 (fun _ _ => trivial) rfl rfl rfl rfl rfl rfl fun b1 w2 S3 => ?_
  refine T_boxS S3 (fun _ _ => trivial) rfl rfl rfl rfl rfl rfl fun b4 w5 S6 => ?_
  refine T_pev rfl rfl rfl rfl ?_
  refine T_nil ?_
  refine W_seq ?_
  refine W_region ?_
  refine T_fldm 0 rfl rfl rfl rfl rfl rfl (by decide) rfl rfl rfl ?_
  refine T_loadS 1 0 S6 rfl rfl rfl rfl rfl rfl rfl rfl rfl (gV_cell (ns := [1, 1, 1, 1, 1, 16, 32, 1, 1, 1, 1, 1, 1]) (Shp.cons rfl (Shp.cons rfl (Shp.cons rfl (Shp.cons rfl (Shp.cons rfl (Shp.cons (lenB hvs) (Shp.cons (lenB hvr) (Shp.cons rfl (Shp.cons rfl (Shp.cons rfl (Shp.cons rfl (Shp.cons rfl (Shp.cons rfl Shp.nil))))))))))))) 0 rfl rfl) ?_
  refine T_fldm 0 rfl rfl rfl rfl rfl rfl (by decide) rfl rfl rfl ?_
  refine T_loadS 0 0 S6 rfl rfl rfl rfl rfl rfl rfl rfl rfl (gV_cell (ns := [1, 1, 1, 1, 1, 16, 32, 1, 1, 1, 1, 1, 1]) (Shp.cons rfl (Shp.cons rfl (Shp.cons rfl (Shp.cons rfl (Shp.cons rfl (Shp.cons (lenB hvs) (Shp.cons (lenB hvr) (Shp.cons rfl (Shp.cons rfl (Shp.cons rfl (Shp.cons rfl (Shp.cons rfl (Shp.cons rfl Shp.nil))))))))))))) 0 rfl rfl) ?_
  refine T_pev rfl rfl rfl rfl ?_
  refine T_pev rfl rfl rfl rfl ?_
  refine T_bool 10 true rfl (decide_eq_true rfl) ?_
  refine T_yes rfl rfl rfl ?_ rfl
  refine T_fldm 1 rfl rfl rfl rfl rfl rfl (by decide) rfl rfl rfl ?_
  refine T_yes rfl rfl rfl ?_ rfl
  refine T_loadAS (qV va vb vc vd vs vr : Value).cells 1 S6 rfl rfl rfl rfl rfl rfl rfl rfl rfl (qV_sz (q_len hvs hvr rfl)) (gV_sub (ns := [1, 1, 1, 1, 1, 16, 32, 1, 1, 1, 1, 1, 1]) (Shp.cons rfl (Shp.cons rfl (Shp.cons rfl (Shp.cons rfl (Shp.cons rfl (Shp.cons (lenB hvs) (Shp.cons (lenB hvr) (Shp.cons rfl (Shp.cons rfl (Shp.cons rfl (Shp.cons rfl (Shp.cons rfl (Shp.cons rfl Shp.nil))))))))))))) 1 6 (c := (qV va vb vc vd vs vr : Value).cells.toList) (qV_flat) rfl) ?_
  refine T_yes rfl rfl rfl ?_ rfl
  refine T_fldm 1 rfl rfl rfl rfl rfl rfl (by decide) rfl rfl rfl ?_
  refine T_yes rfl rfl rfl ?_ rfl
  refine T_loadAS (qV va vb vc vd vs vr : Value).cells 0 S6 rfl rfl rfl rfl rfl rfl rfl rfl rfl (qV_sz (q_len hvs hvr rfl)) (gV_sub (ns := [1, 1, 1, 1, 1, 16, 32, 1, 1, 1, 1, 1, 1]) (Shp.cons rfl (Shp.cons rfl (Shp.cons rfl (Shp.cons rfl (Shp.cons rfl (Shp.cons (lenB hvs) (Shp.cons (lenB hvr) (Shp.cons rfl (Shp.cons rfl (Shp.cons rfl (Shp.cons rfl (Shp.cons rfl (Shp.cons rfl Shp.nil))))))))))))) 1 6 (c := (qV va vb vc vd vs vr : Value).cells.toList) (qV_flat) rfl) ?_
  refine T_yes rfl rfl rfl ?_ rfl
  refine T_eqQ rfl rfl rfl rfl (by kernel_rfl) rfl rfl rfl rfl rfl rfl rfl rfl rfl rfl rfl rfl rfl rfl rfl rfl rfl rfl rfl (by kernel_rfl) (by kernel_rfl) rfl rfl rfl hvs hvs hvr hvr ?_
  refine T_pev rfl rfl rfl rfl ?_
  refine T_pev rfl rfl rfl rfl ?_
  refine T_bool 17 true rfl (decide_eq_true (by exact ⟨rfl, rfl, rfl, rfl, rfl, rfl⟩)) ?_
  refine T_yes rfl rfl rfl ?_ rfl
  refine T_fldm 53 rfl rfl rfl rfl rfl rfl (by decide) rfl rfl rfl ?_
  refine T_yes rfl rfl rfl ?_ rfl
  refine T_loadAS (.agg #[.int .i64 sh, .int .i64 sl, .slice a1 X.length c1, .slice a2 Y.length c2] : Value).cells 1 S6 rfl rfl rfl rfl rfl rfl rfl rfl rfl (by first | rfl | simp [hVs, *]) (gV_sub (ns := [1, 1, 1, 1, 1, 16, 32, 1, 1, 1, 1, 1, 1]) (Shp.cons rfl (Shp.cons rfl (Shp.cons rfl (Shp.cons rfl (Shp.cons rfl (Shp.cons (lenB hvs) (Shp.cons (lenB hvr) (Shp.cons rfl (Shp.cons rfl (Shp.cons rfl (Shp.cons rfl (Shp.cons rfl (Shp.cons rfl Shp.nil))))))))))))) 7 4 (c := [.int .i64 sh, .int .i64 sl, .slice a1 X.length c1, .slice a2 Y.length c2]) (rfl) rfl) ?_
  refine T_yes rfl rfl rfl ?_ rfl
  refine T_fldm 53 rfl rfl rfl rfl rfl rfl (by decide) rfl rfl rfl ?_
  refine T_yes rfl rfl rfl ?_ rfl
  refine T_loadAS (.agg #[.int .i64 sh, .int .i64 sl, .slice a5 X.length c5, .slice a6 Y.length c6] : Value).cells 0 S6 rfl rfl rfl rfl rfl rfl rfl rfl rfl (by first | rfl | simp [hVs, *]) (gV_sub (ns := [1, 1, 1, 1, 1, 16, 32, 1, 1, 1, 1, 1, 1]) (Shp.cons rfl (Shp.cons rfl (Shp.cons rfl (Shp.cons rfl (Shp.cons rfl (Shp.cons (lenB hvs) (Shp.cons (lenB hvr) (Shp.cons rfl (Shp.cons rfl (Shp.cons rfl (Shp.cons rfl (Shp.cons rfl (Shp.cons rfl Shp.nil))))))))))))) 7 4 (c := [.int .i64 sh, .int .i64 sl, .slice a5 X.length c5, .slice a6 Y.length c6]) (rfl) rfl) ?_
  refine T_yes rfl rfl rfl ?_ rfl
  refine T_callS rfl rfl g_aumbry_aumbrykeep_Sig rfl rfl rfl rfl ((keepSig_ok S6.le sh sl h1 h2 h5 h6 (by omega) (by omega)).mono ?_)
  rintro e w8 ⟨rfl, hB7⟩
  have S9 := S6.call hB7
  refine ⟨_, rfl, trivial, ?_⟩
  refine T_pev rfl rfl rfl rfl ?_
  refine T_pev rfl rfl rfl rfl ?_
  refine T_yes rfl rfl rfl ?_ rfl
  refine T_fldm 57 rfl rfl rfl rfl rfl rfl (by decide) rfl rfl rfl ?_
  refine T_yes rfl rfl rfl ?_ rfl
  refine T_loadS 1 57 S9 rfl rfl rfl rfl rfl rfl rfl rfl rfl (gV_cell (ns := [1, 1, 1, 1, 1, 16, 32, 1, 1, 1, 1, 1, 1]) (Shp.cons rfl (Shp.cons rfl (Shp.cons rfl (Shp.cons rfl (Shp.cons rfl (Shp.cons (lenB hvs) (Shp.cons (lenB hvr) (Shp.cons rfl (Shp.cons rfl (Shp.cons rfl (Shp.cons rfl (Shp.cons rfl (Shp.cons rfl Shp.nil))))))))))))) 11 rfl rfl) ?_
  refine T_yes rfl rfl rfl ?_ rfl
  refine T_fldm 57 rfl rfl rfl rfl rfl rfl (by decide) rfl rfl rfl ?_
  refine T_yes rfl rfl rfl ?_ rfl
  refine T_loadS 0 57 S9 rfl rfl rfl rfl rfl rfl rfl rfl rfl (gV_cell (ns := [1, 1, 1, 1, 1, 16, 32, 1, 1, 1, 1, 1, 1]) (Shp.cons rfl (Shp.cons rfl (Shp.cons rfl (Shp.cons rfl (Shp.cons rfl (Shp.cons (lenB hvs) (Shp.cons (lenB hvr) (Shp.cons rfl (Shp.cons rfl (Shp.cons rfl (Shp.cons rfl (Shp.cons rfl (Shp.cons rfl Shp.nil))))))))))))) 11 rfl rfl) ?_
  refine T_yes rfl rfl rfl ?_ rfl
  refine T_callS rfl rfl g_aumbry_aumbrykeep_Same_aumbry_api_Hash rfl rfl rfl rfl ((sameH_ok S9.le h3 h7 (by first | omega | (simp; done) | (simp only [List.length_take, List.length_drop]; omega))).mono ?_)
  rintro e w11 ⟨rfl, hB10⟩
  have S12 := S9.call hB10
  refine ⟨_, rfl, trivial, ?_⟩
  refine T_pev rfl rfl rfl rfl ?_
  refine T_pev rfl rfl rfl rfl ?_
  refine T_bool 31 true rfl (decide_eq_true rfl) ?_
  refine T_yes rfl rfl rfl ?_ rfl
  refine T_fldm 58 rfl rfl rfl rfl rfl rfl (by decide) rfl rfl rfl ?_
  refine T_yes rfl rfl rfl ?_ rfl
  refine T_loadS 1 58 S12 rfl rfl rfl rfl rfl rfl rfl rfl rfl (gV_cell (ns := [1, 1, 1, 1, 1, 16, 32, 1, 1, 1, 1, 1, 1]) (Shp.cons rfl (Shp.cons rfl (Shp.cons rfl (Shp.cons rfl (Shp.cons rfl (Shp.cons (lenB hvs) (Shp.cons (lenB hvr) (Shp.cons rfl (Shp.cons rfl (Shp.cons rfl (Shp.cons rfl (Shp.cons rfl (Shp.cons rfl Shp.nil))))))))))))) 12 rfl rfl) ?_
  refine T_yes rfl rfl rfl ?_ rfl
  refine T_fldm 58 rfl rfl rfl rfl rfl rfl (by decide) rfl rfl rfl ?_
  refine T_yes rfl rfl rfl ?_ rfl
  refine T_loadS 0 58 S12 rfl rfl rfl rfl rfl rfl rfl rfl rfl (gV_cell (ns := [1, 1, 1, 1, 1, 16, 32, 1, 1, 1, 1, 1, 1]) (Shp.cons rfl (Shp.cons rfl (Shp.cons rfl (Shp.cons rfl (Shp.cons rfl (Shp.cons (lenB hvs) (Shp.cons (lenB hvr) (Shp.cons rfl (Shp.cons rfl (Shp.cons rfl (Shp.cons rfl (Shp.cons rfl (Shp.cons rfl Shp.nil))))))))))))) 12 rfl rfl) ?_
  refine T_yes rfl rfl rfl ?_ rfl
  refine T_callS rfl rfl g_aumbry_aumbrykeep_Same_byte rfl rfl rfl rfl ((sameB_ok S12.le h4 h8 (by first | omega | (simp; done) | (simp only [List.length_take, List.length_drop]; omega))).mono ?_)
  rintro e w14 ⟨rfl, hB13⟩
  have S15 := S12.call hB13
  refine ⟨_, rfl, trivial, ?_⟩
  refine T_pev rfl rfl rfl rfl ?_
  refine T_pev rfl rfl rfl rfl ?_
  refine T_nil ?_
  refine W_ret ?_
  refine ⟨_, ⟨_, _, rfl, rfl, rfl⟩, ?_⟩
  exact ⟨congrArg (fun z => Ending.returned (Value.bool z)) (by first | rfl | exact decide_eq_true rfl), S15.below⟩


theorem cutBq {l : List UInt8} {a : Option Addr} {c : Nat} (k : Nat) (hc : l.length ≤ c) (u : World) :
    Calls Tryd.prog 9 #[.slice a l.length c, .int .i64 ((k : Nat) : Int)] u fun e w' => e = .returned (.slice (cutA a c 1) (l.take k).length c) ∧ w' = u := by
  have e : (l.take k).length = min k l.length := List.length_take
  refine enter2 _ Tryd.func9 rfl Tryd.ntmps9 Tryd.results9 rfl ?_
  refine W_seq ?_
  refine W_region ?_
  refine T_pev rfl rfl rfl rfl ?_
  refine T_nil ?_
  refine W_seq ?_
  refine W_region ?_
  refine T_pev rfl rfl rfl rfl ?_
  refine T_pev rfl rfl rfl rfl ?_
  refine T_pev rfl rfl rfl rfl ?_
  refine T_pev rfl rfl rfl rfl ?_
  refine T_pev rfl rfl rfl rfl ?_
  refine T_sliceHi ((l.take k).length) rfl rfl rfl rfl rfl rfl rfl rfl rfl (by omega) (by omega) hc ?_
  refine T_pev rfl rfl rfl rfl ?_
  refine T_nil ?_
  refine W_ret ?_
  exact ⟨_, ⟨_, _, rfl, rfl, rfl⟩, rfl, rfl⟩


theorem cutHq {l : List (List UInt8)} {a : Option Addr} {c : Nat} (k : Nat) (hc : l.length ≤ c) (u : World) :
    Calls Tryd.prog 62 #[.slice a l.length c, .int .i64 ((k : Nat) : Int)] u fun e w' => e = .returned (.slice (cutA a c 32) (l.take k).length c) ∧ w' = u := by
  have e : (l.take k).length = min k l.length := List.length_take
  refine enter2 _ Tryd.func62 rfl Tryd.ntmps62 Tryd.results62 rfl ?_
  refine W_seq ?_
  refine W_region ?_
  refine T_pev rfl rfl rfl rfl ?_
  refine T_nil ?_
  refine W_seq ?_
  refine W_region ?_
  refine T_pev rfl rfl rfl rfl ?_
  refine T_pev rfl rfl rfl rfl ?_
  refine T_pev rfl rfl rfl rfl ?_
  refine T_pev rfl rfl rfl rfl ?_
  refine T_pev rfl rfl rfl rfl ?_
  refine T_sliceHi ((l.take k).length) rfl rfl rfl rfl rfl rfl rfl rfl rfl (by omega) (by omega) hc ?_
  refine T_pev rfl rfl rfl rfl ?_
  refine T_nil ?_
  refine W_ret ?_
  exact ⟨_, ⟨_, _, rfl, rfl, rfl⟩, rfl, rfl⟩


theorem cutPiece_ok {H : Hp} {w : World} (hH : H.le (hw w)) (pn va vb vc vd : Int) {vs vr : List UInt8} (hvs : vs.length = 16) (hvr : vr.length = 32) (sh sl : Int) {X Y Z : List (List UInt8)} {B : List UInt8} {a1 a2 a3 a4 : Option Addr} {n1 n2 n3 n4 c1 c2 c3 c4 : Nat} (h1 : RdH H (.slice a1 n1 c1) 32 X) (h2 : RdH H (.slice a2 n2 c2) 32 Y) (h3 : RdH H (.slice a3 n3 c3) 32 Z) (h4 : Rd H (.slice a4 n4 c4) n4 1 (B.map bV)) :
    Calls Tryd.prog 34 #[gV [[.int .i64 pn], [.int .i64 va], [.int .i64 vb], [.int .i64 vc], [.int .i64 vd], vs.map bV, vr.map bV, [.int .i64 sh], [.int .i64 sl], [.slice a1 n1 c1], [.slice a2 n2 c2], [.slice a3 n3 c3], [.slice a4 n4 c4]]] w fun e w' => ∃ a1 c1 a2 c2 a3 c3 a4 c4, e = .returned (gV [[.int .i64 pn], [.int .i64 va], [.int .i64 vb], [.int .i64 vc], [.int .i64 vd], vs.map bV, vr.map bV, [.int .i64 sh], [.int .i64 sl], [.slice a1 (X.take 70).length c1], [.slice a2 (Y.take 6).length c2], [.slice a3 (Z.take 6).length c3], [.slice a4 (B.take 100).length c4]]) ∧ RdH (F.ext H w.heap.size w') (.slice a1 (X.take 70).length c1) 32 (X.take 70) ∧ RdH (F.ext H w.heap.size w') (.slice a2 (Y.take 6).length c2) 32 (Y.take 6) ∧ RdH (F.ext H w.heap.size w') (.slice a3 (Z.take 6).length c3) 32 (Z.take 6) ∧ Rd (F.ext H w.heap.size w') (.slice a4 (B.take 100).length c4) (B.take 100).length 1 ((B.take 100).map bV) ∧ Below w.heap.size w w' := by
  obtain rfl : n1 = X.length := h1.len
  obtain rfl : n2 = Y.length := h2.len
  obtain rfl : n3 = Z.length := h3.len
  obtain rfl : n4 = B.length := h4.lenB
  refine enter1 _ Tryd.func34 rfl Tryd.ntmps34 Tryd.results34 rfl ?_
  have S0 := St.start w hH
  refine W_seq ?_
  refine W_region ?_
  refine T_boxS S0 (fun _ _ => trivial) rfl rfl rfl rfl rfl rfl fun b1 w2 S3 => ?_
  refine T_allocS S3 (fun _ _ => trivial) rfl rfl rfl rfl rfl rfl rfl fun b4 w5 S6 => ?_
  refine T_nil ?_
  refine W_seq ?_
  refine W_plan (planF Tryd.prog H [6, 10, 13, 16]) rfl (by kernel_rfl) S6.le ?_
  have S7 := S6.drew
  refine T_fldm 53 rfl rfl rfl rfl rfl rfl (by decide) rfl rfl rfl ?_
  refine T_fldm 55 rfl rfl rfl rfl rfl rfl (by decide) rfl rfl rfl ?_
  refine T_loadS 1 55 S7 rfl rfl rfl rfl rfl rfl rfl rfl rfl (gV_cell (ns := [1, 1, 1, 1, 1, 16, 32, 1, 1, 1, 1, 1, 1]) (Shp.cons rfl (Shp.cons rfl (Shp.cons rfl (Shp.cons rfl (Shp.cons rfl (Shp.cons (lenB hvs) (Shp.cons (lenB hvr) (Shp.cons rfl (Shp.cons rfl (Shp.cons rfl (Shp.cons rfl (Shp.cons rfl (Shp.cons rfl Shp.nil))))))))))))) 9 rfl rfl) ?_
  refine T_callQ rfl rfl g_aumbry_aumbrykeep_Cut_aumbry_api_Hash (by kernel_rfl) rfl rfl rfl rfl (fun u => cutHq (l := X) 70 (h1.2.capOf) u) ?_
  have r8 := (h1).takeA (k := 70)
  refine T_fldm 53 rfl rfl rfl rfl rfl rfl (by decide) rfl rfl rfl ?_
  refine T_fldm 56 rfl rfl rfl rfl rfl rfl (by decide) rfl rfl rfl ?_
  refine T_loadS 1 56 S7 rfl rfl rfl rfl rfl rfl rfl rfl rfl (gV_cell (ns := [1, 1, 1, 1, 1, 16, 32, 1, 1, 1, 1, 1, 1]) (Shp.cons rfl (Shp.cons rfl (Shp.cons rfl (Shp.cons rfl (Shp.cons rfl (Shp.cons (lenB hvs) (Shp.cons (lenB hvr) (Shp.cons rfl (Shp.cons rfl (Shp.cons rfl (Shp.cons rfl (Shp.cons rfl (Shp.cons rfl Shp.nil))))))))))))) 10 rfl rfl) ?_
  refine T_callQ rfl rfl g_aumbry_aumbrykeep_Cut_aumbry_api_Hash (by kernel_rfl) rfl rfl rfl rfl (fun u => cutHq (l := Y) 6 (h2.2.capOf) u) ?_
  have r9 := (h2).takeA (k := 6)
  refine T_fldm 57 rfl rfl rfl rfl rfl rfl (by decide) rfl rfl rfl ?_
  refine T_loadS 1 57 S7 rfl rfl rfl rfl rfl rfl rfl rfl rfl (gV_cell (ns := [1, 1, 1, 1, 1, 16, 32, 1, 1, 1, 1, 1, 1]) (Shp.cons rfl (Shp.cons rfl (Shp.cons rfl (Shp.cons rfl (Shp.cons rfl (Shp.cons (lenB hvs) (Shp.cons (lenB hvr) (Shp.cons rfl (Shp.cons rfl (Shp.cons rfl (Shp.cons rfl (Shp.cons rfl (Shp.cons rfl Shp.nil))))))))))))) 11 rfl rfl) ?_
  refine T_callQ rfl rfl g_aumbry_aumbrykeep_Cut_aumbry_api_Hash (by kernel_rfl) rfl rfl rfl rfl (fun u => cutHq (l := Z) 6 (h3.2.capOf) u) ?_
  have r10 := (h3).takeA (k := 6)
  refine T_fldm 58 rfl rfl rfl rfl rfl rfl (by decide) rfl rfl rfl ?_
  refine T_loadS 1 58 S7 rfl rfl rfl rfl rfl rfl rfl rfl rfl (gV_cell (ns := [1, 1, 1, 1, 1, 16, 32, 1, 1, 1, 1, 1, 1]) (Shp.cons rfl (Shp.cons rfl (Shp.cons rfl (Shp.cons rfl (Shp.cons rfl (Shp.cons (lenB hvs) (Shp.cons (lenB hvr) (Shp.cons rfl (Shp.cons rfl (Shp.cons rfl (Shp.cons rfl (Shp.cons rfl (Shp.cons rfl Shp.nil))))))))))))) 12 rfl rfl) ?_
  refine T_callQ rfl rfl g_aumbry_aumbrykeep_Cut_byte (by kernel_rfl) rfl rfl rfl rfl (fun u => cutBq (l := B) 100 (h4.capOf) u) ?_
  have r11 := (h4).takeB (k := 100)
  refine T_fldm 53 rfl rfl rfl rfl rfl rfl (by decide) rfl rfl rfl ?_
  refine T_fldm 55 rfl rfl rfl rfl rfl rfl (by decide) rfl rfl rfl ?_
  refine T_store1S 1 55 S7 (fun _ h => ((Hp.le.refl _)).trans h) rfl rfl rfl rfl rfl rfl rfl rfl rfl rfl rfl rfl (Nat.lt_of_lt_of_eq (show 55 < 59 by decide) (gV_size (L := [[.int .i64 pn], [.int .i64 va], [.int .i64 vb], [.int .i64 vc], [.int .i64 vd], vs.map bV, vr.map bV, [.int .i64 sh], [.int .i64 sl], [.slice a1 X.length c1], [.slice a2 Y.length c2], [.slice a3 Z.length c3], [.slice a4 B.length c4]]) (ns := [1, 1, 1, 1, 1, 16, 32, 1, 1, 1, 1, 1, 1]) (Shp.cons rfl (Shp.cons rfl (Shp.cons rfl (Shp.cons rfl (Shp.cons rfl (Shp.cons (lenB hvs) (Shp.cons (lenB hvr) (Shp.cons rfl (Shp.cons rfl (Shp.cons rfl (Shp.cons rfl (Shp.cons rfl (Shp.cons rfl Shp.nil))))))))))))) rfl).symm) fun w12 S13 => ?_
  have S14 := S13.re 1 rfl (show (gV [[.int .i64 pn], [.int .i64 va], [.int .i64 vb], [.int .i64 vc], [.int .i64 vd], vs.map bV, vr.map bV, [.int .i64 sh], [.int .i64 sl], [.slice a1 X.length c1], [.slice a2 Y.length c2], [.slice a3 Z.length c3], [.slice a4 B.length c4]] : Value).cells.setIfInBounds 55 (.slice (cutA a1 c1 32) (X.take 70).length c1) = (gV [[.int .i64 pn], [.int .i64 va], [.int .i64 vb], [.int .i64 vc], [.int .i64 vd], vs.map bV, vr.map bV, [.int .i64 sh], [.int .i64 sl], [.slice (cutA a1 c1 32) (X.take 70).length c1], [.slice a2 Y.length c2], [.slice a3 Z.length c3], [.slice a4 B.length c4]] : Value).cells from gV_set (ns := [1, 1, 1, 1, 1, 16, 32, 1, 1, 1, 1, 1, 1]) (Shp.cons rfl (Shp.cons rfl (Shp.cons rfl (Shp.cons rfl (Shp.cons rfl (Shp.cons (lenB hvs) (Shp.cons (lenB hvr) (Shp.cons rfl (Shp.cons rfl (Shp.cons rfl (Shp.cons rfl (Shp.cons rfl (Shp.cons rfl Shp.nil))))))))))))) 9 _ rfl rfl)
  refine T_fldm 53 rfl rfl rfl rfl rfl rfl (by decide) rfl rfl rfl ?_
  refine T_fldm 56 rfl rfl rfl rfl rfl rfl (by decide) rfl rfl rfl ?_
  refine T_store1S 1 56 S14 (fun _ h => ((Hp.le.refl _)).trans h) rfl rfl rfl rfl rfl rfl rfl rfl rfl rfl rfl rfl (Nat.lt_of_lt_of_eq (show 56 < 59 by decide) (gV_size (L := [[.int .i64 pn], [.int .i64 va], [.int .i64 vb], [.int .i64 vc], [.int .i64 vd], vs.map bV, vr.map bV, [.int .i64 sh], [.int .i64 sl], [.slice (cutA a1 c1 32) (X.take 70).length c1], [.slice a2 Y.length c2], [.slice a3 Z.length c3], [.slice a4 B.length c4]]) (ns := [1, 1, 1, 1, 1, 16, 32, 1, 1, 1, 1, 1, 1]) (Shp.cons rfl (Shp.cons rfl (Shp.cons rfl (Shp.cons rfl (Shp.cons rfl (Shp.cons (lenB hvs) (Shp.cons (lenB hvr) (Shp.cons rfl (Shp.cons rfl (Shp.cons rfl (Shp.cons rfl (Shp.cons rfl (Shp.cons rfl Shp.nil))))))))))))) rfl).symm) fun w15 S16 => ?_
  have S17 := S16.re 1 rfl (show (gV [[.int .i64 pn], [.int .i64 va], [.int .i64 vb], [.int .i64 vc], [.int .i64 vd], vs.map bV, vr.map bV, [.int .i64 sh], [.int .i64 sl], [.slice (cutA a1 c1 32) (X.take 70).length c1], [.slice a2 Y.length c2], [.slice a3 Z.length c3], [.slice a4 B.length c4]] : Value).cells.setIfInBounds 56 (.slice (cutA a2 c2 32) (Y.take 6).length c2) = (gV [[.int .i64 pn], [.int .i64 va], [.int .i64 vb], [.int .i64 vc], [.int .i64 vd], vs.map bV, vr.map bV, [.int .i64 sh], [.int .i64 sl], [.slice (cutA a1 c1 32) (X.take 70).length c1], [.slice (cutA a2 c2 32) (Y.take 6).length c2], [.slice a3 Z.length c3], [.slice a4 B.length c4]] : Value).cells from gV_set (ns := [1, 1, 1, 1, 1, 16, 32, 1, 1, 1, 1, 1, 1]) (Shp.cons rfl (Shp.cons rfl (Shp.cons rfl (Shp.cons rfl (Shp.cons rfl (Shp.cons (lenB hvs) (Shp.cons (lenB hvr) (Shp.cons rfl (Shp.cons rfl (Shp.cons rfl (Shp.cons rfl (Shp.cons rfl (Shp.cons rfl Shp.nil))))))))))))) 10 _ rfl rfl)
  refine T_fldm 57 rfl rfl rfl rfl rfl rfl (by decide) rfl rfl rfl ?_
  refine T_store1S 1 57 S17 (fun _ h => ((Hp.le.refl _)).trans h) rfl rfl rfl rfl rfl rfl rfl rfl rfl rfl rfl rfl (Nat.lt_of_lt_of_eq (show 57 < 59 by decide) (gV_size (L := [[.int .i64 pn], [.int .i64 va], [.int .i64 vb], [.int .i64 vc], [.int .i64 vd], vs.map bV, vr.map bV, [.int .i64 sh], [.int .i64 sl], [.slice (cutA a1 c1 32) (X.take 70).length c1], [.slice (cutA a2 c2 32) (Y.take 6).length c2], [.slice a3 Z.length c3], [.slice a4 B.length c4]]) (ns := [1, 1, 1, 1, 1, 16, 32, 1, 1, 1, 1, 1, 1]) (Shp.cons rfl (Shp.cons rfl (Shp.cons rfl (Shp.cons rfl (Shp.cons rfl (Shp.cons (lenB hvs) (Shp.cons (lenB hvr) (Shp.cons rfl (Shp.cons rfl (Shp.cons rfl (Shp.cons rfl (Shp.cons rfl (Shp.cons rfl Shp.nil))))))))))))) rfl).symm) fun w18 S19 => ?_
  have S20 := S19.re 1 rfl (show (gV [[.int .i64 pn], [.int .i64 va], [.int .i64 vb], [.int .i64 vc], [.int .i64 vd], vs.map bV, vr.map bV, [.int .i64 sh], [.int .i64 sl], [.slice (cutA a1 c1 32) (X.take 70).length c1], [.slice (cutA a2 c2 32) (Y.take 6).length c2], [.slice a3 Z.length c3], [.slice a4 B.length c4]] : Value).cells.setIfInBounds 57 (.slice (cutA a3 c3 32) (Z.take 6).length c3) = (gV [[.int .i64 pn], [.int .i64 va], [.int .i64 vb], [.int .i64 vc], [.int .i64 vd], vs.map bV, vr.map bV, [.int .i64 sh], [.int .i64 sl], [.slice (cutA a1 c1 32) (X.take 70).length c1], [.slice (cutA a2 c2 32) (Y.take 6).length c2], [.slice (cutA a3 c3 32) (Z.take 6).length c3], [.slice a4 B.length c4]] : Value).cells from gV_set (ns := [1, 1, 1, 1, 1, 16, 32, 1, 1, 1, 1, 1, 1]) (Shp.cons rfl (Shp.cons rfl (Shp.cons rfl (Shp.cons rfl (Shp.cons rfl (Shp.cons (lenB hvs) (Shp.cons (lenB hvr) (Shp.cons rfl (Shp.cons rfl (Shp.cons rfl (Shp.cons rfl (Shp.cons rfl (Shp.cons rfl Shp.nil))))))))))))) 11 _ rfl rfl)
  refine T_fldm 58 rfl rfl rfl rfl rfl rfl (by decide) rfl rfl rfl ?_
  refine T_store1S 1 58 S20 (fun _ h => ((Hp.le.refl _)).trans h) rfl rfl rfl rfl rfl rfl rfl rfl rfl rfl rfl rfl (Nat.lt_of_lt_of_eq (show 58 < 59 by decide) (gV_size (L := [[.int .i64 pn], [.int .i64 va], [.int .i64 vb], [.int .i64 vc], [.int .i64 vd], vs.map bV, vr.map bV, [.int .i64 sh], [.int .i64 sl], [.slice (cutA a1 c1 32) (X.take 70).length c1], [.slice (cutA a2 c2 32) (Y.take 6).length c2], [.slice (cutA a3 c3 32) (Z.take 6).length c3], [.slice a4 B.length c4]]) (ns := [1, 1, 1, 1, 1, 16, 32, 1, 1, 1, 1, 1, 1]) (Shp.cons rfl (Shp.cons rfl (Shp.cons rfl (Shp.cons rfl (Shp.cons rfl (Shp.cons (lenB hvs) (Shp.cons (lenB hvr) (Shp.cons rfl (Shp.cons rfl (Shp.cons rfl (Shp.cons rfl (Shp.cons rfl (Shp.cons rfl Shp.nil))))))))))))) rfl).symm) fun w21 S22 => ?_
  have S23 := S22.re 1 rfl (show (gV [[.int .i64 pn], [.int .i64 va], [.int .i64 vb], [.int .i64 vc], [.int .i64 vd], vs.map bV, vr.map bV, [.int .i64 sh], [.int .i64 sl], [.slice (cutA a1 c1 32) (X.take 70).length c1], [.slice (cutA a2 c2 32) (Y.take 6).length c2], [.slice (cutA a3 c3 32) (Z.take 6).length c3], [.slice a4 B.length c4]] : Value).cells.setIfInBounds 58 (.slice (cutA a4 c4 1) (B.take 100).length c4) = (gV [[.int .i64 pn], [.int .i64 va], [.int .i64 vb], [.int .i64 vc], [.int .i64 vd], vs.map bV, vr.map bV, [.int .i64 sh], [.int .i64 sl], [.slice (cutA a1 c1 32) (X.take 70).length c1], [.slice (cutA a2 c2 32) (Y.take 6).length c2], [.slice (cutA a3 c3 32) (Z.take 6).length c3], [.slice (cutA a4 c4 1) (B.take 100).length c4]] : Value).cells from gV_set (ns := [1, 1, 1, 1, 1, 16, 32, 1, 1, 1, 1, 1, 1]) (Shp.cons rfl (Shp.cons rfl (Shp.cons rfl (Shp.cons rfl (Shp.cons rfl (Shp.cons (lenB hvs) (Shp.cons (lenB hvr) (Shp.cons rfl (Shp.cons rfl (Shp.cons rfl (Shp.cons rfl (Shp.cons rfl (Shp.cons rfl Shp.nil))))))))))))) 12 _ rfl rfl)
  refine T_nil ?_
  refine W_seq ?_
  refine W_region ?_
  refine T_loadFS 1 S23 rfl rfl rfl rfl rfl rfl rfl rfl rfl (gV_size (L := [[.int .i64 pn], [.int .i64 va], [.int .i64 vb], [.int .i64 vc], [.int .i64 vd], vs.map bV, vr.map bV, [.int .i64 sh], [.int .i64 sl], [.slice (cutA a1 c1 32) (X.take 70).length c1], [.slice (cutA a2 c2 32) (Y.take 6).length c2], [.slice (cutA a3 c3 32) (Z.take 6).length c3], [.slice (cutA a4 c4 1) (B.take 100).length c4]]) (ns := [1, 1, 1, 1, 1, 16, 32, 1, 1, 1, 1, 1, 1]) (Shp.cons rfl (Shp.cons rfl (Shp.cons rfl (Shp.cons rfl (Shp.cons rfl (Shp.cons (lenB hvs) (Shp.cons (lenB hvr) (Shp.cons rfl (Shp.cons rfl (Shp.cons rfl (Shp.cons rfl (Shp.cons rfl (Shp.cons rfl Shp.nil))))))))))))) rfl) ?_
  refine T_storeFS 0 S23 (fun _ _ => trivial) rfl rfl rfl rfl rfl rfl rfl rfl rfl (gV_size (L := [[.int .i64 pn], [.int .i64 va], [.int .i64 vb], [.int .i64 vc], [.int .i64 vd], vs.map bV, vr.map bV, [.int .i64 sh], [.int .i64 sl], [.slice (cutA a1 c1 32) (X.take 70).length c1], [.slice (cutA a2 c2 32) (Y.take 6).length c2], [.slice (cutA a3 c3 32) (Z.take 6).length c3], [.slice (cutA a4 c4 1) (B.take 100).length c4]]) (ns := [1, 1, 1, 1, 1, 16, 32, 1, 1, 1, 1, 1, 1]) (Shp.cons rfl (Shp.cons rfl (Shp.cons rfl (Shp.cons rfl (Shp.cons rfl (Shp.cons (lenB hvs) (Shp.cons (lenB hvr) (Shp.cons rfl (Shp.cons rfl (Shp.cons rfl (Shp.cons rfl (Shp.cons rfl (Shp.cons rfl Shp.nil))))))))))))) rfl) (gV_size (L := [[.int .i64 pn], [.int .i64 va], [.int .i64 vb], [.int .i64 vc], [.int .i64 vd], vs.map bV, vr.map bV, [.int .i64 sh], [.int .i64 sl], [.slice (cutA a1 c1 32) (X.take 70).length c1], [.slice (cutA a2 c2 32) (Y.take 6).length c2], [.slice (cutA a3 c3 32) (Z.take 6).length c3], [.slice (cutA a4 c4 1) (B.take 100).length c4]]) (ns := [1, 1, 1, 1, 1, 16, 32, 1, 1, 1, 1, 1, 1]) (Shp.cons rfl (Shp.cons rfl (Shp.cons rfl (Shp.cons rfl (Shp.cons rfl (Shp.cons (lenB hvs) (Shp.cons (lenB hvr) (Shp.cons rfl (Shp.cons rfl (Shp.cons rfl (Shp.cons rfl (Shp.cons rfl (Shp.cons rfl Shp.nil))))))))))))) rfl) (gV_one (OneL.one rfl (OneL.one rfl (OneL.one rfl (OneL.one rfl (OneL.one rfl (OneL.arr (OneL.arr (OneL.one rfl (OneL.one rfl (OneL.one rfl (OneL.one rfl (OneL.one rfl (OneL.one rfl OneL.nil)))))))))))))) fun w24 S25 => ?_
  refine T_nil ?_
  refine W_ret ?_
  refine ⟨_, ⟨_, _, _, rfl, rfl, run_loadVarA rfl rfl (gV_size (L := [[.int .i64 pn], [.int .i64 va], [.int .i64 vb], [.int .i64 vc], [.int .i64 vd], vs.map bV, vr.map bV, [.int .i64 sh], [.int .i64 sl], [.slice (cutA a1 c1 32) (X.take 70).length c1], [.slice (cutA a2 c2 32) (Y.take 6).length c2], [.slice (cutA a3 c3 32) (Z.take 6).length c3], [.slice (cutA a4 c4 1) (B.take 100).length c4]]) (ns := [1, 1, 1, 1, 1, 16, 32, 1, 1, 1, 1, 1, 1]) (Shp.cons rfl (Shp.cons rfl (Shp.cons rfl (Shp.cons rfl (Shp.cons rfl (Shp.cons (lenB hvs) (Shp.cons (lenB hvr) (Shp.cons rfl (Shp.cons rfl (Shp.cons rfl (Shp.cons rfl (Shp.cons rfl (Shp.cons rfl Shp.nil))))))))))))) rfl) (S25.cells 0 rfl), rfl⟩, ?_⟩
  exact ⟨_, _, _, _, _, _, _, _, rfl, (r8).mono S25.fin, (r9).mono S25.fin, (r10).mono S25.fin, (r11).mono S25.fin, S25.below⟩


set_option maxHeartbeats 2000000 in
theorem layoutPieces_ok {H : Hp} {w : World} (hH : H.le (hw w)) (hT : Tabs H) (pn va vb vc vd : Int) {vs vr : List UInt8} (hvs : vs.length = 16) (hvr : vr.length = 32) (sh sl : Int) {X Y Z : List (List UInt8)} {B : List UInt8} {a1 a2 a3 a4 : Option Addr} {n1 n2 n3 n4 c1 c2 c3 c4 : Nat} (h1 : RdH H (.slice a1 n1 c1) 32 X) (h2 : RdH H (.slice a2 n2 c2) 32 Y) (h3 : RdH H (.slice a3 n3 c3) 32 Z) (h4 : Rd H (.slice a4 n4 c4) n4 1 (B.map bV)) {b : List UInt8} {aa5 : Option Addr} {nn5 cc5 : Nat} (hv : Rd H (.slice aa5 nn5 cc5) nn5 1 (b.map bV)) (hpn : pn ≤ 9223372036854775807) (hva : va ≤ 9223372036854775807) (hvb : vb ≤ 9223372036854775807) (hvc : vc ≤ 9223372036854775807) (hvd : vd ≤ 9223372036854775807) (hsh : sh ≤ 9223372036854775807) (hsl : sl ≤ 9223372036854775807) :
    Calls Tryd.prog 8 #[gV [[.int .i64 pn], [.int .i64 va], [.int .i64 vb], [.int .i64 vc], [.int .i64 vd], vs.map bV, vr.map bV, [.int .i64 sh], [.int .i64 sl], [.slice a1 n1 c1], [.slice a2 n2 c2], [.slice a3 n3 c3], [.slice a4 n4 c4]], .slice aa5 nn5 cc5] w fun e w' => e = .returned (.bool true) ∧ Below w.heap.size w w' := by
  obtain rfl : n1 = X.length := h1.len
  obtain rfl : n2 = Y.length := h2.len
  obtain rfl : n3 = Z.length := h3.len
  obtain rfl : n4 = B.length := h4.lenB
  obtain rfl : nn5 = b.length := hv.lenB
  have hvcap : b.length ≤ cc5 := hv.capOf
  have hX7 : (X.take 70).length ≤ 70 := List.length_take_le _ _
  have hY6 : (Y.take 6).length ≤ 6 := List.length_take_le _ _
  have hZ6 : (Z.take 6).length ≤ 6 := List.length_take_le _ _
  have hB1 : (B.take 100).length ≤ 100 := List.length_take_le _ _
  have hb3 : (b.take 3000).length ≤ 3000 := List.length_take_le _ _
  have hpl := (Go.Au.packP_len pn va vb vc vd (s := vs) (t := vr) sh sl hvs hvr hX7 hY6 hZ6 hB1 (fun x hx => h1.1 x (List.mem_of_mem_take hx)) (fun x hx => h2.1 x (List.mem_of_mem_take hx)) (fun x hx => h3.1 x (List.mem_of_mem_take hx))).1
  have hb1 := Go.Au.pcV_len (b.take 3000)
  have hb2 := Go.Au.pcP_len (b.take 3000)
  have hb3 := Go.Au.pcQ_len (b.take 3000)
  have hb4 := Go.Au.pcB_len (b.take 3000)
  have hq1 := Go.Au.pcV_len (Go.Au.packP pn va vb vc vd vs vr sh sl (X.take 70) (Y.take 6) (Z.take 6) (B.take 100))
  have hq2 := Go.Au.pcP_len (Go.Au.packP pn va vb vc vd vs vr sh sl (X.take 70) (Y.take 6) (Z.take 6) (B.take 100))
  have hq3 := Go.Au.pcQ_len (Go.Au.packP pn va vb vc vd vs vr sh sl (X.take 70) (Y.take 6) (Z.take 6) (B.take 100))
  have hq4 := Go.Au.pcB_len (Go.Au.packP pn va vb vc vd vs vr sh sl (X.take 70) (Y.take 6) (Z.take 6) (B.take 100))
  refine enter2 _ Tryd.func8 rfl Tryd.ntmps8 Tryd.results8 rfl ?_
  have S0 := St.start w hH
  refine W_seq ?_
  refine W_region ?_
  refine T_boxS S0 (fun _ _ => trivial) rfl rfl rfl rfl rfl rfl fun b51 w52 S53 => ?_
  refine T_pev rfl rfl rfl rfl ?_
  refine T_nil ?_
  refine W_seq ?_
  refine W_region ?_
  refine T_loadFS 0 S53 rfl rfl rfl rfl rfl rfl rfl rfl rfl (gV_size (L := [[.int .i64 pn], [.int .i64 va], [.int .i64 vb], [.int .i64 vc], [.int .i64 vd], vs.map bV, vr.map bV, [.int .i64 sh], [.int .i64 sl], [.slice a1 X.length c1], [.slice a2 Y.length c2], [.slice a3 Z.length c3], [.slice a4 B.length c4]]) (ns := [1, 1, 1, 1, 1, 16, 32, 1, 1, 1, 1, 1, 1]) (Shp.cons rfl (Shp.cons rfl (Shp.cons rfl (Shp.cons rfl (Shp.cons rfl (Shp.cons (lenB hvs) (Shp.cons (lenB hvr) (Shp.cons rfl (Shp.cons rfl (Shp.cons rfl (Shp.cons rfl (Shp.cons rfl (Shp.cons rfl Shp.nil))))))))))))) rfl) ?_
  refine T_callS rfl rfl g_aumbry_aumbrylaw14_cutPiece rfl rfl rfl rfl ((cutPiece_ok S53.le pn va vb vc vd hvs hvr sh sl h1 h2 h3 h4).mono ?_)
  rintro e w67 ⟨a54, c55, a56, c57, a58, c59, a60, c61, rfl, r62, r63, r64, r65, hB66⟩
  obtain ⟨G69, eG71⟩ : ∃ G, G = F.ext H w52.heap.size w67 := ⟨_, rfl⟩
  obtain ⟨hl70, S68⟩ := S53.ext hB66
  rw [← eG71] at hl70 S68 r62 r63 r64 r65
  refine ⟨_, rfl, trivial, ?_⟩
  refine T_pev rfl rfl rfl rfl ?_
  refine T_callS rfl rfl g_aumbry_aumbrykeep_Cut_byte rfl rfl rfl rfl ((cutB_ok S68.le (hv.mono hl70) 3000).mono ?_)
  rintro e w77 ⟨a72, c73, hc74, rfl, hr75, hB76⟩
  have S78 := S68.call hB76
  refine ⟨_, rfl, trivial, ?_⟩
  refine T_storeFS 0 S78 (fun _ _ => trivial) rfl rfl rfl rfl rfl rfl rfl rfl rfl (gV_size (L := [[.int .i64 pn], [.int .i64 va], [.int .i64 vb], [.int .i64 vc], [.int .i64 vd], vs.map bV, vr.map bV, [.int .i64 sh], [.int .i64 sl], [.slice a54 (X.take 70).length c55], [.slice a56 (Y.take 6).length c57], [.slice a58 (Z.take 6).length c59], [.slice a60 (B.take 100).length c61]]) (ns := [1, 1, 1, 1, 1, 16, 32, 1, 1, 1, 1, 1, 1]) (Shp.cons rfl (Shp.cons rfl (Shp.cons rfl (Shp.cons rfl (Shp.cons rfl (Shp.cons (lenB hvs) (Shp.cons (lenB hvr) (Shp.cons rfl (Shp.cons rfl (Shp.cons rfl (Shp.cons rfl (Shp.cons rfl (Shp.cons rfl Shp.nil))))))))))))) rfl) ((gV_size (L := [[.int .i64 pn], [.int .i64 va], [.int .i64 vb], [.int .i64 vc], [.int .i64 vd], vs.map bV, vr.map bV, [.int .i64 sh], [.int .i64 sl], [.slice a54 (X.take 70).length c55], [.slice a56 (Y.take 6).length c57], [.slice a58 (Z.take 6).length c59], [.slice a60 (B.take 100).length c61]]) (ns := [1, 1, 1, 1, 1, 16, 32, 1, 1, 1, 1, 1, 1]) (Shp.cons rfl (Shp.cons rfl (Shp.cons rfl (Shp.cons rfl (Shp.cons rfl (Shp.cons (lenB hvs) (Shp.cons (lenB hvr) (Shp.cons rfl (Shp.cons rfl (Shp.cons rfl (Shp.cons rfl (Shp.cons rfl (Shp.cons rfl Shp.nil))))))))))))) rfl).trans (gV_size (L := [[.int .i64 pn], [.int .i64 va], [.int .i64 vb], [.int .i64 vc], [.int .i64 vd], vs.map bV, vr.map bV, [.int .i64 sh], [.int .i64 sl], [.slice a1 X.length c1], [.slice a2 Y.length c2], [.slice a3 Z.length c3], [.slice a4 B.length c4]]) (ns := [1, 1, 1, 1, 1, 16, 32, 1, 1, 1, 1, 1, 1]) (Shp.cons rfl (Shp.cons rfl (Shp.cons rfl (Shp.cons rfl (Shp.cons rfl (Shp.cons (lenB hvs) (Shp.cons (lenB hvr) (Shp.cons rfl (Shp.cons rfl (Shp.cons rfl (Shp.cons rfl (Shp.cons rfl (Shp.cons rfl Shp.nil))))))))))))) rfl).symm) (gV_one (OneL.one rfl (OneL.one rfl (OneL.one rfl (OneL.one rfl (OneL.one rfl (OneL.arr (OneL.arr (OneL.one rfl (OneL.one rfl (OneL.one rfl (OneL.one rfl (OneL.one rfl (OneL.one rfl OneL.nil)))))))))))))) fun w79 S80 => ?_
  refine T_pev rfl rfl rfl rfl ?_
  refine T_nil ?_
  refine W_seq ?_
  refine W_region ?_
  refine T_pev rfl rfl rfl rfl ?_
  refine T_callS rfl rfl g_aumbry_layout_UnpackPiece rfl rfl rfl rfl ((unpackPc_ok S80.le (hT.mono hl70) hr75 (by omega)).mono ?_)
  rintro e w94 ⟨a81, c82, a83, c84, a85, c86, a87, c88, rfl, r89, r90, r91, r92, hB93⟩
  obtain ⟨G96, eG98⟩ : ∃ G, G = F.ext G69 w79.heap.size w94 := ⟨_, rfl⟩
  obtain ⟨hl97, S95⟩ := S80.ext hB93
  rw [← eG98] at hl97 S95 r89 r90 r91 r92
  refine ⟨_, rfl, trivial, ?_⟩
  refine T_pev rfl rfl rfl rfl ?_
  refine T_pev rfl rfl rfl rfl ?_
  refine T_pev rfl rfl rfl rfl ?_
  refine T_allocS S95 (fun _ _ => trivial) rfl rfl rfl rfl rfl rfl rfl fun b99 w100 S101 => ?_
  refine T_storeFS 0 S101 (fun _ _ => trivial) rfl rfl rfl rfl rfl rfl rfl rfl rfl (gV_size (L := [[.int .i64 (Go.Au.pcN (b.take 3000))], [.int .i64 (Go.Au.pcA (b.take 3000) 0)], [.int .i64 (Go.Au.pcA (b.take 3000) 1)], [.int .i64 (Go.Au.pcA (b.take 3000) 2)], [.int .i64 (Go.Au.pcA (b.take 3000) 3)], (Go.Au.pcS (b.take 3000)).map bV, (Go.Au.pcR (b.take 3000)).map bV, [.int .i64 (Go.Au.pcH (b.take 3000))], [.int .i64 (Go.Au.pcL (b.take 3000))], [.slice a81 (Go.Au.pcV (b.take 3000)).length c82], [.slice a83 (Go.Au.pcP (b.take 3000)).length c84], [.slice a85 (Go.Au.pcQ (b.take 3000)).length c86], [.slice a87 (Go.Au.pcB (b.take 3000)).length c88]]) (ns := [1, 1, 1, 1, 1, 16, 32, 1, 1, 1, 1, 1, 1]) (Shp.cons rfl (Shp.cons rfl (Shp.cons rfl (Shp.cons rfl (Shp.cons rfl (Shp.cons (lenB (Go.Au.pcS_len _)) (Shp.cons (lenB (Go.Au.pcR_len _)) (Shp.cons rfl (Shp.cons rfl (Shp.cons rfl (Shp.cons rfl (Shp.cons rfl (Shp.cons rfl Shp.nil))))))))))))) rfl) (gV_size (L := [[.int .i64 (Go.Au.pcN (b.take 3000))], [.int .i64 (Go.Au.pcA (b.take 3000) 0)], [.int .i64 (Go.Au.pcA (b.take 3000) 1)], [.int .i64 (Go.Au.pcA (b.take 3000) 2)], [.int .i64 (Go.Au.pcA (b.take 3000) 3)], (Go.Au.pcS (b.take 3000)).map bV, (Go.Au.pcR (b.take 3000)).map bV, [.int .i64 (Go.Au.pcH (b.take 3000))], [.int .i64 (Go.Au.pcL (b.take 3000))], [.slice a81 (Go.Au.pcV (b.take 3000)).length c82], [.slice a83 (Go.Au.pcP (b.take 3000)).length c84], [.slice a85 (Go.Au.pcQ (b.take 3000)).length c86], [.slice a87 (Go.Au.pcB (b.take 3000)).length c88]]) (ns := [1, 1, 1, 1, 1, 16, 32, 1, 1, 1, 1, 1, 1]) (Shp.cons rfl (Shp.cons rfl (Shp.cons rfl (Shp.cons rfl (Shp.cons rfl (Shp.cons (lenB (Go.Au.pcS_len _)) (Shp.cons (lenB (Go.Au.pcR_len _)) (Shp.cons rfl (Shp.cons rfl (Shp.cons rfl (Shp.cons rfl (Shp.cons rfl (Shp.cons rfl Shp.nil))))))))))))) rfl) (gV_one (OneL.one rfl (OneL.one rfl (OneL.one rfl (OneL.one rfl (OneL.one rfl (OneL.arr (OneL.arr (OneL.one rfl (OneL.one rfl (OneL.one rfl (OneL.one rfl (OneL.one rfl (OneL.one rfl OneL.nil)))))))))))))) fun w102 S103 => ?_
  refine T_pev rfl rfl rfl rfl ?_
  refine T_nil ?_
  refine W_seq ?_
  refine W_region ?_
  refine T_pev rfl rfl rfl rfl ?_
  refine T_callS rfl rfl g_aumbry_aumbryref13_UnpackPiece rfl rfl rfl rfl ((unpackPcR_ok S103.le (hr75.mono hl97) (by omega)).mono ?_)
  rintro e w117 ⟨a104, c105, a106, c107, a108, c109, a110, c111, rfl, r112, r113, r114, r115, hB116⟩
  obtain ⟨G119, eG121⟩ : ∃ G, G = F.ext G96 w102.heap.size w117 := ⟨_, rfl⟩
  obtain ⟨hl120, S118⟩ := S103.ext hB116
  rw [← eG121] at hl120 S118 r112 r113 r114 r115
  refine ⟨_, rfl, trivial, ?_⟩
  refine T_pev rfl rfl rfl rfl ?_
  refine T_pev rfl rfl rfl rfl ?_
  refine T_pev rfl rfl rfl rfl ?_
  refine T_allocS S118 (fun _ _ => trivial) rfl rfl rfl rfl rfl rfl rfl fun b122 w123 S124 => ?_
  refine T_storeFS 0 S124 (fun _ _ => trivial) rfl rfl rfl rfl rfl rfl rfl rfl rfl (gV_size (L := [[.int .i64 (Go.Au.pcN (b.take 3000))], [.int .i64 (Go.Au.pcA (b.take 3000) 0)], [.int .i64 (Go.Au.pcA (b.take 3000) 1)], [.int .i64 (Go.Au.pcA (b.take 3000) 2)], [.int .i64 (Go.Au.pcA (b.take 3000) 3)], (Go.Au.pcS (b.take 3000)).map bV, (Go.Au.pcR (b.take 3000)).map bV, [.int .i64 (Go.Au.pcH (b.take 3000))], [.int .i64 (Go.Au.pcL (b.take 3000))], [.slice a104 (Go.Au.pcV (b.take 3000)).length c105], [.slice a106 (Go.Au.pcP (b.take 3000)).length c107], [.slice a108 (Go.Au.pcQ (b.take 3000)).length c109], [.slice a110 (Go.Au.pcB (b.take 3000)).length c111]]) (ns := [1, 1, 1, 1, 1, 16, 32, 1, 1, 1, 1, 1, 1]) (Shp.cons rfl (Shp.cons rfl (Shp.cons rfl (Shp.cons rfl (Shp.cons rfl (Shp.cons (lenB (Go.Au.pcS_len _)) (Shp.cons (lenB (Go.Au.pcR_len _)) (Shp.cons rfl (Shp.cons rfl (Shp.cons rfl (Shp.cons rfl (Shp.cons rfl (Shp.cons rfl Shp.nil))))))))))))) rfl) (gV_size (L := [[.int .i64 (Go.Au.pcN (b.take 3000))], [.int .i64 (Go.Au.pcA (b.take 3000) 0)], [.int .i64 (Go.Au.pcA (b.take 3000) 1)], [.int .i64 (Go.Au.pcA (b.take 3000) 2)], [.int .i64 (Go.Au.pcA (b.take 3000) 3)], (Go.Au.pcS (b.take 3000)).map bV, (Go.Au.pcR (b.take 3000)).map bV, [.int .i64 (Go.Au.pcH (b.take 3000))], [.int .i64 (Go.Au.pcL (b.take 3000))], [.slice a104 (Go.Au.pcV (b.take 3000)).length c105], [.slice a106 (Go.Au.pcP (b.take 3000)).length c107], [.slice a108 (Go.Au.pcQ (b.take 3000)).length c109], [.slice a110 (Go.Au.pcB (b.take 3000)).length c111]]) (ns := [1, 1, 1, 1, 1, 16, 32, 1, 1, 1, 1, 1, 1]) (Shp.cons rfl (Shp.cons rfl (Shp.cons rfl (Shp.cons rfl (Shp.cons rfl (Shp.cons (lenB (Go.Au.pcS_len _)) (Shp.cons (lenB (Go.Au.pcR_len _)) (Shp.cons rfl (Shp.cons rfl (Shp.cons rfl (Shp.cons rfl (Shp.cons rfl (Shp.cons rfl Shp.nil))))))))))))) rfl) (gV_one (OneL.one rfl (OneL.one rfl (OneL.one rfl (OneL.one rfl (OneL.one rfl (OneL.arr (OneL.arr (OneL.one rfl (OneL.one rfl (OneL.one rfl (OneL.one rfl (OneL.one rfl (OneL.one rfl OneL.nil)))))))))))))) fun w125 S126 => ?_
  refine T_pev rfl rfl rfl rfl ?_
  refine T_nil ?_
  refine W_seq ?_
  refine W_region ?_
  refine T_loadFS 2 S126 rfl rfl rfl rfl rfl rfl rfl rfl rfl (gV_size (L := [[.int .i64 pn], [.int .i64 va], [.int .i64 vb], [.int .i64 vc], [.int .i64 vd], vs.map bV, vr.map bV, [.int .i64 sh], [.int .i64 sl], [.slice a54 (X.take 70).length c55], [.slice a56 (Y.take 6).length c57], [.slice a58 (Z.take 6).length c59], [.slice a60 (B.take 100).length c61]]) (ns := [1, 1, 1, 1, 1, 16, 32, 1, 1, 1, 1, 1, 1]) (Shp.cons rfl (Shp.cons rfl (Shp.cons rfl (Shp.cons rfl (Shp.cons rfl (Shp.cons (lenB hvs) (Shp.cons (lenB hvr) (Shp.cons rfl (Shp.cons rfl (Shp.cons rfl (Shp.cons rfl (Shp.cons rfl (Shp.cons rfl Shp.nil))))))))))))) rfl) ?_
  refine T_callS rfl rfl g_aumbry_layout_PackPiece rfl rfl rfl rfl ((packP_ok S126.le (hT.mono (hl70.trans (hl97.trans hl120))) pn va vb vc vd hvs hvr sh sl (r62.mono (hl97.trans hl120)) (r63.mono (hl97.trans hl120)) (r64.mono (hl97.trans hl120)) (r65.mono (hl97.trans hl120)) (by omega) (by omega) (by omega) (by omega) (by omega) (by omega) (by omega) (by omega) (by omega) (by omega) (by omega)).mono ?_)
  rintro e w132 ⟨a127, c128, hc129, rfl, ho130, hB131⟩
  have S133 := S126.own hB131 ho130
  refine ⟨_, rfl, trivial, ?_⟩
  refine T_pev rfl rfl rfl rfl ?_
  refine T_nil ?_
  refine W_seq ?_
  refine W_region ?_
  refine T_pev rfl rfl rfl rfl ?_
  obtain ⟨G135, hl136, S134, r137⟩ := S133.stillRow 0 rfl
  refine T_callS rfl rfl g_aumbry_layout_UnpackPiece rfl rfl rfl rfl ((unpackPc_ok S134.le (hT.mono (hl70.trans (hl97.trans (hl120.trans hl136)))) r137 (by omega)).mono ?_)
  rintro e w151 ⟨a138, c139, a140, c141, a142, c143, a144, c145, rfl, r146, r147, r148, r149, hB150⟩
  obtain ⟨G153, eG155⟩ : ∃ G, G = F.ext G135 w132.heap.size w151 := ⟨_, rfl⟩
  obtain ⟨hl154, S152⟩ := S134.ext hB150
  rw [← eG155] at hl154 S152 r146 r147 r148 r149
  refine ⟨_, rfl, trivial, ?_⟩
  refine T_pev rfl rfl rfl rfl ?_
  refine T_pev rfl rfl rfl rfl ?_
  refine T_pev rfl rfl rfl rfl ?_
  refine T_allocS S152 (fun _ _ => trivial) rfl rfl rfl rfl rfl rfl rfl fun b156 w157 S158 => ?_
  refine T_storeFS 0 S158 (fun _ _ => trivial) rfl rfl rfl rfl rfl rfl rfl rfl rfl (gV_size (L := [[.int .i64 (Go.Au.pcN (Go.Au.packP pn va vb vc vd vs vr sh sl (X.take 70) (Y.take 6) (Z.take 6) (B.take 100)))], [.int .i64 (Go.Au.pcA (Go.Au.packP pn va vb vc vd vs vr sh sl (X.take 70) (Y.take 6) (Z.take 6) (B.take 100)) 0)], [.int .i64 (Go.Au.pcA (Go.Au.packP pn va vb vc vd vs vr sh sl (X.take 70) (Y.take 6) (Z.take 6) (B.take 100)) 1)], [.int .i64 (Go.Au.pcA (Go.Au.packP pn va vb vc vd vs vr sh sl (X.take 70) (Y.take 6) (Z.take 6) (B.take 100)) 2)], [.int .i64 (Go.Au.pcA (Go.Au.packP pn va vb vc vd vs vr sh sl (X.take 70) (Y.take 6) (Z.take 6) (B.take 100)) 3)], (Go.Au.pcS (Go.Au.packP pn va vb vc vd vs vr sh sl (X.take 70) (Y.take 6) (Z.take 6) (B.take 100))).map bV, (Go.Au.pcR (Go.Au.packP pn va vb vc vd vs vr sh sl (X.take 70) (Y.take 6) (Z.take 6) (B.take 100))).map bV, [.int .i64 (Go.Au.pcH (Go.Au.packP pn va vb vc vd vs vr sh sl (X.take 70) (Y.take 6) (Z.take 6) (B.take 100)))], [.int .i64 (Go.Au.pcL (Go.Au.packP pn va vb vc vd vs vr sh sl (X.take 70) (Y.take 6) (Z.take 6) (B.take 100)))], [.slice a138 (Go.Au.pcV (Go.Au.packP pn va vb vc vd vs vr sh sl (X.take 70) (Y.take 6) (Z.take 6) (B.take 100))).length c139], [.slice a140 (Go.Au.pcP (Go.Au.packP pn va vb vc vd vs vr sh sl (X.take 70) (Y.take 6) (Z.take 6) (B.take 100))).length c141], [.slice a142 (Go.Au.pcQ (Go.Au.packP pn va vb vc vd vs vr sh sl (X.take 70) (Y.take 6) (Z.take 6) (B.take 100))).length c143], [.slice a144 (Go.Au.pcB (Go.Au.packP pn va vb vc vd vs vr sh sl (X.take 70) (Y.take 6) (Z.take 6) (B.take 100))).length c145]]) (ns := [1, 1, 1, 1, 1, 16, 32, 1, 1, 1, 1, 1, 1]) (Shp.cons rfl (Shp.cons rfl (Shp.cons rfl (Shp.cons rfl (Shp.cons rfl (Shp.cons (lenB (Go.Au.pcS_len _)) (Shp.cons (lenB (Go.Au.pcR_len _)) (Shp.cons rfl (Shp.cons rfl (Shp.cons rfl (Shp.cons rfl (Shp.cons rfl (Shp.cons rfl Shp.nil))))))))))))) rfl) (gV_size (L := [[.int .i64 (Go.Au.pcN (Go.Au.packP pn va vb vc vd vs vr sh sl (X.take 70) (Y.take 6) (Z.take 6) (B.take 100)))], [.int .i64 (Go.Au.pcA (Go.Au.packP pn va vb vc vd vs vr sh sl (X.take 70) (Y.take 6) (Z.take 6) (B.take 100)) 0)], [.int .i64 (Go.Au.pcA (Go.Au.packP pn va vb vc vd vs vr sh sl (X.take 70) (Y.take 6) (Z.take 6) (B.take 100)) 1)], [.int .i64 (Go.Au.pcA (Go.Au.packP pn va vb vc vd vs vr sh sl (X.take 70) (Y.take 6) (Z.take 6) (B.take 100)) 2)], [.int .i64 (Go.Au.pcA (Go.Au.packP pn va vb vc vd vs vr sh sl (X.take 70) (Y.take 6) (Z.take 6) (B.take 100)) 3)], (Go.Au.pcS (Go.Au.packP pn va vb vc vd vs vr sh sl (X.take 70) (Y.take 6) (Z.take 6) (B.take 100))).map bV, (Go.Au.pcR (Go.Au.packP pn va vb vc vd vs vr sh sl (X.take 70) (Y.take 6) (Z.take 6) (B.take 100))).map bV, [.int .i64 (Go.Au.pcH (Go.Au.packP pn va vb vc vd vs vr sh sl (X.take 70) (Y.take 6) (Z.take 6) (B.take 100)))], [.int .i64 (Go.Au.pcL (Go.Au.packP pn va vb vc vd vs vr sh sl (X.take 70) (Y.take 6) (Z.take 6) (B.take 100)))], [.slice a138 (Go.Au.pcV (Go.Au.packP pn va vb vc vd vs vr sh sl (X.take 70) (Y.take 6) (Z.take 6) (B.take 100))).length c139], [.slice a140 (Go.Au.pcP (Go.Au.packP pn va vb vc vd vs vr sh sl (X.take 70) (Y.take 6) (Z.take 6) (B.take 100))).length c141], [.slice a142 (Go.Au.pcQ (Go.Au.packP pn va vb vc vd vs vr sh sl (X.take 70) (Y.take 6) (Z.take 6) (B.take 100))).length c143], [.slice a144 (Go.Au.pcB (Go.Au.packP pn va vb vc vd vs vr sh sl (X.take 70) (Y.take 6) (Z.take 6) (B.take 100))).length c145]]) (ns := [1, 1, 1, 1, 1, 16, 32, 1, 1, 1, 1, 1, 1]) (Shp.cons rfl (Shp.cons rfl (Shp.cons rfl (Shp.cons rfl (Shp.cons rfl (Shp.cons (lenB (Go.Au.pcS_len _)) (Shp.cons (lenB (Go.Au.pcR_len _)) (Shp.cons rfl (Shp.cons rfl (Shp.cons rfl (Shp.cons rfl (Shp.cons rfl (Shp.cons rfl Shp.nil))))))))))))) rfl) (gV_one (OneL.one rfl (OneL.one rfl (OneL.one rfl (OneL.one rfl (OneL.one rfl (OneL.arr (OneL.arr (OneL.one rfl (OneL.one rfl (OneL.one rfl (OneL.one rfl (OneL.one rfl (OneL.one rfl OneL.nil)))))))))))))) fun w159 S160 => ?_
  refine T_pev rfl rfl rfl rfl ?_
  refine T_nil ?_
  refine W_seq ?_
  refine W_region ?_
  refine T_pev rfl rfl rfl rfl ?_
  refine T_callS rfl rfl g_aumbry_aumbryref13_UnpackPiece rfl rfl rfl rfl ((unpackPcR_ok S160.le (r137.mono hl154) (by omega)).mono ?_)
  rintro e w174 ⟨a161, c162, a163, c164, a165, c166, a167, c168, rfl, r169, r170, r171, r172, hB173⟩
  obtain ⟨G176, eG178⟩ : ∃ G, G = F.ext G153 w159.heap.size w174 := ⟨_, rfl⟩
  obtain ⟨hl177, S175⟩ := S160.ext hB173
  rw [← eG178] at hl177 S175 r169 r170 r171 r172
  refine ⟨_, rfl, trivial, ?_⟩
  refine T_pev rfl rfl rfl rfl ?_
  refine T_pev rfl rfl rfl rfl ?_
  refine T_pev rfl rfl rfl rfl ?_
  refine T_allocS S175 (fun _ _ => trivial) rfl rfl rfl rfl rfl rfl rfl fun b179 w180 S181 => ?_
  refine T_storeFS 0 S181 (fun _ _ => trivial) rfl rfl rfl rfl rfl rfl rfl rfl rfl (gV_size (L := [[.int .i64 (Go.Au.pcN (Go.Au.packP pn va vb vc vd vs vr sh sl (X.take 70) (Y.take 6) (Z.take 6) (B.take 100)))], [.int .i64 (Go.Au.pcA (Go.Au.packP pn va vb vc vd vs vr sh sl (X.take 70) (Y.take 6) (Z.take 6) (B.take 100)) 0)], [.int .i64 (Go.Au.pcA (Go.Au.packP pn va vb vc vd vs vr sh sl (X.take 70) (Y.take 6) (Z.take 6) (B.take 100)) 1)], [.int .i64 (Go.Au.pcA (Go.Au.packP pn va vb vc vd vs vr sh sl (X.take 70) (Y.take 6) (Z.take 6) (B.take 100)) 2)], [.int .i64 (Go.Au.pcA (Go.Au.packP pn va vb vc vd vs vr sh sl (X.take 70) (Y.take 6) (Z.take 6) (B.take 100)) 3)], (Go.Au.pcS (Go.Au.packP pn va vb vc vd vs vr sh sl (X.take 70) (Y.take 6) (Z.take 6) (B.take 100))).map bV, (Go.Au.pcR (Go.Au.packP pn va vb vc vd vs vr sh sl (X.take 70) (Y.take 6) (Z.take 6) (B.take 100))).map bV, [.int .i64 (Go.Au.pcH (Go.Au.packP pn va vb vc vd vs vr sh sl (X.take 70) (Y.take 6) (Z.take 6) (B.take 100)))], [.int .i64 (Go.Au.pcL (Go.Au.packP pn va vb vc vd vs vr sh sl (X.take 70) (Y.take 6) (Z.take 6) (B.take 100)))], [.slice a161 (Go.Au.pcV (Go.Au.packP pn va vb vc vd vs vr sh sl (X.take 70) (Y.take 6) (Z.take 6) (B.take 100))).length c162], [.slice a163 (Go.Au.pcP (Go.Au.packP pn va vb vc vd vs vr sh sl (X.take 70) (Y.take 6) (Z.take 6) (B.take 100))).length c164], [.slice a165 (Go.Au.pcQ (Go.Au.packP pn va vb vc vd vs vr sh sl (X.take 70) (Y.take 6) (Z.take 6) (B.take 100))).length c166], [.slice a167 (Go.Au.pcB (Go.Au.packP pn va vb vc vd vs vr sh sl (X.take 70) (Y.take 6) (Z.take 6) (B.take 100))).length c168]]) (ns := [1, 1, 1, 1, 1, 16, 32, 1, 1, 1, 1, 1, 1]) (Shp.cons rfl (Shp.cons rfl (Shp.cons rfl (Shp.cons rfl (Shp.cons rfl (Shp.cons (lenB (Go.Au.pcS_len _)) (Shp.cons (lenB (Go.Au.pcR_len _)) (Shp.cons rfl (Shp.cons rfl (Shp.cons rfl (Shp.cons rfl (Shp.cons rfl (Shp.cons rfl Shp.nil))))))))))))) rfl) (gV_size (L := [[.int .i64 (Go.Au.pcN (Go.Au.packP pn va vb vc vd vs vr sh sl (X.take 70) (Y.take 6) (Z.take 6) (B.take 100)))], [.int .i64 (Go.Au.pcA (Go.Au.packP pn va vb vc vd vs vr sh sl (X.take 70) (Y.take 6) (Z.take 6) (B.take 100)) 0)], [.int .i64 (Go.Au.pcA (Go.Au.packP pn va vb vc vd vs vr sh sl (X.take 70) (Y.take 6) (Z.take 6) (B.take 100)) 1)], [.int .i64 (Go.Au.pcA (Go.Au.packP pn va vb vc vd vs vr sh sl (X.take 70) (Y.take 6) (Z.take 6) (B.take 100)) 2)], [.int .i64 (Go.Au.pcA (Go.Au.packP pn va vb vc vd vs vr sh sl (X.take 70) (Y.take 6) (Z.take 6) (B.take 100)) 3)], (Go.Au.pcS (Go.Au.packP pn va vb vc vd vs vr sh sl (X.take 70) (Y.take 6) (Z.take 6) (B.take 100))).map bV, (Go.Au.pcR (Go.Au.packP pn va vb vc vd vs vr sh sl (X.take 70) (Y.take 6) (Z.take 6) (B.take 100))).map bV, [.int .i64 (Go.Au.pcH (Go.Au.packP pn va vb vc vd vs vr sh sl (X.take 70) (Y.take 6) (Z.take 6) (B.take 100)))], [.int .i64 (Go.Au.pcL (Go.Au.packP pn va vb vc vd vs vr sh sl (X.take 70) (Y.take 6) (Z.take 6) (B.take 100)))], [.slice a161 (Go.Au.pcV (Go.Au.packP pn va vb vc vd vs vr sh sl (X.take 70) (Y.take 6) (Z.take 6) (B.take 100))).length c162], [.slice a163 (Go.Au.pcP (Go.Au.packP pn va vb vc vd vs vr sh sl (X.take 70) (Y.take 6) (Z.take 6) (B.take 100))).length c164], [.slice a165 (Go.Au.pcQ (Go.Au.packP pn va vb vc vd vs vr sh sl (X.take 70) (Y.take 6) (Z.take 6) (B.take 100))).length c166], [.slice a167 (Go.Au.pcB (Go.Au.packP pn va vb vc vd vs vr sh sl (X.take 70) (Y.take 6) (Z.take 6) (B.take 100))).length c168]]) (ns := [1, 1, 1, 1, 1, 16, 32, 1, 1, 1, 1, 1, 1]) (Shp.cons rfl (Shp.cons rfl (Shp.cons rfl (Shp.cons rfl (Shp.cons rfl (Shp.cons (lenB (Go.Au.pcS_len _)) (Shp.cons (lenB (Go.Au.pcR_len _)) (Shp.cons rfl (Shp.cons rfl (Shp.cons rfl (Shp.cons rfl (Shp.cons rfl (Shp.cons rfl Shp.nil))))))))))))) rfl) (gV_one (OneL.one rfl (OneL.one rfl (OneL.one rfl (OneL.one rfl (OneL.one rfl (OneL.arr (OneL.arr (OneL.one rfl (OneL.one rfl (OneL.one rfl (OneL.one rfl (OneL.one rfl (OneL.one rfl OneL.nil)))))))))))))) fun w182 S183 => ?_
  refine T_pev rfl rfl rfl rfl ?_
  refine T_nil ?_
  refine W_seq ?_
  refine W_region ?_
  refine T_pev rfl rfl rfl rfl ?_
  refine T_loadFS 4 S183 rfl rfl rfl rfl rfl rfl rfl rfl rfl (gV_size (L := [[.int .i64 pn], [.int .i64 va], [.int .i64 vb], [.int .i64 vc], [.int .i64 vd], vs.map bV, vr.map bV, [.int .i64 sh], [.int .i64 sl], [.slice a54 (X.take 70).length c55], [.slice a56 (Y.take 6).length c57], [.slice a58 (Z.take 6).length c59], [.slice a60 (B.take 100).length c61]]) (ns := [1, 1, 1, 1, 1, 16, 32, 1, 1, 1, 1, 1, 1]) (Shp.cons rfl (Shp.cons rfl (Shp.cons rfl (Shp.cons rfl (Shp.cons rfl (Shp.cons (lenB hvs) (Shp.cons (lenB hvr) (Shp.cons rfl (Shp.cons rfl (Shp.cons rfl (Shp.cons rfl (Shp.cons rfl (Shp.cons rfl Shp.nil))))))))))))) rfl) ?_
  refine T_callS rfl rfl g_aumbry_aumbryref13_PackPiece rfl rfl rfl rfl ((packPR_ok S183.le pn va vb vc vd hvs hvr sh sl (r62.mono (hl97.trans (hl120.trans (hl136.trans (hl154.trans hl177))))) (r63.mono (hl97.trans (hl120.trans (hl136.trans (hl154.trans hl177))))) (r64.mono (hl97.trans (hl120.trans (hl136.trans (hl154.trans hl177))))) (r65.mono (hl97.trans (hl120.trans (hl136.trans (hl154.trans hl177))))) (by omega) (by omega) (by omega) (by omega) (by omega) (by omega) (by omega) (by omega) (by omega) (by omega) (by omega)).mono ?_)
  rintro e w189 ⟨a184, c185, hc186, rfl, ho187, hB188⟩
  have S190 := S183.own hB188 ho187
  refine ⟨_, rfl, trivial, ?_⟩
  obtain ⟨G192, hl193, S191, r194⟩ := S190.stillRow 0 rfl
  refine T_callS rfl rfl g_aumbry_aumbrykeep_Same_byte rfl rfl rfl rfl ((sameB_ok S191.le (r137.mono (hl154.trans (hl177.trans hl193))) r194 (by first | omega | (simp; done) | (simp only [List.length_take, List.length_drop]; omega))).mono ?_)
  rintro e w196 ⟨rfl, hB195⟩
  have S197 := S191.call hB195
  refine ⟨_, rfl, trivial, ?_⟩
  refine T_pev rfl rfl rfl rfl ?_
  refine T_bool 44 true rfl (decide_eq_true (by first | rfl | omega)) ?_
  refine T_yes rfl rfl rfl ?_ rfl
  refine T_pev rfl rfl rfl rfl ?_
  refine T_yes rfl rfl rfl ?_ rfl
  refine T_pev rfl rfl rfl rfl ?_
  refine T_yes rfl rfl rfl ?_ rfl
  refine T_beq rfl rfl rfl rfl rfl rfl rfl ?_
  refine T_pev rfl rfl rfl rfl ?_
  refine T_pev rfl rfl rfl rfl ?_
  refine T_bool 49 true rfl (decide_eq_true (by first | rfl | omega)) ?_
  refine T_yes rfl rfl rfl ?_ rfl
  refine T_loadFS 3 S197 rfl rfl rfl rfl rfl rfl rfl rfl rfl (gV_size (L := [[.int .i64 (Go.Au.pcN (b.take 3000))], [.int .i64 (Go.Au.pcA (b.take 3000) 0)], [.int .i64 (Go.Au.pcA (b.take 3000) 1)], [.int .i64 (Go.Au.pcA (b.take 3000) 2)], [.int .i64 (Go.Au.pcA (b.take 3000) 3)], (Go.Au.pcS (b.take 3000)).map bV, (Go.Au.pcR (b.take 3000)).map bV, [.int .i64 (Go.Au.pcH (b.take 3000))], [.int .i64 (Go.Au.pcL (b.take 3000))], [.slice a81 (Go.Au.pcV (b.take 3000)).length c82], [.slice a83 (Go.Au.pcP (b.take 3000)).length c84], [.slice a85 (Go.Au.pcQ (b.take 3000)).length c86], [.slice a87 (Go.Au.pcB (b.take 3000)).length c88]]) (ns := [1, 1, 1, 1, 1, 16, 32, 1, 1, 1, 1, 1, 1]) (Shp.cons rfl (Shp.cons rfl (Shp.cons rfl (Shp.cons rfl (Shp.cons rfl (Shp.cons (lenB (Go.Au.pcS_len _)) (Shp.cons (lenB (Go.Au.pcR_len _)) (Shp.cons rfl (Shp.cons rfl (Shp.cons rfl (Shp.cons rfl (Shp.cons rfl (Shp.cons rfl Shp.nil))))))))))))) rfl) ?_
  refine T_yes rfl rfl rfl ?_ rfl
  refine T_loadFS 2 S197 rfl rfl rfl rfl rfl rfl rfl rfl rfl (gV_size (L := [[.int .i64 (Go.Au.pcN (b.take 3000))], [.int .i64 (Go.Au.pcA (b.take 3000) 0)], [.int .i64 (Go.Au.pcA (b.take 3000) 1)], [.int .i64 (Go.Au.pcA (b.take 3000) 2)], [.int .i64 (Go.Au.pcA (b.take 3000) 3)], (Go.Au.pcS (b.take 3000)).map bV, (Go.Au.pcR (b.take 3000)).map bV, [.int .i64 (Go.Au.pcH (b.take 3000))], [.int .i64 (Go.Au.pcL (b.take 3000))], [.slice a104 (Go.Au.pcV (b.take 3000)).length c105], [.slice a106 (Go.Au.pcP (b.take 3000)).length c107], [.slice a108 (Go.Au.pcQ (b.take 3000)).length c109], [.slice a110 (Go.Au.pcB (b.take 3000)).length c111]]) (ns := [1, 1, 1, 1, 1, 16, 32, 1, 1, 1, 1, 1, 1]) (Shp.cons rfl (Shp.cons rfl (Shp.cons rfl (Shp.cons rfl (Shp.cons rfl (Shp.cons (lenB (Go.Au.pcS_len _)) (Shp.cons (lenB (Go.Au.pcR_len _)) (Shp.cons rfl (Shp.cons rfl (Shp.cons rfl (Shp.cons rfl (Shp.cons rfl (Shp.cons rfl Shp.nil))))))))))))) rfl) ?_
  refine T_yes rfl rfl rfl ?_ rfl
  refine T_callS rfl rfl g_aumbry_aumbrykeep_Piece rfl rfl rfl rfl ((pieceEq_ok S197.le (Go.Au.pcN (b.take 3000)) (Go.Au.pcA (b.take 3000) 0) (Go.Au.pcA (b.take 3000) 1) (Go.Au.pcA (b.take 3000) 2) (Go.Au.pcA (b.take 3000) 3) (Go.Au.pcS_len _) (Go.Au.pcR_len _) (Go.Au.pcH (b.take 3000)) (Go.Au.pcL (b.take 3000)) (r89.mono (hl120.trans (hl136.trans (hl154.trans (hl177.trans hl193))))) (r90.mono (hl120.trans (hl136.trans (hl154.trans (hl177.trans hl193))))) (r91.mono (hl120.trans (hl136.trans (hl154.trans (hl177.trans hl193))))) (r92.mono (hl120.trans (hl136.trans (hl154.trans (hl177.trans hl193))))) (r112.mono (hl136.trans (hl154.trans (hl177.trans hl193)))) (r113.mono (hl136.trans (hl154.trans (hl177.trans hl193)))) (r114.mono (hl136.trans (hl154.trans (hl177.trans hl193)))) (r115.mono (hl136.trans (hl154.trans (hl177.trans hl193)))) (by omega) (by omega) (by omega) (by omega)).mono ?_)
  rintro e w199 ⟨rfl, hB198⟩
  have S200 := S197.call hB198
  refine ⟨_, rfl, trivial, ?_⟩
  refine T_pev rfl rfl rfl rfl ?_
  refine T_pev rfl rfl rfl rfl ?_
  refine T_yes rfl rfl rfl ?_ rfl
  refine T_pev rfl rfl rfl rfl ?_
  refine T_yes rfl rfl rfl ?_ rfl
  refine T_pev rfl rfl rfl rfl ?_
  refine T_yes rfl rfl rfl ?_ rfl
  refine T_beq rfl rfl rfl rfl rfl rfl rfl ?_
  refine T_pev rfl rfl rfl rfl ?_
  refine T_pev rfl rfl rfl rfl ?_
  refine T_bool 59 true rfl (decide_eq_true (by first | rfl | omega)) ?_
  refine T_yes rfl rfl rfl ?_ rfl
  refine T_loadFS 1 S200 rfl rfl rfl rfl rfl rfl rfl rfl rfl (gV_size (L := [[.int .i64 (Go.Au.pcN (Go.Au.packP pn va vb vc vd vs vr sh sl (X.take 70) (Y.take 6) (Z.take 6) (B.take 100)))], [.int .i64 (Go.Au.pcA (Go.Au.packP pn va vb vc vd vs vr sh sl (X.take 70) (Y.take 6) (Z.take 6) (B.take 100)) 0)], [.int .i64 (Go.Au.pcA (Go.Au.packP pn va vb vc vd vs vr sh sl (X.take 70) (Y.take 6) (Z.take 6) (B.take 100)) 1)], [.int .i64 (Go.Au.pcA (Go.Au.packP pn va vb vc vd vs vr sh sl (X.take 70) (Y.take 6) (Z.take 6) (B.take 100)) 2)], [.int .i64 (Go.Au.pcA (Go.Au.packP pn va vb vc vd vs vr sh sl (X.take 70) (Y.take 6) (Z.take 6) (B.take 100)) 3)], (Go.Au.pcS (Go.Au.packP pn va vb vc vd vs vr sh sl (X.take 70) (Y.take 6) (Z.take 6) (B.take 100))).map bV, (Go.Au.pcR (Go.Au.packP pn va vb vc vd vs vr sh sl (X.take 70) (Y.take 6) (Z.take 6) (B.take 100))).map bV, [.int .i64 (Go.Au.pcH (Go.Au.packP pn va vb vc vd vs vr sh sl (X.take 70) (Y.take 6) (Z.take 6) (B.take 100)))], [.int .i64 (Go.Au.pcL (Go.Au.packP pn va vb vc vd vs vr sh sl (X.take 70) (Y.take 6) (Z.take 6) (B.take 100)))], [.slice a138 (Go.Au.pcV (Go.Au.packP pn va vb vc vd vs vr sh sl (X.take 70) (Y.take 6) (Z.take 6) (B.take 100))).length c139], [.slice a140 (Go.Au.pcP (Go.Au.packP pn va vb vc vd vs vr sh sl (X.take 70) (Y.take 6) (Z.take 6) (B.take 100))).length c141], [.slice a142 (Go.Au.pcQ (Go.Au.packP pn va vb vc vd vs vr sh sl (X.take 70) (Y.take 6) (Z.take 6) (B.take 100))).length c143], [.slice a144 (Go.Au.pcB (Go.Au.packP pn va vb vc vd vs vr sh sl (X.take 70) (Y.take 6) (Z.take 6) (B.take 100))).length c145]]) (ns := [1, 1, 1, 1, 1, 16, 32, 1, 1, 1, 1, 1, 1]) (Shp.cons rfl (Shp.cons rfl (Shp.cons rfl (Shp.cons rfl (Shp.cons rfl (Shp.cons (lenB (Go.Au.pcS_len _)) (Shp.cons (lenB (Go.Au.pcR_len _)) (Shp.cons rfl (Shp.cons rfl (Shp.cons rfl (Shp.cons rfl (Shp.cons rfl (Shp.cons rfl Shp.nil))))))))))))) rfl) ?_
  refine T_yes rfl rfl rfl ?_ rfl
  refine T_loadFS 0 S200 rfl rfl rfl rfl rfl rfl rfl rfl rfl (gV_size (L := [[.int .i64 (Go.Au.pcN (Go.Au.packP pn va vb vc vd vs vr sh sl (X.take 70) (Y.take 6) (Z.take 6) (B.take 100)))], [.int .i64 (Go.Au.pcA (Go.Au.packP pn va vb vc vd vs vr sh sl (X.take 70) (Y.take 6) (Z.take 6) (B.take 100)) 0)], [.int .i64 (Go.Au.pcA (Go.Au.packP pn va vb vc vd vs vr sh sl (X.take 70) (Y.take 6) (Z.take 6) (B.take 100)) 1)], [.int .i64 (Go.Au.pcA (Go.Au.packP pn va vb vc vd vs vr sh sl (X.take 70) (Y.take 6) (Z.take 6) (B.take 100)) 2)], [.int .i64 (Go.Au.pcA (Go.Au.packP pn va vb vc vd vs vr sh sl (X.take 70) (Y.take 6) (Z.take 6) (B.take 100)) 3)], (Go.Au.pcS (Go.Au.packP pn va vb vc vd vs vr sh sl (X.take 70) (Y.take 6) (Z.take 6) (B.take 100))).map bV, (Go.Au.pcR (Go.Au.packP pn va vb vc vd vs vr sh sl (X.take 70) (Y.take 6) (Z.take 6) (B.take 100))).map bV, [.int .i64 (Go.Au.pcH (Go.Au.packP pn va vb vc vd vs vr sh sl (X.take 70) (Y.take 6) (Z.take 6) (B.take 100)))], [.int .i64 (Go.Au.pcL (Go.Au.packP pn va vb vc vd vs vr sh sl (X.take 70) (Y.take 6) (Z.take 6) (B.take 100)))], [.slice a161 (Go.Au.pcV (Go.Au.packP pn va vb vc vd vs vr sh sl (X.take 70) (Y.take 6) (Z.take 6) (B.take 100))).length c162], [.slice a163 (Go.Au.pcP (Go.Au.packP pn va vb vc vd vs vr sh sl (X.take 70) (Y.take 6) (Z.take 6) (B.take 100))).length c164], [.slice a165 (Go.Au.pcQ (Go.Au.packP pn va vb vc vd vs vr sh sl (X.take 70) (Y.take 6) (Z.take 6) (B.take 100))).length c166], [.slice a167 (Go.Au.pcB (Go.Au.packP pn va vb vc vd vs vr sh sl (X.take 70) (Y.take 6) (Z.take 6) (B.take 100))).length c168]]) (ns := [1, 1, 1, 1, 1, 16, 32, 1, 1, 1, 1, 1, 1]) (Shp.cons rfl (Shp.cons rfl (Shp.cons rfl (Shp.cons rfl (Shp.cons rfl (Shp.cons (lenB (Go.Au.pcS_len _)) (Shp.cons (lenB (Go.Au.pcR_len _)) (Shp.cons rfl (Shp.cons rfl (Shp.cons rfl (Shp.cons rfl (Shp.cons rfl (Shp.cons rfl Shp.nil))))))))))))) rfl) ?_
  refine T_yes rfl rfl rfl ?_ rfl
  refine T_callS rfl rfl g_aumbry_aumbrykeep_Piece rfl rfl rfl rfl ((pieceEq_ok S200.le (Go.Au.pcN (Go.Au.packP pn va vb vc vd vs vr sh sl (X.take 70) (Y.take 6) (Z.take 6) (B.take 100))) (Go.Au.pcA (Go.Au.packP pn va vb vc vd vs vr sh sl (X.take 70) (Y.take 6) (Z.take 6) (B.take 100)) 0) (Go.Au.pcA (Go.Au.packP pn va vb vc vd vs vr sh sl (X.take 70) (Y.take 6) (Z.take 6) (B.take 100)) 1) (Go.Au.pcA (Go.Au.packP pn va vb vc vd vs vr sh sl (X.take 70) (Y.take 6) (Z.take 6) (B.take 100)) 2) (Go.Au.pcA (Go.Au.packP pn va vb vc vd vs vr sh sl (X.take 70) (Y.take 6) (Z.take 6) (B.take 100)) 3) (Go.Au.pcS_len _) (Go.Au.pcR_len _) (Go.Au.pcH (Go.Au.packP pn va vb vc vd vs vr sh sl (X.take 70) (Y.take 6) (Z.take 6) (B.take 100))) (Go.Au.pcL (Go.Au.packP pn va vb vc vd vs vr sh sl (X.take 70) (Y.take 6) (Z.take 6) (B.take 100))) (r146.mono (hl177.trans hl193)) (r147.mono (hl177.trans hl193)) (r148.mono (hl177.trans hl193)) (r149.mono (hl177.trans hl193)) (r169.mono hl193) (r170.mono hl193) (r171.mono hl193) (r172.mono hl193) (by omega) (by omega) (by omega) (by omega)).mono ?_)
  rintro e w202 ⟨rfl, hB201⟩
  have S203 := S200.call hB201
  refine ⟨_, rfl, trivial, ?_⟩
  refine T_pev rfl rfl rfl rfl ?_
  refine T_pev rfl rfl rfl rfl ?_
  refine T_yes rfl rfl rfl ?_ rfl
  refine T_callS rfl rfl g_aumbry_aumbrylaw14_wakes rfl rfl rfl rfl ((wakes_ok S203.le (hT.mono (hl70.trans (hl97.trans (hl120.trans (hl136.trans (hl154.trans (hl177.trans hl193)))))))).mono ?_)
  rintro e w205 ⟨rfl, hB204⟩
  have S206 := S203.call hB204
  refine ⟨_, rfl, trivial, ?_⟩
  refine T_pev rfl rfl rfl rfl ?_
  refine T_pev rfl rfl rfl rfl ?_
  refine T_nil ?_
  refine W_ret ?_
  refine ⟨_, ⟨_, _, rfl, rfl, rfl⟩, ?_⟩
  exact ⟨rfl, S206.below⟩

end Go.Proofs.YtmjmjjkigblbgaaDoor
