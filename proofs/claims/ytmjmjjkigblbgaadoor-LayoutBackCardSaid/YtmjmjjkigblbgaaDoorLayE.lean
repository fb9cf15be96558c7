/- Shares as bytes, and back. -/
import Derived.Test.YtmjmjjkigblbgaaDoorLayD
set_option linter.unusedVariables false
set_option linter.unusedSimpArgs false
set_option maxRecDepth 8192
namespace Go.Proofs.YtmjmjjkigblbgaaDoor
open Go Go.F Go.RowKit
open Go.Au

theorem sh_none {H : Hp} {w w' : World} {b : List UInt8} (h : ¬ ShOk b) (hB : Below w.heap.size w w') :
  ∃ a1 c1 a2 c2 a3 c3, Ending.returned (.tuple #[.agg #[.int .i64 0, .slice none 0 0, .slice none 0 0, .slice none 0 0], .bool false]) = .returned (.tuple #[.agg #[.int .i64 (shN b), .slice a1 (shU b).length c1, .slice a2 (shP b).length c2, .slice a3 (shB b).length c3], .bool (decide (ShOk b))]) ∧ Rd (F.ext H w.heap.size w') (.slice a1 (shU b).length c1) (shU b).length 1 ((shU b).map bV) ∧ RdH (F.ext H w.heap.size w') (.slice a2 (shP b).length c2) 32 (shP b) ∧ RdL (F.ext H w.heap.size w') (.slice a3 (shB b).length c3) (shB b) ∧ Below w.heap.size w w' := by
 rw [shN_no h, shU_no h, shP_no h, shB_no h, decide_eq_false h]
 exact ⟨none, 0, none, 0, none, 0, rfl, Rd.nil _ _, nilH _, nilS _, hB⟩
theorem sh_some {H : Hp} {w w' : World} {b : List UInt8} (h : ShOk b) {z : Int} {D1 : List UInt8} {D2 D3 : List (List UInt8)} {a1 a2 a3 : Option Addr} {n1 n2 n3 c1 c2 c3 : Nat} (hz : z = ((((row4 b 0).getD 0 0).toNat : Nat) : Int)) (e1 : D1 = row4 b 1) (e2 : D2 = hashN (row4 b 2)) (e3 : D3 = ntAll (shK b) (ntRest 4 b))
  (r1 : Rd (F.ext H w.heap.size w') (.slice a1 n1 c1) n1 1 (D1.map bV)) (r2 : RdH (F.ext H w.heap.size w') (.slice a2 n2 c2) 32 D2) (r3 : RdL (F.ext H w.heap.size w') (.slice a3 n3 c3) D3) (hB : Below w.heap.size w w') :
  ∃ a1' c1' a2' c2' a3' c3', Ending.returned (.tuple #[.agg #[.int .i64 z, .slice a1 n1 c1, .slice a2 n2 c2, .slice a3 n3 c3], .bool true]) = .returned (.tuple #[.agg #[.int .i64 (shN b), .slice a1' (shU b).length c1', .slice a2' (shP b).length c2', .slice a3' (shB b).length c3'], .bool (decide (ShOk b))]) ∧ Rd (F.ext H w.heap.size w') (.slice a1' (shU b).length c1') (shU b).length 1 ((shU b).map bV) ∧ RdH (F.ext H w.heap.size w') (.slice a2' (shP b).length c2') 32 (shP b) ∧ RdL (F.ext H w.heap.size w') (.slice a3' (shB b).length c3') (shB b) ∧ Below w.heap.size w w' := by
 have f1 := shN_yes h
 have f2 := shU_yes h
 have f3 := shP_yes h
 have f4 := shB_yes' h
 rw [← hz] at f1
 rw [← e1] at f2
 rw [← e2] at f3
 rw [← e3] at f4
 rw [f1, f2, f3, f4, decide_eq_true h]
 clear f1 f2 f3 f4 hz e1 e2 e3
 obtain rfl := r1.lenB
 obtain rfl := r2.len
 obtain rfl := r3.len
 exact ⟨a1, c1, a2, c2, a3, c3, rfl, r1, r2, r3, hB⟩
theorem packS_ok {H : Hp} {w : World} (hH : H.le (hw w)) (hT : Tabs H) (sn : Int) {u : List UInt8} {p B : List (List UInt8)} {a1 a2 a3 : Option Addr} {n1 n2 n3 c1 c2 c3 : Nat} (h1 : Rd H (.slice a1 n1 c1) n1 1 (u.map bV)) (h2 : RdH H (.slice a2 n2 c2) 32 p) (h3 : RdL H (.slice a3 n3 c3) B) (hn : sn ≤ 9223372036854775807) (hu : u.length ≤ 300) (hp : p.length ≤ 20) (hB : B.length ≤ 20) (hx : ∀ x ∈ B, x.length ≤ 100) :
  Calls Tryd.prog 21 #[.agg #[.int .i64 sn, .slice a1 n1 c1, .slice a2 n2 c2, .slice a3 n3 c3]] w fun e w' => ∃ a c, (packS sn u p B).length ≤ c ∧ e = .returned (.slice a (packS sn u p B).length c) ∧ rowZ w' w.heap.size 5 1 (.slice a (packS sn u p B).length c) (packS sn u p B).length ((packS sn u p B).map bV) ∧ Below w.heap.size w w' := by
 obtain rfl : n1 = u.length := h1.lenB
 obtain rfl : n2 = p.length := h2.len
 obtain rfl : n3 = B.length := h3.len
 have hl4 := head4_len sn (z := ((B.length : Nat) : Int)) hu hp h2.1
 have hnb := nets_cap (m := 100) (k := 20) (by decide) hB hx
 have hps := packS_len sn hu hp h2.1 hB hx
 have hpl : (packS sn u p B).length = (nets [Go.Sha.put (max 0 sn).toNat 1, u, flatTo [] p p.length, Go.Sha.put (max 0 ((B.length : Nat) : Int)).toNat 1]).length + (nets B).length := List.length_append
 refine enter1 _ Tryd.func21 rfl Tryd.ntmps21 Tryd.results21 rfl ?_
 have S0 := St.start w hH
 refine Wr (T_boxS S0 (fun _ _ => trivial) rfl rfl rfl rfl rfl rfl fun b1 w2 S3 => (Pv (T_nil (W_seq ?_))))
 obtain ⟨G5, hl6, S4, r7⟩ := S3.stillBlk 0 rfl
 refine W_plan (planF Tryd.prog G5 [8, 10, 13]) rfl (by kernel_rfl) S4.le ?_
 have S8 := S4.drew
 refine Fl 0 ?_
 refine Ac S8 (still_cell r7 rfl) ?_
 refine Cs g_aumbry_code_Put ((putN_ok S8.le sn 1 (by omega) (by omega)).mono ?_)
 rintro e w14 ⟨a9, c10, hc11, rfl, ho12, hB13⟩
 have S15 := S8.own hB13 ho12
 refine ⟨_, rfl, (((Hp.le.refl _)).trans S15.le), ?_⟩
 refine Fl 1 ?_
 refine Aj (still_cell r7 rfl) ?_
 refine Fl 2 ?_
 refine Aj (still_cell r7 rfl) ?_
 refine Cs g_aumbry_layout_row ((rowL_ok S15.le (h2.mono hl6) (by omega)).mono ?_)
 rintro e w21 ⟨a16, c17, hc18, rfl, ho19, hB20⟩
 have S22 := S15.own hB20 ho19
 refine ⟨_, rfl, (((Hp.le.refl _)).trans S22.le), ?_⟩
 refine Fl 3 ?_
 refine Aj (still_cell r7 rfl) ?_
 refine Pv ?_
 refine Cs g_aumbry_code_Put ((putN_ok S22.le ((B.length : Nat) : Int) 1 (by omega) (by omega)).mono ?_)
 rintro e w28 ⟨a23, c24, hc25, rfl, ho26, hB27⟩
 have S29 := S22.own hB27 ho26
 refine ⟨_, rfl, (((Hp.le.refl _)).trans S29.le), ?_⟩
 obtain ⟨G35, hl36, S34, r37⟩ := S29.stillRow 2 rfl
 obtain ⟨G39, hl40, S38, r41⟩ := S34.stillRow 1 rfl
 obtain ⟨G43, hl44, S42, r45⟩ := S38.stillRow 0 rfl
 have rs46 : Rds G43 [.slice a9 ((Go.Sha.put (max 0 sn).toNat 1).length) c10, .slice a1 u.length c1, .slice a16 ((flatTo [] p p.length).length) c17, .slice a23 ((Go.Sha.put (max 0 ((B.length : Nat) : Int)).toNat 1).length) c24] [Go.Sha.put (max 0 sn).toNat 1, u, flatTo [] p p.length, Go.Sha.put (max 0 ((B.length : Nat) : Int)).toNat 1] := Rds.cons (Rd.canonB (r37.mono (hl40.trans hl44))) (Rds.cons (Rd.canonB (h1.mono (hl6.trans (hl36.trans (hl40.trans hl44))))) (Rds.cons (Rd.canonB (r41.mono hl44)) (Rds.cons (Rd.canonB r45) (Rds.nil _))))
 refine Ae (hone := by simp [Value.cells]; rfl) [.slice a9 ((Go.Sha.put (max 0 sn).toNat 1).length) c10, .slice a1 u.length c1, .slice a16 ((flatTo [] p p.length).length) c17, .slice a23 ((Go.Sha.put (max 0 ((B.length : Nat) : Int)).toNat 1).length) c24] fun a30 w31 hB32 ho33 => ?_
 have S47 := S42.own hB32 ho33
 refine ⟨(((hl36.trans (hl40.trans hl44))).trans S47.le), ?_⟩
 obtain ⟨G49, hl50, S48, r51⟩ := S47.stillRow 0 rfl
 have r52 := RdL.mk r51 (rs46.mono hl50)
 refine Cs g_aumbry_code_Nets ((nets_ok S48.le (hT.mono (hl6.trans (hl36.trans (hl40.trans (hl44.trans hl50))))) r52 (by omega)).mono ?_)
 rintro e w58 ⟨a53, c54, hc55, rfl, ho56, hB57⟩
 have S59 := S48.own hB57 ho56
 refine ⟨_, rfl, (((hl36.trans (hl40.trans (hl44.trans hl50)))).trans S59.le), ?_⟩
 refine Pv (Nr ?_)
 refine Pv ?_
 refine Fl 3 ?_
 refine Ac S59 (still_cell (hl50 _ _ (hl44 _ _ (hl40 _ _ (hl36 _ _ r7)))) rfl) ?_
 refine Cs g_aumbry_code_Nets ((nets_ok S59.le (hT.mono (hl6.trans (hl36.trans (hl40.trans (hl44.trans hl50))))) (h3.mono (hl6.trans (hl36.trans (hl40.trans (hl44.trans hl50))))) (by omega)).mono ?_)
 rintro e w65 ⟨a60, c61, hc62, rfl, ho63, hB64⟩
 have S66 := S59.own hB64 ho63
 refine ⟨_, rfl, trivial, ?_⟩
 have hD67 : (nets ([Go.Sha.put (max 0 sn).toNat 1, u, flatTo [] p p.length, Go.Sha.put (max 0 ((B.length : Nat) : Int)).toNat 1]) ++ nets B) = packS sn u p B := rfl
 refine Af (hn' := by first | rfl | (simp; done) | (simp; omega) | omega) (hx' := by rw [← hD67]; simp) (hbytes := by show _ * 1 ≤ _; omega) 1 ((packS sn u p B).length) ((packS sn u p B).map bV) S66 (S66.rd 0 rfl) (one_bV _) fun a68 c69 w70 hc71 S72 => ?_
 refine Pv (T_nil (W_ret ?_))
 refine ⟨_, ⟨_, _, rfl, rfl, rfl⟩, ?_⟩
 exact ⟨_, _, hc71, rfl, S72.row 1 rfl, S72.below⟩


theorem unpackS_ok {H : Hp} {w : World} (hH : H.le (hw w)) {b : List UInt8} {aa0 : Option Addr} {nn0 cc0 : Nat} (hv : Rd H (.slice aa0 nn0 cc0) nn0 1 (b.map bV)) (hb : b.length ≤ 100000) :
  Calls Tryd.prog 27 #[.slice aa0 nn0 cc0] w fun e w' => ∃ a1 c1 a2 c2 a3 c3, e = .returned (.tuple #[.agg #[.int .i64 (shN b), .slice a1 (shU b).length c1, .slice a2 (shP b).length c2, .slice a3 (shB b).length c3], .bool (decide (ShOk b))]) ∧ Rd (F.ext H w.heap.size w') (.slice a1 (shU b).length c1) (shU b).length 1 ((shU b).map bV) ∧ RdH (F.ext H w.heap.size w') (.slice a2 (shP b).length c2) 32 (shP b) ∧ RdL (F.ext H w.heap.size w') (.slice a3 (shB b).length c3) (shB b) ∧ Below w.heap.size w w' := by
 obtain rfl : nn0 = b.length := hv.lenB
 have hvcap : b.length ≤ cc0 := hv.capOf
 have htr := ntTr_le 4 b
 refine enter1 _ Tryd.func27 rfl Tryd.ntmps27 Tryd.results27 rfl ?_
 have S0 := St.start w hH
 refine Wr (Ad S0 fun b1 w2 S3 => ?_)
 refine Pv (T_nil (W_seq (Wr ?_)))
 iterate 3 refine Pv ?_
 refine T_nil (Aa (fun h4 => ?_) (fun h4 => ?_))
 ·refine Wr (T_buildS (cells := #[.int .i64 0, .slice none 0 0, .slice none 0 0, .slice none 0 0]) rfl rfl rfl rfl rfl rfl rfl rfl rfl rfl (Ah (hl := by first | rfl | simp [hVs, *]) (hl2 := by first | rfl | simp [hVs, *]) 0 S3 (one_all rfl) fun w5 S6 => ?_))
  refine Pv (T_nil (W_ret ?_))
  refine ⟨_, ⟨_, _, _, rfl, rfl, run_loadVarA rfl rfl (by first | rfl | simp [hVs, *]) (S6.cells 0 rfl), ⟨_, _, rfl, rfl, rfl⟩⟩, ?_⟩
  have HNO : ¬ ShOk b := by
   intro hq
   obtain ⟨q0, q1, q2, q3, q4, q5, q6, q7⟩ := hq
   first | exact h4 q1 | omega | exact h4 (by rw [ntTr_yes q1]; exact q7)
  exact sh_none HNO S6.below
 refine W_skip (Wr (Pv ?_))
 refine Cs g_aumbry_layout_takes ((takes_ok S3.le hv 4 (by omega) (by omega)).mono ?_)
 rintro e w14 ⟨a7, c8, a9, c10, rfl, r11, r12, hB13⟩
 obtain ⟨G16, eG18⟩ : ∃ G, G = F.ext H w2.heap.size w14 := ⟨_, rfl⟩
 obtain ⟨hl17, S15⟩ := S3.ext hB13
 rw [← eG18] at hl17 S15 r11 r12
 refine ⟨_, rfl, trivial, ?_⟩
 iterate 7 refine Pv ?_
 refine T_nil (W_seq (Wr ?_))
 iterate 3 refine Pv ?_
 refine T_part (t := 22) rfl (List.cons_ne_nil _ _) (fun h19' => ?_) (fun h19' => ?_)
 ·have h19 := of_ndec_t h19'
  iterate 5 refine No ?_
  iterate 2 refine Pv ?_
  iterate 5 refine No ?_
  iterate 2 refine Pv ?_
  iterate 6 refine No ?_
  iterate 2 refine Pv ?_
  iterate 6 refine No ?_
  refine Pv (T_nil ?_)
  refine W_cond_true rfl (Wr (T_buildS (cells := #[.int .i64 0, .slice none 0 0, .slice none 0 0, .slice none 0 0]) rfl rfl rfl rfl rfl rfl rfl rfl rfl rfl (Ah (hl := by first | rfl | simp [hVs, *]) (hl2 := by first | rfl | simp [hVs, *]) 0 S15 (one_all rfl) fun w20 S21 => ?_)))
  refine Pv (T_nil (W_ret ?_))
  refine ⟨_, ⟨_, _, _, rfl, rfl, run_loadVarA rfl rfl (by first | rfl | simp [hVs, *]) (S21.cells 0 rfl), ⟨_, _, rfl, rfl, rfl⟩⟩, ?_⟩
  have HNO : ¬ ShOk b := by
   intro hq
   obtain ⟨q0, q1, q2, q3, q4, q5, q6, q7⟩ := hq
   first | exact h19 q1 | omega | exact h19 (by rw [ntTr_yes q1]; exact q7)
  exact sh_none HNO S21.below
 have h19 := of_ndec_f h19'
 refine Ys ?_
 refine Pv ?_
 refine Ys ?_
 have HA := h19
 have hn4 := ntTk_len HA
 have R0 : (ntTk 4 b).getD 0 [] = row4 b 0 := ntTk_get HA (by decide)
 have L0 := congrArg List.length R0
 have B0 : (((ntTk 4 b).getD 0 []).getD 0 0).toNat = ((row4 b 0).getD 0 0).toNat := congrArg (fun q : List UInt8 => (q.getD 0 0).toNat) R0
 have N0 : (row4 b 0).length ≤ b.length := row4_le b 0
 have R1 : (ntTk 4 b).getD 1 [] = row4 b 1 := ntTk_get HA (by decide)
 have L1 := congrArg List.length R1
 have B1 : (((ntTk 4 b).getD 1 []).getD 0 0).toNat = ((row4 b 1).getD 0 0).toNat := congrArg (fun q : List UInt8 => (q.getD 0 0).toNat) R1
 have N1 : (row4 b 1).length ≤ b.length := row4_le b 1
 have R2 : (ntTk 4 b).getD 2 [] = row4 b 2 := ntTk_get HA (by decide)
 have L2 := congrArg List.length R2
 have B2 : (((ntTk 4 b).getD 2 []).getD 0 0).toNat = ((row4 b 2).getD 0 0).toNat := congrArg (fun q : List UInt8 => (q.getD 0 0).toNat) R2
 have N2 : (row4 b 2).length ≤ b.length := row4_le b 2
 have R3 : (ntTk 4 b).getD 3 [] = row4 b 3 := ntTk_get HA (by decide)
 have L3 := congrArg List.length R3
 have B3 : (((ntTk 4 b).getD 3 []).getD 0 0).toNat = ((row4 b 3).getD 0 0).toNat := congrArg (fun q : List UInt8 => (q.getD 0 0).toNat) R3
 have N3 : (row4 b 3).length ≤ b.length := row4_le b 3
 have HK : shK b = ((row4 b 3).getD 0 0).toNat := rfl
 obtain ⟨hs25, r26, r27⟩ := (id r11)
 refine Ag 0 r26 fun b22 o23 hc24 => ?_
 obtain ⟨a30, c31, hc33, hv29, r32⟩ := r27.at 0 (by omega)
 have hc34 := hc24 0 (.slice a30 ((ntTk 4 b).getD 0 []).length c31) (by simpa using hv29)
 simp only [Nat.add_zero] at hc34
 refine Ys ?_
 refine Ac S15 hc34 ?_
 iterate 2 (refine Ys ?_; refine Pv ?_)
 iterate 2 refine Pv ?_
 refine T_part (t := 29) rfl (List.cons_ne_nil _ _) (fun h35' => ?_) (fun h35' => ?_)
 ·have h35 := of_ndec_t h35'
  iterate 5 refine No ?_
  iterate 2 refine Pv ?_
  iterate 6 refine No ?_
  iterate 2 refine Pv ?_
  iterate 6 refine No ?_
  refine Pv (T_nil ?_)
  refine W_cond_true rfl (Wr (T_buildS (cells := #[.int .i64 0, .slice none 0 0, .slice none 0 0, .slice none 0 0]) rfl rfl rfl rfl rfl rfl rfl rfl rfl rfl (Ah (hl := by first | rfl | simp [hVs, *]) (hl2 := by first | rfl | simp [hVs, *]) 0 S15 (one_all rfl) fun w36 S37 => ?_)))
  refine Pv (T_nil (W_ret ?_))
  refine ⟨_, ⟨_, _, _, rfl, rfl, run_loadVarA rfl rfl (by first | rfl | simp [hVs, *]) (S37.cells 0 rfl), ⟨_, _, rfl, rfl, rfl⟩⟩, ?_⟩
  have HNO : ¬ ShOk b := by
   intro hq
   obtain ⟨q0, q1, q2, q3, q4, q5, q6, q7⟩ := hq
   first | exact h35 q1 | omega | exact h35 (by rw [ntTr_yes q1]; exact q7)
  exact sh_none HNO S37.below
 have h35 := of_ndec_f h35'
 refine Ys ?_
 refine Pv ?_
 refine Ys ?_
 obtain ⟨hs41, r42, r43⟩ := (id r11)
 refine Ag 3 r42 fun b38 o39 hc40 => ?_
 obtain ⟨a46, c47, hc49, hv45, r48⟩ := r43.at 3 (by omega)
 have hc50 := hc40 0 (.slice a46 ((ntTk 4 b).getD 3 []).length c47) (by simpa using hv45)
 simp only [Nat.add_zero] at hc50
 refine Ys ?_
 refine Ac S15 hc50 ?_
 iterate 2 (refine Ys ?_; refine Pv ?_)
 iterate 2 refine Pv ?_
 refine T_part (t := 36) rfl (List.cons_ne_nil _ _) (fun h51' => ?_) (fun h51' => ?_)
 ·have h51 := of_ndec_t h51'
  iterate 6 refine No ?_
  iterate 2 refine Pv ?_
  iterate 6 refine No ?_
  refine Pv (T_nil ?_)
  refine W_cond_true rfl (Wr (T_buildS (cells := #[.int .i64 0, .slice none 0 0, .slice none 0 0, .slice none 0 0]) rfl rfl rfl rfl rfl rfl rfl rfl rfl rfl (Ah (hl := by first | rfl | simp [hVs, *]) (hl2 := by first | rfl | simp [hVs, *]) 0 S15 (one_all rfl) fun w52 S53 => ?_)))
  refine Pv (T_nil (W_ret ?_))
  refine ⟨_, ⟨_, _, _, rfl, rfl, run_loadVarA rfl rfl (by first | rfl | simp [hVs, *]) (S53.cells 0 rfl), ⟨_, _, rfl, rfl, rfl⟩⟩, ?_⟩
  have HNO : ¬ ShOk b := by
   intro hq
   obtain ⟨q0, q1, q2, q3, q4, q5, q6, q7⟩ := hq
   first | exact h51 q1 | omega | exact h51 (by rw [ntTr_yes q1]; exact q7)
  exact sh_none HNO S53.below
 have h51 := of_ndec_f h51'
 refine Ys ?_
 refine Pv ?_
 refine Ys ?_
 obtain ⟨hs57, r58, r59⟩ := (id r11)
 refine Ag 0 r58 fun b54 o55 hc56 => ?_
 obtain ⟨a62, c63, hc65, hv61, r64⟩ := r59.at 0 (by omega)
 have hc66 := hc56 0 (.slice a62 ((ntTk 4 b).getD 0 []).length c63) (by simpa using hv61)
 simp only [Nat.add_zero] at hc66
 refine Ys ?_
 refine Ac S15 hc66 ?_
 refine Ys ?_
 refine Ag 0 r64 fun b67 o68 hc69 => ?_
 have hc70 := hc69 0 (bV (((ntTk 4 b).getD 0 []).getD 0 0)) (at_b ((ntTk 4 b).getD 0 []) 0 (by omega))
 simp only [Nat.add_zero] at hc70
 refine Ys ?_
 refine Ac S15 hc70 ?_
 refine Ys ?_
 iterate 3 refine Pv ?_
 refine T_part (t := 44) rfl (List.cons_ne_nil _ _) (fun h71' => ?_) (fun h71' => ?_)
 ·have h71 := of_decide_eq_true h71'
  iterate 6 refine No ?_
  refine Pv (T_nil ?_)
  refine W_cond_true rfl (Wr (T_buildS (cells := #[.int .i64 0, .slice none 0 0, .slice none 0 0, .slice none 0 0]) rfl rfl rfl rfl rfl rfl rfl rfl rfl rfl (Ah (hl := by first | rfl | simp [hVs, *]) (hl2 := by first | rfl | simp [hVs, *]) 0 S15 (one_all rfl) fun w72 S73 => ?_)))
  refine Pv (T_nil (W_ret ?_))
  refine ⟨_, ⟨_, _, _, rfl, rfl, run_loadVarA rfl rfl (by first | rfl | simp [hVs, *]) (S73.cells 0 rfl), ⟨_, _, rfl, rfl, rfl⟩⟩, ?_⟩
  have HNO : ¬ ShOk b := by
   intro hq
   obtain ⟨q0, q1, q2, q3, q4, q5, q6, q7⟩ := hq
   first | exact h71 q1 | omega | exact h71 (by rw [ntTr_yes q1]; exact q7)
  exact sh_none HNO S73.below
 have h71 := of_decide_eq_false h71'
 refine Ys ?_
 refine Pv ?_
 refine Ys ?_
 obtain ⟨hs77, r78, r79⟩ := (id r11)
 refine Ag 3 r78 fun b74 o75 hc76 => ?_
 obtain ⟨a82, c83, hc85, hv81, r84⟩ := r79.at 3 (by omega)
 have hc86 := hc76 0 (.slice a82 ((ntTk 4 b).getD 3 []).length c83) (by simpa using hv81)
 simp only [Nat.add_zero] at hc86
 refine Ys ?_
 refine Ac S15 hc86 ?_
 refine Ys ?_
 refine Ag 0 r84 fun b87 o88 hc89 => ?_
 have hc90 := hc89 0 (bV (((ntTk 4 b).getD 3 []).getD 0 0)) (at_b ((ntTk 4 b).getD 3 []) 0 (by omega))
 simp only [Nat.add_zero] at hc90
 refine Ys ?_
 refine Ac S15 hc90 ?_
 refine Ys ?_
 iterate 2 refine Pv ?_
 refine T_nil (Aa (fun h91 => ?_) (fun h91 => ?_))
 ·refine Wr (T_buildS (cells := #[.int .i64 0, .slice none 0 0, .slice none 0 0, .slice none 0 0]) rfl rfl rfl rfl rfl rfl rfl rfl rfl rfl (Ah (hl := by first | rfl | simp [hVs, *]) (hl2 := by first | rfl | simp [hVs, *]) 0 S15 (one_all rfl) fun w92 S93 => ?_))
  refine Pv (T_nil (W_ret ?_))
  refine ⟨_, ⟨_, _, _, rfl, rfl, run_loadVarA rfl rfl (by first | rfl | simp [hVs, *]) (S93.cells 0 rfl), ⟨_, _, rfl, rfl, rfl⟩⟩, ?_⟩
  have HNO : ¬ ShOk b := by
   intro hq
   obtain ⟨q0, q1, q2, q3, q4, q5, q6, q7⟩ := hq
   first | exact h91 q1 | omega | exact h91 (by rw [ntTr_yes q1]; exact q7)
  exact sh_none HNO S93.below
 refine W_skip (Wr (Pv ?_))
 obtain ⟨hs97, r98, r99⟩ := (id r11)
 refine Ag 2 r98 fun b94 o95 hc96 => ?_
 obtain ⟨a102, c103, hc105, hv101, r104⟩ := r99.at 2 (by omega)
 have hc106 := hc96 0 (.slice a102 ((ntTk 4 b).getD 2 []).length c103) (by simpa using hv101)
 simp only [Nat.add_zero] at hc106
 refine Ac S15 hc106 ?_
 refine Cs g_aumbry_layout_hashes ((hashesL_ok S15.le r104 (by omega)).mono ?_)
 rintro e w112 ⟨a107, c108, hc109, rfl, r110, hB111⟩
 obtain ⟨G114, eG116⟩ : ∃ G, G = F.ext G16 w14.heap.size w112 := ⟨_, rfl⟩
 obtain ⟨hl115, S113⟩ := S15.ext hB111
 rw [← eG116] at hl115 S113 r110
 refine ⟨_, rfl, trivial, ?_⟩
 iterate 5 refine Pv ?_
 refine Nr ?_
 iterate 2 refine Pv ?_
 obtain ⟨hs120, r121, r122⟩ := (r11.mono hl115)
 refine Ag 3 r121 fun b117 o118 hc119 => ?_
 obtain ⟨a125, c126, hc128, hv124, r127⟩ := r122.at 3 (by omega)
 have hc129 := hc119 0 (.slice a125 ((ntTk 4 b).getD 3 []).length c126) (by simpa using hv124)
 simp only [Nat.add_zero] at hc129
 refine Ac S113 hc129 ?_
 refine Ag 0 r127 fun b130 o131 hc132 => ?_
 have hc133 := hc132 0 (bV (((ntTk 4 b).getD 3 []).getD 0 0)) (at_b ((ntTk 4 b).getD 3 []) 0 (by omega))
 simp only [Nat.add_zero] at hc133
 refine Ac S113 hc133 ?_
 refine T_b2i rfl rfl rfl rfl rfl rfl rfl (T_re (v' := .int .i64 (((shK b) : Nat) : Int)) (congrArg (fun q : Nat => Value.int .i64 (q : Int)) B3) (Cs g_aumbry_code_TakeNets ((takeNets_ok S113.le (r12.mono hl115) (shK b) (by omega) (by omega)).mono ?_)))
 rintro e w138 ⟨a134, c135, rfl, r136, hB137⟩
 obtain ⟨G140, eG142⟩ : ∃ G, G = F.ext G114 w112.heap.size w138 := ⟨_, rfl⟩
 obtain ⟨hl141, S139⟩ := S113.ext hB137
 rw [← eG142] at hl141 S139 r136
 refine ⟨_, rfl, trivial, ?_⟩
 iterate 5 refine Pv ?_
 refine T_nil (W_seq (Wr ?_))
 iterate 3 refine Pv ?_
 refine T_part (t := 73) rfl (List.cons_ne_nil _ _) (fun h143' => ?_) (fun h143' => ?_)
 ·have h143 := of_ndec_t h143'
  iterate 2 refine No ?_
  refine Pv (T_nil ?_)
  refine W_cond_true rfl (Wr (T_buildS (cells := #[.int .i64 0, .slice none 0 0, .slice none 0 0, .slice none 0 0]) rfl rfl rfl rfl rfl rfl rfl rfl rfl rfl (Ah (hl := by first | rfl | simp [hVs, *]) (hl2 := by first | rfl | simp [hVs, *]) 0 S139 (one_all rfl) fun w144 S145 => ?_)))
  refine Pv (T_nil (W_ret ?_))
  refine ⟨_, ⟨_, _, _, rfl, rfl, run_loadVarA rfl rfl (by first | rfl | simp [hVs, *]) (S145.cells 0 rfl), ⟨_, _, rfl, rfl, rfl⟩⟩, ?_⟩
  have HNO : ¬ ShOk b := by
   intro hq
   obtain ⟨q0, q1, q2, q3, q4, q5, q6, q7⟩ := hq
   first | exact h143 q1 | omega | exact h143 (by rw [ntTr_yes q1]; exact q7)
  exact sh_none HNO S145.below
 have h143 := of_ndec_f h143'
 iterate 2 (refine Ys ?_; refine Pv ?_)
 refine Pv (T_nil ?_)
 refine W_cond_not rfl (fun h146 => ?_) (fun h146 => ?_)
 ·refine Wr (T_buildS (cells := #[.int .i64 0, .slice none 0 0, .slice none 0 0, .slice none 0 0]) rfl rfl rfl rfl rfl rfl rfl rfl rfl rfl (Ah (hl := by first | rfl | simp [hVs, *]) (hl2 := by first | rfl | simp [hVs, *]) 0 S139 (one_all rfl) fun w147 S148 => ?_))
  refine Pv (T_nil (W_ret ?_))
  refine ⟨_, ⟨_, _, _, rfl, rfl, run_loadVarA rfl rfl (by first | rfl | simp [hVs, *]) (S148.cells 0 rfl), ⟨_, _, rfl, rfl, rfl⟩⟩, ?_⟩
  have HNO : ¬ ShOk b := by
   intro hq
   obtain ⟨q0, q1, q2, q3, q4, q5, q6, q7⟩ := hq
   first | exact h146 q1 | omega | exact h146 (by rw [ntTr_yes q1]; exact q7)
  exact sh_none HNO S148.below
 refine W_skip (W_seq (W_draw rfl (by kernel_rfl) ?_))
 have S149 := S139.drew
 refine Pv ?_
 have HOK : ShOk b := ⟨by omega, HA, by omega, by omega, by omega, by omega, by omega, by have h := h146; rwa [ntTr_yes HA] at h⟩
 have E1 := R1
 have E2 : Go.Au.chunks ((ntTk 4 b).getD 2 []) (((ntTk 4 b).getD 2 []).length / 32) = hashN (row4 b 2) := by rw [R2, hashN_yes HOK.2.2.2.2.2.2.1]
 have E3 : ntAll (shK b) (ntTr 4 b) = ntAll (shK b) (ntRest 4 b) := by rw [ntTr_yes HA]
 obtain ⟨hs153, r154, r155⟩ := (r11.mono (hl115.trans hl141))
 refine Ag 0 r154 fun b150 o151 hc152 => ?_
 obtain ⟨a158, c159, hc161, hv157, r160⟩ := r155.at 0 (by omega)
 have hc162 := hc152 0 (.slice a158 ((ntTk 4 b).getD 0 []).length c159) (by simpa using hv157)
 simp only [Nat.add_zero] at hc162
 refine Ac S149 hc162 ?_
 refine Ag 0 r160 fun b163 o164 hc165 => ?_
 have hc166 := hc165 0 (bV (((ntTk 4 b).getD 0 []).getD 0 0)) (at_b ((ntTk 4 b).getD 0 []) 0 (by omega))
 simp only [Nat.add_zero] at hc166
 refine Ac S149 hc166 ?_
 refine T_b2i rfl rfl rfl rfl rfl rfl rfl (T_re (v' := .int .i64 ((((row4 b 0).getD 0 0).toNat : Nat) : Int)) (congrArg (fun q : Nat => Value.int .i64 (q : Int)) B0) (Pv ?_))
 obtain ⟨hs170, r171, r172⟩ := (r11.mono (hl115.trans hl141))
 refine Ag 1 r171 fun b167 o168 hc169 => ?_
 obtain ⟨a175, c176, hc178, hv174, r177⟩ := r172.at 1 (by omega)
 have hc179 := hc169 0 (.slice a175 ((ntTk 4 b).getD 1 []).length c176) (by simpa using hv174)
 simp only [Nat.add_zero] at hc179
 refine Ac S149 hc179 ?_
 iterate 2 refine Pv ?_
 refine T_buildS (cells := #[.int .i64 ((((row4 b 0).getD 0 0).toNat : Nat) : Int), .slice a175 ((ntTk 4 b).getD 1 []).length c176, .slice a107 (Go.Au.chunks ((ntTk 4 b).getD 2 []) (((ntTk 4 b).getD 2 []).length / 32)).length c108, .slice a134 (ntAll (shK b) (ntTr 4 b)).length c135]) rfl rfl rfl rfl rfl rfl rfl rfl rfl rfl (Ah (hl := by first | rfl | simp [hVs, *]) (hl2 := by first | rfl | simp [hVs, *]) 0 S149 (one_all rfl) fun w180 S181 => ?_)
 refine Pv (T_nil (W_ret ?_))
 refine ⟨_, ⟨_, _, _, rfl, rfl, run_loadVarA rfl rfl (by first | rfl | simp [hVs, *]) (S181.cells 0 rfl), ⟨_, _, rfl, rfl, rfl⟩⟩, ?_⟩
 exact sh_some HOK rfl E1 E2 E3 ((r177).mono S181.fin) (((r110.mono hl141)).mono S181.fin) ((r136).mono S181.fin) S181.below


end Go.Proofs.YtmjmjjkigblbgaaDoor
