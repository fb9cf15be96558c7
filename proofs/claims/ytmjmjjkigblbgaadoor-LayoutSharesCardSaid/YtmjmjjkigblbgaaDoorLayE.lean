/- Shares as bytes, and back. -/
import Derived.Test.YtmjmjjkigblbgaaDoorLayD
set_option linter.unusedVariables false
set_option linter.unusedSimpArgs false
set_option maxRecDepth 8192
namespace Go.Proofs.YtmjmjjkigblbgaaDoor
open Go Go.F Go.RowKit

theorem sh_none {H : Hp} {w w' : World} {b : List UInt8} (h : ¬ Go.Au.ShOk b) (hB : Below w.heap.size w w') :
    ∃ a1 c1 a2 c2 a3 c3, Ending.returned (.tuple #[.agg #[.int .i64 0, .slice none 0 0, .slice none 0 0, .slice none 0 0], .bool false]) = .returned (.tuple #[.agg #[.int .i64 (Go.Au.shN b), .slice a1 (Go.Au.shU b).length c1, .slice a2 (Go.Au.shP b).length c2, .slice a3 (Go.Au.shB b).length c3], .bool (decide (Go.Au.ShOk b))]) ∧ Rd (F.ext H w.heap.size w') (.slice a1 (Go.Au.shU b).length c1) (Go.Au.shU b).length 1 ((Go.Au.shU b).map bV) ∧ RdH (F.ext H w.heap.size w') (.slice a2 (Go.Au.shP b).length c2) 32 (Go.Au.shP b) ∧ RdL (F.ext H w.heap.size w') (.slice a3 (Go.Au.shB b).length c3) (Go.Au.shB b) ∧ Below w.heap.size w w' := by
  rw [Go.Au.shN_no h, Go.Au.shU_no h, Go.Au.shP_no h, Go.Au.shB_no h, decide_eq_false h]
  exact ⟨none, 0, none, 0, none, 0, rfl, Rd.nil _ _, nilH _, nilS _, hB⟩
theorem sh_some {H : Hp} {w w' : World} {b : List UInt8} (h : Go.Au.ShOk b) {z : Int} {D1 : List UInt8} {D2 D3 : List (List UInt8)} {a1 a2 a3 : Option Addr} {n1 n2 n3 c1 c2 c3 : Nat} (hz : z = ((((Go.Au.row4 b 0).getD 0 0).toNat : Nat) : Int)) (e1 : D1 = Go.Au.row4 b 1) (e2 : D2 = Go.Au.hashN (Go.Au.row4 b 2)) (e3 : D3 = Go.Au.ntAll (Go.Au.shK b) (Go.Au.ntRest 4 b))
    (r1 : Rd (F.ext H w.heap.size w') (.slice a1 n1 c1) n1 1 (D1.map bV)) (r2 : RdH (F.ext H w.heap.size w') (.slice a2 n2 c2) 32 D2) (r3 : RdL (F.ext H w.heap.size w') (.slice a3 n3 c3) D3) (hB : Below w.heap.size w w') :
    ∃ a1' c1' a2' c2' a3' c3', Ending.returned (.tuple #[.agg #[.int .i64 z, .slice a1 n1 c1, .slice a2 n2 c2, .slice a3 n3 c3], .bool true]) = .returned (.tuple #[.agg #[.int .i64 (Go.Au.shN b), .slice a1' (Go.Au.shU b).length c1', .slice a2' (Go.Au.shP b).length c2', .slice a3' (Go.Au.shB b).length c3'], .bool (decide (Go.Au.ShOk b))]) ∧ Rd (F.ext H w.heap.size w') (.slice a1' (Go.Au.shU b).length c1') (Go.Au.shU b).length 1 ((Go.Au.shU b).map bV) ∧ RdH (F.ext H w.heap.size w') (.slice a2' (Go.Au.shP b).length c2') 32 (Go.Au.shP b) ∧ RdL (F.ext H w.heap.size w') (.slice a3' (Go.Au.shB b).length c3') (Go.Au.shB b) ∧ Below w.heap.size w w' := by
  have f1 := Go.Au.shN_yes h
  have f2 := Go.Au.shU_yes h
  have f3 := Go.Au.shP_yes h
  have f4 := Go.Au.shB_yes' h
  rw [← hz] at f1
  rw [← e1] at f2
  rw [← e2] at f3
  rw [← e3] at f4
  rw [f1, f2, f3, f4, decide_eq_true h]
  clear f1 f2 f3 f4 hz e1 e2 e3
  obtain rfl := r1.lenB
  obtain rfl := r2.len
  obtain rfl := r3.len
  exact ⟨a1, c1, a2, c2, a3, c3, rfl, r1, r2, r3, hB⟩
theorem lt_succ_all {P : Nat → Prop} {k : Nat} (h : ∀ m, m < k → P m) (h1 : P k) : ∀ m, m < k + 1 → P m := by
  intro m hm
  by_cases e : m = k
  · rw [e]; exact h1
  · exact h m (by omega)
theorem take_drop4 {X : List (List UInt8)} {j : Nat} (h : 4 + j < X.length) : (X.drop 4).take j ++ [X.getD (4 + j) []] = (X.drop 4).take (j + 1) := by
  rw [List.take_succ_eq_append_getElem (by rw [List.length_drop]; omega), List.getElem_drop, List.getD_eq_getElem?_getD, List.getElem?_eq_getElem h]; rfl
theorem packS_ok {H : Hp} {w : World} (hH : H.le (hw w)) (hT : Tabs H) (sn : Int) {u : List UInt8} {p B : List (List UInt8)} {a1 a2 a3 : Option Addr} {n1 n2 n3 c1 c2 c3 : Nat} (h1 : Rd H (.slice a1 n1 c1) n1 1 (u.map bV)) (h2 : RdH H (.slice a2 n2 c2) 32 p) (h3 : RdL H (.slice a3 n3 c3) B) (hn : sn ≤ 9223372036854775807) (hu : u.length ≤ 300) (hp : p.length ≤ 20) (hB : B.length ≤ 20) (hx : ∀ x ∈ B, x.length ≤ 100) :
    Calls Tryd.prog 21 #[.agg #[.int .i64 sn, .slice a1 n1 c1, .slice a2 n2 c2, .slice a3 n3 c3]] w fun e w' => ∃ a c, (Go.Au.packS sn u p B).length ≤ c ∧ e = .returned (.slice a (Go.Au.packS sn u p B).length c) ∧ rowZ w' w.heap.size 5 1 (.slice a (Go.Au.packS sn u p B).length c) (Go.Au.packS sn u p B).length ((Go.Au.packS sn u p B).map bV) ∧ Below w.heap.size w w' := by
  obtain rfl : n1 = u.length := h1.lenB
  obtain rfl : n2 = p.length := h2.len
  obtain rfl : n3 = B.length := h3.len
  have hl4 := Go.Au.head4_len sn (z := ((B.length : Nat) : Int)) hu hp h2.1
  have hnb := Go.Au.nets_cap (m := 100) (k := 20) (by decide) hB hx
  have hps := Go.Au.packS_len sn hu hp h2.1 hB hx
  have hpl : (Go.Au.packS sn u p B).length = (Go.Au.nets [Go.Sha.put (max 0 sn).toNat 1, u, Go.Au.flatTo [] p p.length, Go.Sha.put (max 0 ((B.length : Nat) : Int)).toNat 1]).length + (Go.Au.nets B).length := List.length_append
  refine enter1 _ Tryd.func21 rfl Tryd.ntmps21 Tryd.results21 rfl ?_
  have S0 := St.start w hH
  refine W_seq ?_
  refine W_region ?_
  refine T_boxS S0 (fun _ _ => trivial) rfl rfl rfl rfl rfl rfl fun b1 w2 S3 => ?_
  refine T_pev rfl rfl rfl rfl ?_
  refine T_nil ?_
  refine W_seq ?_
  obtain ⟨G5, hl6, S4, r7⟩ := S3.stillBlk 0 rfl
  refine W_plan (planF Tryd.prog G5 [8, 10, 13]) rfl (by kernel_rfl) S4.le ?_
  have S8 := S4.drew
  refine T_fldm 0 rfl rfl rfl rfl rfl rfl (by decide) rfl rfl rfl ?_
  refine T_loadG S8 (still_cell r7 rfl) rfl rfl rfl rfl rfl rfl rfl ?_
  refine T_callS rfl rfl g_aumbry_code_Put rfl rfl rfl rfl ((putN_ok S8.le sn 1 (by omega) (by omega)).mono ?_)
  rintro e w14 ⟨a9, c10, hc11, rfl, ho12, hB13⟩
  have S15 := S8.own hB13 ho12
  refine ⟨_, rfl, (((Hp.le.refl _)).trans S15.le), ?_⟩
  refine T_fldm 1 rfl rfl rfl rfl rfl rfl (by decide) rfl rfl rfl ?_
  refine T_loadGP (fun _ h => h) (still_cell r7 rfl) rfl rfl rfl rfl rfl rfl rfl ?_
  refine T_fldm 2 rfl rfl rfl rfl rfl rfl (by decide) rfl rfl rfl ?_
  refine T_loadGP (fun _ h => h) (still_cell r7 rfl) rfl rfl rfl rfl rfl rfl rfl ?_
  refine T_callS rfl rfl g_aumbry_layout_row rfl rfl rfl rfl ((rowL_ok S15.le (h2.mono hl6) (by omega)).mono ?_)
  rintro e w21 ⟨a16, c17, hc18, rfl, ho19, hB20⟩
  have S22 := S15.own hB20 ho19
  refine ⟨_, rfl, (((Hp.le.refl _)).trans S22.le), ?_⟩
  refine T_fldm 3 rfl rfl rfl rfl rfl rfl (by decide) rfl rfl rfl ?_
  refine T_loadGP (fun _ h => h) (still_cell r7 rfl) rfl rfl rfl rfl rfl rfl rfl ?_
  refine T_pev rfl rfl rfl rfl ?_
  refine T_callS rfl rfl g_aumbry_code_Put rfl rfl rfl rfl ((putN_ok S22.le ((B.length : Nat) : Int) 1 (by omega) (by omega)).mono ?_)
  rintro e w28 ⟨a23, c24, hc25, rfl, ho26, hB27⟩
  have S29 := S22.own hB27 ho26
  refine ⟨_, rfl, (((Hp.le.refl _)).trans S29.le), ?_⟩
  obtain ⟨G35, hl36, S34, r37⟩ := S29.stillRow 2 rfl
  obtain ⟨G39, hl40, S38, r41⟩ := S34.stillRow 1 rfl
  obtain ⟨G43, hl44, S42, r45⟩ := S38.stillRow 0 rfl
  have rs46 : Rds G43 [.slice a9 ((Go.Sha.put (max 0 sn).toNat 1).length) c10, .slice a1 u.length c1, .slice a16 ((Go.Au.flatTo [] p p.length).length) c17, .slice a23 ((Go.Sha.put (max 0 ((B.length : Nat) : Int)).toNat 1).length) c24] [Go.Sha.put (max 0 sn).toNat 1, u, Go.Au.flatTo [] p p.length, Go.Sha.put (max 0 ((B.length : Nat) : Int)).toNat 1] := Rds.cons (Rd.canonB (r37.mono (hl40.trans hl44))) (Rds.cons (Rd.canonB (h1.mono (hl6.trans (hl36.trans (hl40.trans hl44))))) (Rds.cons (Rd.canonB (r41.mono hl44)) (Rds.cons (Rd.canonB r45) (Rds.nil _))))
  refine T_litS [.slice a9 ((Go.Sha.put (max 0 sn).toNat 1).length) c10, .slice a1 u.length c1, .slice a16 ((Go.Au.flatTo [] p p.length).length) c17, .slice a23 ((Go.Sha.put (max 0 ((B.length : Nat) : Int)).toNat 1).length) c24] rfl rfl rfl rfl rfl rfl rfl rfl rfl rfl rfl rfl rfl (by simp [Value.cells]; rfl) rfl fun a30 w31 hB32 ho33 => ?_
  have S47 := S42.own hB32 ho33
  refine ⟨(((hl36.trans (hl40.trans hl44))).trans S47.le), ?_⟩
  obtain ⟨G49, hl50, S48, r51⟩ := S47.stillRow 0 rfl
  have r52 := RdL.mk r51 (rs46.mono hl50)
  refine T_callS rfl rfl g_aumbry_code_Nets rfl rfl rfl rfl ((nets_ok S48.le (hT.mono (hl6.trans (hl36.trans (hl40.trans (hl44.trans hl50))))) r52 (by omega)).mono ?_)
  rintro e w58 ⟨a53, c54, hc55, rfl, ho56, hB57⟩
  have S59 := S48.own hB57 ho56
  refine ⟨_, rfl, (((hl36.trans (hl40.trans (hl44.trans hl50)))).trans S59.le), ?_⟩
  refine T_pev rfl rfl rfl rfl ?_
  refine T_nil ?_
  refine W_seq ?_
  refine W_region ?_
  refine T_pev rfl rfl rfl rfl ?_
  refine T_fldm 3 rfl rfl rfl rfl rfl rfl (by decide) rfl rfl rfl ?_
  refine T_loadG S59 (still_cell (hl50 _ _ (hl44 _ _ (hl40 _ _ (hl36 _ _ r7)))) rfl) rfl rfl rfl rfl rfl rfl rfl ?_
  refine T_callS rfl rfl g_aumbry_code_Nets rfl rfl rfl rfl ((nets_ok S59.le (hT.mono (hl6.trans (hl36.trans (hl40.trans (hl44.trans hl50))))) (h3.mono (hl6.trans (hl36.trans (hl40.trans (hl44.trans hl50))))) (by omega)).mono ?_)
  rintro e w65 ⟨a60, c61, hc62, rfl, ho63, hB64⟩
  have S66 := S59.own hB64 ho63
  refine ⟨_, rfl, trivial, ?_⟩
  have hD67 : (Go.Au.nets ([Go.Sha.put (max 0 sn).toNat 1, u, Go.Au.flatTo [] p p.length, Go.Sha.put (max 0 ((B.length : Nat) : Int)).toNat 1]) ++ Go.Au.nets B) = Go.Au.packS sn u p B := rfl
  refine T_appendS 1 ((Go.Au.packS sn u p B).length) ((Go.Au.packS sn u p B).map bV) S66 (fun _ _ => trivial) rfl rfl rfl rfl rfl rfl rfl rfl rfl rfl rfl rfl rfl rfl (S66.rd 0 rfl) (one_bV _) (by first | rfl | (simp; done) | (simp; omega) | omega) (by rw [← hD67]; simp) (by unfold maxLen; omega) (by show _ * 1 ≤ _; omega) fun a68 c69 w70 hc71 S72 => ?_
  refine T_pev rfl rfl rfl rfl ?_
  refine T_nil ?_
  refine W_ret ?_
  refine ⟨_, ⟨_, _, rfl, rfl, rfl⟩, ?_⟩
  exact ⟨_, _, hc71, rfl, S72.row 1 rfl, S72.below⟩


theorem packSR_ok {H : Hp} {w : World} (hH : H.le (hw w)) (sn : Int) {u : List UInt8} {p B : List (List UInt8)} {a1 a2 a3 : Option Addr} {n1 n2 n3 c1 c2 c3 : Nat} (h1 : Rd H (.slice a1 n1 c1) n1 1 (u.map bV)) (h2 : RdH H (.slice a2 n2 c2) 32 p) (h3 : RdL H (.slice a3 n3 c3) B) (hn : sn ≤ 9223372036854775807) (hu : u.length ≤ 300) (hp : p.length ≤ 20) (hB : B.length ≤ 20) (hx : ∀ x ∈ B, x.length ≤ 100) :
    Calls Tryd.prog 31 #[.agg #[.int .i64 sn, .slice a1 n1 c1, .slice a2 n2 c2, .slice a3 n3 c3]] w fun e w' => ∃ a c, (Go.Au.packS sn u p B).length ≤ c ∧ e = .returned (.slice a (Go.Au.packS sn u p B).length c) ∧ rowZ w' w.heap.size 5 1 (.slice a (Go.Au.packS sn u p B).length c) (Go.Au.packS sn u p B).length ((Go.Au.packS sn u p B).map bV) ∧ Below w.heap.size w w' := by
  obtain rfl : n1 = u.length := h1.lenB
  obtain rfl : n2 = p.length := h2.len
  obtain rfl : n3 = B.length := h3.len
  have hl4 := Go.Au.head4_len sn (z := ((B.length : Nat) : Int)) hu hp h2.1
  have hnb := Go.Au.nets_cap (m := 100) (k := 20) (by decide) hB hx
  have hps := Go.Au.packS_len sn hu hp h2.1 hB hx
  have hpl : (Go.Au.packS sn u p B).length = (Go.Au.nets [Go.Sha.put (max 0 sn).toNat 1, u, Go.Au.flatTo [] p p.length, Go.Sha.put (max 0 ((B.length : Nat) : Int)).toNat 1]).length + (Go.Au.nets B).length := List.length_append
  have hpa : (Go.Au.nets ([Go.Sha.put (max 0 sn).toNat 1, u, Go.Au.flatTo [] p p.length, Go.Sha.put (max 0 ((B.length : Nat) : Int)).toNat 1] ++ B)).length ≤ 3134 := by rw [Go.Au.nets_append]; exact hps
  refine enter1 _ Tryd.func31 rfl Tryd.ntmps31 Tryd.results31 rfl ?_
  have S0 := St.start w hH
  refine W_seq ?_
  refine W_region ?_
  refine T_boxS S0 (fun _ _ => trivial) rfl rfl rfl rfl rfl rfl fun b1 w2 S3 => ?_
  refine T_pev rfl rfl rfl rfl ?_
  refine T_nil ?_
  refine W_seq ?_
  obtain ⟨G5, hl6, S4, r7⟩ := S3.stillBlk 0 rfl
  refine W_plan (planF Tryd.prog G5 [8, 10, 13]) rfl (by kernel_rfl) S4.le ?_
  have S8 := S4.drew
  refine T_fldm 0 rfl rfl rfl rfl rfl rfl (by decide) rfl rfl rfl ?_
  refine T_loadG S8 (still_cell r7 rfl) rfl rfl rfl rfl rfl rfl rfl ?_
  refine T_callS rfl rfl g_aumbry_aumbryref01_Put rfl rfl rfl rfl ((putR_ok S8.le sn 1 (by omega) (by omega)).mono ?_)
  rintro e w14 ⟨a9, c10, hc11, rfl, ho12, hB13⟩
  have S15 := S8.own hB13 ho12
  refine ⟨_, rfl, (((Hp.le.refl _)).trans S15.le), ?_⟩
  refine T_fldm 1 rfl rfl rfl rfl rfl rfl (by decide) rfl rfl rfl ?_
  refine T_loadGP (fun _ h => h) (still_cell r7 rfl) rfl rfl rfl rfl rfl rfl rfl ?_
  refine T_fldm 2 rfl rfl rfl rfl rfl rfl (by decide) rfl rfl rfl ?_
  refine T_loadGP (fun _ h => h) (still_cell r7 rfl) rfl rfl rfl rfl rfl rfl rfl ?_
  refine T_callS rfl rfl g_aumbry_aumbryref07_Hashes rfl rfl rfl rfl ((hashesR_ok S15.le (h2.mono hl6) (by omega)).mono ?_)
  rintro e w21 ⟨a16, c17, hc18, rfl, ho19, hB20⟩
  have S22 := S15.own hB20 ho19
  refine ⟨_, rfl, (((Hp.le.refl _)).trans S22.le), ?_⟩
  refine T_fldm 3 rfl rfl rfl rfl rfl rfl (by decide) rfl rfl rfl ?_
  refine T_loadGP (fun _ h => h) (still_cell r7 rfl) rfl rfl rfl rfl rfl rfl rfl ?_
  refine T_pev rfl rfl rfl rfl ?_
  refine T_callS rfl rfl g_aumbry_aumbryref01_Put rfl rfl rfl rfl ((putR_ok S22.le ((B.length : Nat) : Int) 1 (by omega) (by omega)).mono ?_)
  rintro e w28 ⟨a23, c24, hc25, rfl, ho26, hB27⟩
  have S29 := S22.own hB27 ho26
  refine ⟨_, rfl, (((Hp.le.refl _)).trans S29.le), ?_⟩
  obtain ⟨G35, hl36, S34, r37⟩ := S29.stillRow 2 rfl
  obtain ⟨G39, hl40, S38, r41⟩ := S34.stillRow 1 rfl
  obtain ⟨G43, hl44, S42, r45⟩ := S38.stillRow 0 rfl
  have rs46 : Rds G43 [.slice a9 ((Go.Sha.put (max 0 sn).toNat 1).length) c10, .slice a1 u.length c1, .slice a16 ((Go.Au.flatTo [] p p.length).length) c17, .slice a23 ((Go.Sha.put (max 0 ((B.length : Nat) : Int)).toNat 1).length) c24] [Go.Sha.put (max 0 sn).toNat 1, u, Go.Au.flatTo [] p p.length, Go.Sha.put (max 0 ((B.length : Nat) : Int)).toNat 1] := Rds.cons (Rd.canonB (r37.mono (hl40.trans hl44))) (Rds.cons (Rd.canonB (h1.mono (hl6.trans (hl36.trans (hl40.trans hl44))))) (Rds.cons (Rd.canonB (r41.mono hl44)) (Rds.cons (Rd.canonB r45) (Rds.nil _))))
  refine T_litS [.slice a9 ((Go.Sha.put (max 0 sn).toNat 1).length) c10, .slice a1 u.length c1, .slice a16 ((Go.Au.flatTo [] p p.length).length) c17, .slice a23 ((Go.Sha.put (max 0 ((B.length : Nat) : Int)).toNat 1).length) c24] rfl rfl rfl rfl rfl rfl rfl rfl rfl rfl rfl rfl rfl (by simp [Value.cells]; rfl) rfl fun a30 w31 hB32 ho33 => ?_
  have S47 := S42.own hB32 ho33
  refine ⟨(((hl36.trans (hl40.trans hl44))).trans S47.le), ?_⟩
  refine T_pev rfl rfl rfl rfl ?_
  refine T_nil ?_
  refine W_seq ?_
  refine W_region ?_
  refine T_pev rfl rfl rfl rfl ?_
  refine T_fldm 3 rfl rfl rfl rfl rfl rfl (by decide) rfl rfl rfl ?_
  refine T_loadG S47 (still_cell (hl44 _ _ (hl40 _ _ (hl36 _ _ r7))) rfl) rfl rfl rfl rfl rfl rfl rfl ?_
  obtain ⟨hs48, r49, r50⟩ := (h3.mono (hl6.trans (hl36.trans (hl40.trans hl44))))
  refine T_appendS 0 (([Go.Sha.put (max 0 sn).toNat 1, u, Go.Au.flatTo [] p p.length, Go.Sha.put (max 0 ((B.length : Nat) : Int)).toNat 1] ++ B).length) _ S47 (fun _ _ => trivial) rfl rfl rfl rfl rfl rfl rfl rfl rfl rfl rfl rfl rfl rfl (r49.mono S47.le) r50.one (by first | rfl | (simp; done) | (simp; omega) | omega) rfl (by unfold maxLen; simp only [List.length_append, List.length_cons, List.length_nil]; omega) (by show _ * 24 ≤ _; simp only [List.length_append, List.length_cons, List.length_nil]; omega) fun a51 c52 w53 hc54 S55 => ?_
  have rs56 := Rds.append rs46 r50
  obtain ⟨G58, hl59, S57, r60⟩ := S55.stillRow 0 rfl
  have r61 := RdL.mk r60 (rs56.mono hl59)
  refine T_callS rfl rfl g_aumbry_aumbryref01_Nets rfl rfl rfl rfl ((netsR_ok S57.le r61 (by omega)).mono ?_)
  rintro e w67 ⟨a62, c63, hc64, rfl, ho65, hB66⟩
  have S68 := S57.own hB66 ho65
  refine ⟨_, rfl, trivial, ?_⟩
  refine T_pev rfl rfl rfl rfl ?_
  refine T_nil ?_
  refine W_ret ?_
  refine ⟨_, ⟨_, _, rfl, rfl, rfl⟩, ?_⟩
  rw [show Go.Au.packS sn u p B = Go.Au.nets ([Go.Sha.put (max 0 sn).toNat 1, u, Go.Au.flatTo [] p p.length, Go.Sha.put (max 0 ((B.length : Nat) : Int)).toNat 1] ++ B) from (Go.Au.nets_append _ _).symm]
  exact ⟨_, _, hc64, rfl, S68.row 0 rfl, S68.below⟩


theorem unpackS_ok {H : Hp} {w : World} (hH : H.le (hw w)) {b : List UInt8} {aa0 : Option Addr} {nn0 cc0 : Nat} (hv : Rd H (.slice aa0 nn0 cc0) nn0 1 (b.map bV)) (hb : b.length ≤ 100000) :
    Calls Tryd.prog 27 #[.slice aa0 nn0 cc0] w fun e w' => ∃ a1 c1 a2 c2 a3 c3, e = .returned (.tuple #[.agg #[.int .i64 (Go.Au.shN b), .slice a1 (Go.Au.shU b).length c1, .slice a2 (Go.Au.shP b).length c2, .slice a3 (Go.Au.shB b).length c3], .bool (decide (Go.Au.ShOk b))]) ∧ Rd (F.ext H w.heap.size w') (.slice a1 (Go.Au.shU b).length c1) (Go.Au.shU b).length 1 ((Go.Au.shU b).map bV) ∧ RdH (F.ext H w.heap.size w') (.slice a2 (Go.Au.shP b).length c2) 32 (Go.Au.shP b) ∧ RdL (F.ext H w.heap.size w') (.slice a3 (Go.Au.shB b).length c3) (Go.Au.shB b) ∧ Below w.heap.size w w' := by
  obtain rfl : nn0 = b.length := hv.lenB
  have hvcap : b.length ≤ cc0 := hv.capOf
  have htr := Go.Au.ntTr_le 4 b
  refine enter1 _ Tryd.func27 rfl Tryd.ntmps27 Tryd.results27 rfl ?_
  have S0 := St.start w hH
  refine W_seq ?_
  refine W_region ?_
  refine T_allocS S0 (fun _ _ => trivial) rfl rfl rfl rfl rfl rfl rfl fun b1 w2 S3 => ?_
  refine T_pev rfl rfl rfl rfl ?_
  refine T_nil ?_
  refine W_seq ?_
  refine W_seq ?_
  refine W_region ?_
  refine T_pev rfl rfl rfl rfl ?_
  refine T_pev rfl rfl rfl rfl ?_
  refine T_pev rfl rfl rfl rfl ?_
  refine T_nil ?_
  refine W_cond_dec rfl (fun h4 => ?_) (fun h4 => ?_)
  · refine W_seq ?_
    refine W_region ?_
    refine T_buildS (cells := #[.int .i64 0, .slice none 0 0, .slice none 0 0, .slice none 0 0]) rfl rfl rfl rfl rfl rfl rfl rfl rfl rfl ?_
    refine T_storeFS 0 S3 (fun _ _ => trivial) rfl rfl rfl rfl rfl rfl rfl rfl rfl (by first | rfl | simp [hVs, *]) (by first | rfl | simp [hVs, *]) (one_all rfl) fun w5 S6 => ?_
    refine T_pev rfl rfl rfl rfl ?_
    refine T_nil ?_
    refine W_ret ?_
    refine ⟨_, ⟨_, _, _, rfl, rfl, run_loadVarA rfl rfl (by first | rfl | simp [hVs, *]) (S6.cells 0 rfl), ⟨_, _, rfl, rfl, rfl⟩⟩, ?_⟩
    have HNO : ¬ Go.Au.ShOk b := by
      intro hq
      obtain ⟨q0, q1, q2, q3, q4, q5, q6, q7⟩ := hq
      first | exact h4 q1 | omega | exact h4 (by rw [Go.Au.ntTr_yes q1]; exact q7)
    exact sh_none HNO S6.below
  refine W_skip ?_
  refine W_seq ?_
  refine W_region ?_
  refine T_pev rfl rfl rfl rfl ?_
  refine T_callS rfl rfl g_aumbry_layout_takes rfl rfl rfl rfl ((takes_ok S3.le hv 4 (by omega) (by omega)).mono ?_)
  rintro e w14 ⟨a7, c8, a9, c10, rfl, r11, r12, hB13⟩
  obtain ⟨G16, eG18⟩ : ∃ G, G = F.ext H w2.heap.size w14 := ⟨_, rfl⟩
  obtain ⟨hl17, S15⟩ := S3.ext hB13
  rw [← eG18] at hl17 S15 r11 r12
  refine ⟨_, rfl, trivial, ?_⟩
  refine T_pev rfl rfl rfl rfl ?_
  refine T_pev rfl rfl rfl rfl ?_
  refine T_pev rfl rfl rfl rfl ?_
  refine T_pev rfl rfl rfl rfl ?_
  refine T_pev rfl rfl rfl rfl ?_
  refine T_pev rfl rfl rfl rfl ?_
  refine T_pev rfl rfl rfl rfl ?_
  refine T_nil ?_
  refine W_seq ?_
  refine W_seq ?_
  refine W_region ?_
  refine T_pev rfl rfl rfl rfl ?_
  refine T_pev rfl rfl rfl rfl ?_
  refine T_pev rfl rfl rfl rfl ?_
  refine T_part (t := 22) rfl (List.cons_ne_nil _ _) (fun h19' => ?_) (fun h19' => ?_)
  · have h19 := of_ndec_t h19'
    refine T_no rfl rfl rfl rfl rfl rfl ?_
    refine T_no rfl rfl rfl rfl rfl rfl ?_
    refine T_no rfl rfl rfl rfl rfl rfl ?_
    refine T_no rfl rfl rfl rfl rfl rfl ?_
    refine T_no rfl rfl rfl rfl rfl rfl ?_
    refine T_pev rfl rfl rfl rfl ?_
    refine T_pev rfl rfl rfl rfl ?_
    refine T_no rfl rfl rfl rfl rfl rfl ?_
    refine T_no rfl rfl rfl rfl rfl rfl ?_
    refine T_no rfl rfl rfl rfl rfl rfl ?_
    refine T_no rfl rfl rfl rfl rfl rfl ?_
    refine T_no rfl rfl rfl rfl rfl rfl ?_
    refine T_pev rfl rfl rfl rfl ?_
    refine T_pev rfl rfl rfl rfl ?_
    refine T_no rfl rfl rfl rfl rfl rfl ?_
    refine T_no rfl rfl rfl rfl rfl rfl ?_
    refine T_no rfl rfl rfl rfl rfl rfl ?_
    refine T_no rfl rfl rfl rfl rfl rfl ?_
    refine T_no rfl rfl rfl rfl rfl rfl ?_
    refine T_no rfl rfl rfl rfl rfl rfl ?_
    refine T_pev rfl rfl rfl rfl ?_
    refine T_pev rfl rfl rfl rfl ?_
    refine T_no rfl rfl rfl rfl rfl rfl ?_
    refine T_no rfl rfl rfl rfl rfl rfl ?_
    refine T_no rfl rfl rfl rfl rfl rfl ?_
    refine T_no rfl rfl rfl rfl rfl rfl ?_
    refine T_no rfl rfl rfl rfl rfl rfl ?_
    refine T_no rfl rfl rfl rfl rfl rfl ?_
    refine T_pev rfl rfl rfl rfl ?_
    refine T_nil ?_
    refine W_cond_true rfl ?_
    refine W_seq ?_
    refine W_region ?_
    refine T_buildS (cells := #[.int .i64 0, .slice none 0 0, .slice none 0 0, .slice none 0 0]) rfl rfl rfl rfl rfl rfl rfl rfl rfl rfl ?_
    refine T_storeFS 0 S15 (fun _ _ => trivial) rfl rfl rfl rfl rfl rfl rfl rfl rfl (by first | rfl | simp [hVs, *]) (by first | rfl | simp [hVs, *]) (one_all rfl) fun w20 S21 => ?_
    refine T_pev rfl rfl rfl rfl ?_
    refine T_nil ?_
    refine W_ret ?_
    refine ⟨_, ⟨_, _, _, rfl, rfl, run_loadVarA rfl rfl (by first | rfl | simp [hVs, *]) (S21.cells 0 rfl), ⟨_, _, rfl, rfl, rfl⟩⟩, ?_⟩
    have HNO : ¬ Go.Au.ShOk b := by
      intro hq
      obtain ⟨q0, q1, q2, q3, q4, q5, q6, q7⟩ := hq
      first | exact h19 q1 | omega | exact h19 (by rw [Go.Au.ntTr_yes q1]; exact q7)
    exact sh_none HNO S21.below
  have h19 := of_ndec_f h19'
  refine T_yes rfl rfl rfl ?_ rfl
  refine T_pev rfl rfl rfl rfl ?_
  refine T_yes rfl rfl rfl ?_ rfl
  have HA := h19
  have hn4 := Go.Au.ntTk_len HA
  have R0 : (Go.Au.ntTk 4 b).getD 0 [] = Go.Au.row4 b 0 := Go.Au.ntTk_get HA (by decide)
  have L0 := congrArg List.length R0
  have B0 : (((Go.Au.ntTk 4 b).getD 0 []).getD 0 0).toNat = ((Go.Au.row4 b 0).getD 0 0).toNat := congrArg (fun q : List UInt8 => (q.getD 0 0).toNat) R0
  have N0 : (Go.Au.row4 b 0).length ≤ b.length := Go.Au.row4_le b 0
  have R1 : (Go.Au.ntTk 4 b).getD 1 [] = Go.Au.row4 b 1 := Go.Au.ntTk_get HA (by decide)
  have L1 := congrArg List.length R1
  have B1 : (((Go.Au.ntTk 4 b).getD 1 []).getD 0 0).toNat = ((Go.Au.row4 b 1).getD 0 0).toNat := congrArg (fun q : List UInt8 => (q.getD 0 0).toNat) R1
  have N1 : (Go.Au.row4 b 1).length ≤ b.length := Go.Au.row4_le b 1
  have R2 : (Go.Au.ntTk 4 b).getD 2 [] = Go.Au.row4 b 2 := Go.Au.ntTk_get HA (by decide)
  have L2 := congrArg List.length R2
  have B2 : (((Go.Au.ntTk 4 b).getD 2 []).getD 0 0).toNat = ((Go.Au.row4 b 2).getD 0 0).toNat := congrArg (fun q : List UInt8 => (q.getD 0 0).toNat) R2
  have N2 : (Go.Au.row4 b 2).length ≤ b.length := Go.Au.row4_le b 2
  have R3 : (Go.Au.ntTk 4 b).getD 3 [] = Go.Au.row4 b 3 := Go.Au.ntTk_get HA (by decide)
  have L3 := congrArg List.length R3
  have B3 : (((Go.Au.ntTk 4 b).getD 3 []).getD 0 0).toNat = ((Go.Au.row4 b 3).getD 0 0).toNat := congrArg (fun q : List UInt8 => (q.getD 0 0).toNat) R3
  have N3 : (Go.Au.row4 b 3).length ≤ b.length := Go.Au.row4_le b 3
  have HK : Go.Au.shK b = ((Go.Au.row4 b 3).getD 0 0).toNat := rfl
  obtain ⟨hs25, r26, r27⟩ := (id r11)
  refine T_idxR 0 r26 rfl rfl rfl rfl rfl rfl rfl rfl rfl (by omega) (by omega) fun b22 o23 hc24 => ?_
  obtain ⟨a30, c31, hc33, hv29, r32⟩ := r27.at 0 (by omega)
  have hc34 := hc24 0 (.slice a30 ((Go.Au.ntTk 4 b).getD 0 []).length c31) (by simpa using hv29)
  simp only [Nat.add_zero] at hc34
  refine T_yes rfl rfl rfl ?_ rfl
  refine T_loadG S15 hc34 rfl rfl rfl rfl rfl rfl rfl ?_
  refine T_yes rfl rfl rfl ?_ rfl
  refine T_pev rfl rfl rfl rfl ?_
  refine T_yes rfl rfl rfl ?_ rfl
  refine T_pev rfl rfl rfl rfl ?_
  refine T_pev rfl rfl rfl rfl ?_
  refine T_pev rfl rfl rfl rfl ?_
  refine T_part (t := 29) rfl (List.cons_ne_nil _ _) (fun h35' => ?_) (fun h35' => ?_)
  · have h35 := of_ndec_t h35'
    refine T_no rfl rfl rfl rfl rfl rfl ?_
    refine T_no rfl rfl rfl rfl rfl rfl ?_
    refine T_no rfl rfl rfl rfl rfl rfl ?_
    refine T_no rfl rfl rfl rfl rfl rfl ?_
    refine T_no rfl rfl rfl rfl rfl rfl ?_
    refine T_pev rfl rfl rfl rfl ?_
    refine T_pev rfl rfl rfl rfl ?_
    refine T_no rfl rfl rfl rfl rfl rfl ?_
    refine T_no rfl rfl rfl rfl rfl rfl ?_
    refine T_no rfl rfl rfl rfl rfl rfl ?_
    refine T_no rfl rfl rfl rfl rfl rfl ?_
    refine T_no rfl rfl rfl rfl rfl rfl ?_
    refine T_no rfl rfl rfl rfl rfl rfl ?_
    refine T_pev rfl rfl rfl rfl ?_
    refine T_pev rfl rfl rfl rfl ?_
    refine T_no rfl rfl rfl rfl rfl rfl ?_
    refine T_no rfl rfl rfl rfl rfl rfl ?_
    refine T_no rfl rfl rfl rfl rfl rfl ?_
    refine T_no rfl rfl rfl rfl rfl rfl ?_
    refine T_no rfl rfl rfl rfl rfl rfl ?_
    refine T_no rfl rfl rfl rfl rfl rfl ?_
    refine T_pev rfl rfl rfl rfl ?_
    refine T_nil ?_
    refine W_cond_true rfl ?_
    refine W_seq ?_
    refine W_region ?_
    refine T_buildS (cells := #[.int .i64 0, .slice none 0 0, .slice none 0 0, .slice none 0 0]) rfl rfl rfl rfl rfl rfl rfl rfl rfl rfl ?_
    refine T_storeFS 0 S15 (fun _ _ => trivial) rfl rfl rfl rfl rfl rfl rfl rfl rfl (by first | rfl | simp [hVs, *]) (by first | rfl | simp [hVs, *]) (one_all rfl) fun w36 S37 => ?_
    refine T_pev rfl rfl rfl rfl ?_
    refine T_nil ?_
    refine W_ret ?_
    refine ⟨_, ⟨_, _, _, rfl, rfl, run_loadVarA rfl rfl (by first | rfl | simp [hVs, *]) (S37.cells 0 rfl), ⟨_, _, rfl, rfl, rfl⟩⟩, ?_⟩
    have HNO : ¬ Go.Au.ShOk b := by
      intro hq
      obtain ⟨q0, q1, q2, q3, q4, q5, q6, q7⟩ := hq
      first | exact h35 q1 | omega | exact h35 (by rw [Go.Au.ntTr_yes q1]; exact q7)
    exact sh_none HNO S37.below
  have h35 := of_ndec_f h35'
  refine T_yes rfl rfl rfl ?_ rfl
  refine T_pev rfl rfl rfl rfl ?_
  refine T_yes rfl rfl rfl ?_ rfl
  obtain ⟨hs41, r42, r43⟩ := (id r11)
  refine T_idxR 3 r42 rfl rfl rfl rfl rfl rfl rfl rfl rfl (by omega) (by omega) fun b38 o39 hc40 => ?_
  obtain ⟨a46, c47, hc49, hv45, r48⟩ := r43.at 3 (by omega)
  have hc50 := hc40 0 (.slice a46 ((Go.Au.ntTk 4 b).getD 3 []).length c47) (by simpa using hv45)
  simp only [Nat.add_zero] at hc50
  refine T_yes rfl rfl rfl ?_ rfl
  refine T_loadG S15 hc50 rfl rfl rfl rfl rfl rfl rfl ?_
  refine T_yes rfl rfl rfl ?_ rfl
  refine T_pev rfl rfl rfl rfl ?_
  refine T_yes rfl rfl rfl ?_ rfl
  refine T_pev rfl rfl rfl rfl ?_
  refine T_pev rfl rfl rfl rfl ?_
  refine T_pev rfl rfl rfl rfl ?_
  refine T_part (t := 36) rfl (List.cons_ne_nil _ _) (fun h51' => ?_) (fun h51' => ?_)
  · have h51 := of_ndec_t h51'
    refine T_no rfl rfl rfl rfl rfl rfl ?_
    refine T_no rfl rfl rfl rfl rfl rfl ?_
    refine T_no rfl rfl rfl rfl rfl rfl ?_
    refine T_no rfl rfl rfl rfl rfl rfl ?_
    refine T_no rfl rfl rfl rfl rfl rfl ?_
    refine T_no rfl rfl rfl rfl rfl rfl ?_
    refine T_pev rfl rfl rfl rfl ?_
    refine T_pev rfl rfl rfl rfl ?_
    refine T_no rfl rfl rfl rfl rfl rfl ?_
    refine T_no rfl rfl rfl rfl rfl rfl ?_
    refine T_no rfl rfl rfl rfl rfl rfl ?_
    refine T_no rfl rfl rfl rfl rfl rfl ?_
    refine T_no rfl rfl rfl rfl rfl rfl ?_
    refine T_no rfl rfl rfl rfl rfl rfl ?_
    refine T_pev rfl rfl rfl rfl ?_
    refine T_nil ?_
    refine W_cond_true rfl ?_
    refine W_seq ?_
    refine W_region ?_
    refine T_buildS (cells := #[.int .i64 0, .slice none 0 0, .slice none 0 0, .slice none 0 0]) rfl rfl rfl rfl rfl rfl rfl rfl rfl rfl ?_
    refine T_storeFS 0 S15 (fun _ _ => trivial) rfl rfl rfl rfl rfl rfl rfl rfl rfl (by first | rfl | simp [hVs, *]) (by first | rfl | simp [hVs, *]) (one_all rfl) fun w52 S53 => ?_
    refine T_pev rfl rfl rfl rfl ?_
    refine T_nil ?_
    refine W_ret ?_
    refine ⟨_, ⟨_, _, _, rfl, rfl, run_loadVarA rfl rfl (by first | rfl | simp [hVs, *]) (S53.cells 0 rfl), ⟨_, _, rfl, rfl, rfl⟩⟩, ?_⟩
    have HNO : ¬ Go.Au.ShOk b := by
      intro hq
      obtain ⟨q0, q1, q2, q3, q4, q5, q6, q7⟩ := hq
      first | exact h51 q1 | omega | exact h51 (by rw [Go.Au.ntTr_yes q1]; exact q7)
    exact sh_none HNO S53.below
  have h51 := of_ndec_f h51'
  refine T_yes rfl rfl rfl ?_ rfl
  refine T_pev rfl rfl rfl rfl ?_
  refine T_yes rfl rfl rfl ?_ rfl
  obtain ⟨hs57, r58, r59⟩ := (id r11)
  refine T_idxR 0 r58 rfl rfl rfl rfl rfl rfl rfl rfl rfl (by omega) (by omega) fun b54 o55 hc56 => ?_
  obtain ⟨a62, c63, hc65, hv61, r64⟩ := r59.at 0 (by omega)
  have hc66 := hc56 0 (.slice a62 ((Go.Au.ntTk 4 b).getD 0 []).length c63) (by simpa using hv61)
  simp only [Nat.add_zero] at hc66
  refine T_yes rfl rfl rfl ?_ rfl
  refine T_loadG S15 hc66 rfl rfl rfl rfl rfl rfl rfl ?_
  refine T_yes rfl rfl rfl ?_ rfl
  refine T_idxR 0 r64 rfl rfl rfl rfl rfl rfl rfl rfl rfl (by omega) (by omega) fun b67 o68 hc69 => ?_
  have hc70 := hc69 0 (bV (((Go.Au.ntTk 4 b).getD 0 []).getD 0 0)) (at_b ((Go.Au.ntTk 4 b).getD 0 []) 0 (by omega))
  simp only [Nat.add_zero] at hc70
  refine T_yes rfl rfl rfl ?_ rfl
  refine T_loadG S15 hc70 rfl rfl rfl rfl rfl rfl rfl ?_
  refine T_yes rfl rfl rfl ?_ rfl
  refine T_pev rfl rfl rfl rfl ?_
  refine T_pev rfl rfl rfl rfl ?_
  refine T_pev rfl rfl rfl rfl ?_
  refine T_part (t := 44) rfl (List.cons_ne_nil _ _) (fun h71' => ?_) (fun h71' => ?_)
  · have h71 := of_decide_eq_true h71'
    refine T_no rfl rfl rfl rfl rfl rfl ?_
    refine T_no rfl rfl rfl rfl rfl rfl ?_
    refine T_no rfl rfl rfl rfl rfl rfl ?_
    refine T_no rfl rfl rfl rfl rfl rfl ?_
    refine T_no rfl rfl rfl rfl rfl rfl ?_
    refine T_no rfl rfl rfl rfl rfl rfl ?_
    refine T_pev rfl rfl rfl rfl ?_
    refine T_nil ?_
    refine W_cond_true rfl ?_
    refine W_seq ?_
    refine W_region ?_
    refine T_buildS (cells := #[.int .i64 0, .slice none 0 0, .slice none 0 0, .slice none 0 0]) rfl rfl rfl rfl rfl rfl rfl rfl rfl rfl ?_
    refine T_storeFS 0 S15 (fun _ _ => trivial) rfl rfl rfl rfl rfl rfl rfl rfl rfl (by first | rfl | simp [hVs, *]) (by first | rfl | simp [hVs, *]) (one_all rfl) fun w72 S73 => ?_
    refine T_pev rfl rfl rfl rfl ?_
    refine T_nil ?_
    refine W_ret ?_
    refine ⟨_, ⟨_, _, _, rfl, rfl, run_loadVarA rfl rfl (by first | rfl | simp [hVs, *]) (S73.cells 0 rfl), ⟨_, _, rfl, rfl, rfl⟩⟩, ?_⟩
    have HNO : ¬ Go.Au.ShOk b := by
      intro hq
      obtain ⟨q0, q1, q2, q3, q4, q5, q6, q7⟩ := hq
      first | exact h71 q1 | omega | exact h71 (by rw [Go.Au.ntTr_yes q1]; exact q7)
    exact sh_none HNO S73.below
  have h71 := of_decide_eq_false h71'
  refine T_yes rfl rfl rfl ?_ rfl
  refine T_pev rfl rfl rfl rfl ?_
  refine T_yes rfl rfl rfl ?_ rfl
  obtain ⟨hs77, r78, r79⟩ := (id r11)
  refine T_idxR 3 r78 rfl rfl rfl rfl rfl rfl rfl rfl rfl (by omega) (by omega) fun b74 o75 hc76 => ?_
  obtain ⟨a82, c83, hc85, hv81, r84⟩ := r79.at 3 (by omega)
  have hc86 := hc76 0 (.slice a82 ((Go.Au.ntTk 4 b).getD 3 []).length c83) (by simpa using hv81)
  simp only [Nat.add_zero] at hc86
  refine T_yes rfl rfl rfl ?_ rfl
  refine T_loadG S15 hc86 rfl rfl rfl rfl rfl rfl rfl ?_
  refine T_yes rfl rfl rfl ?_ rfl
  refine T_idxR 0 r84 rfl rfl rfl rfl rfl rfl rfl rfl rfl (by omega) (by omega) fun b87 o88 hc89 => ?_
  have hc90 := hc89 0 (bV (((Go.Au.ntTk 4 b).getD 3 []).getD 0 0)) (at_b ((Go.Au.ntTk 4 b).getD 3 []) 0 (by omega))
  simp only [Nat.add_zero] at hc90
  refine T_yes rfl rfl rfl ?_ rfl
  refine T_loadG S15 hc90 rfl rfl rfl rfl rfl rfl rfl ?_
  refine T_yes rfl rfl rfl ?_ rfl
  refine T_pev rfl rfl rfl rfl ?_
  refine T_pev rfl rfl rfl rfl ?_
  refine T_nil ?_
  refine W_cond_dec rfl (fun h91 => ?_) (fun h91 => ?_)
  · refine W_seq ?_
    refine W_region ?_
    refine T_buildS (cells := #[.int .i64 0, .slice none 0 0, .slice none 0 0, .slice none 0 0]) rfl rfl rfl rfl rfl rfl rfl rfl rfl rfl ?_
    refine T_storeFS 0 S15 (fun _ _ => trivial) rfl rfl rfl rfl rfl rfl rfl rfl rfl (by first | rfl | simp [hVs, *]) (by first | rfl | simp [hVs, *]) (one_all rfl) fun w92 S93 => ?_
    refine T_pev rfl rfl rfl rfl ?_
    refine T_nil ?_
    refine W_ret ?_
    refine ⟨_, ⟨_, _, _, rfl, rfl, run_loadVarA rfl rfl (by first | rfl | simp [hVs, *]) (S93.cells 0 rfl), ⟨_, _, rfl, rfl, rfl⟩⟩, ?_⟩
    have HNO : ¬ Go.Au.ShOk b := by
      intro hq
      obtain ⟨q0, q1, q2, q3, q4, q5, q6, q7⟩ := hq
      first | exact h91 q1 | omega | exact h91 (by rw [Go.Au.ntTr_yes q1]; exact q7)
    exact sh_none HNO S93.below
  refine W_skip ?_
  refine W_seq ?_
  refine W_region ?_
  refine T_pev rfl rfl rfl rfl ?_
  obtain ⟨hs97, r98, r99⟩ := (id r11)
  refine T_idxR 2 r98 rfl rfl rfl rfl rfl rfl rfl rfl rfl (by omega) (by omega) fun b94 o95 hc96 => ?_
  obtain ⟨a102, c103, hc105, hv101, r104⟩ := r99.at 2 (by omega)
  have hc106 := hc96 0 (.slice a102 ((Go.Au.ntTk 4 b).getD 2 []).length c103) (by simpa using hv101)
  simp only [Nat.add_zero] at hc106
  refine T_loadG S15 hc106 rfl rfl rfl rfl rfl rfl rfl ?_
  refine T_callS rfl rfl g_aumbry_layout_hashes rfl rfl rfl rfl ((hashesL_ok S15.le r104 (by omega)).mono ?_)
  rintro e w112 ⟨a107, c108, hc109, rfl, r110, hB111⟩
  obtain ⟨G114, eG116⟩ : ∃ G, G = F.ext G16 w14.heap.size w112 := ⟨_, rfl⟩
  obtain ⟨hl115, S113⟩ := S15.ext hB111
  rw [← eG116] at hl115 S113 r110
  refine ⟨_, rfl, trivial, ?_⟩
  refine T_pev rfl rfl rfl rfl ?_
  refine T_pev rfl rfl rfl rfl ?_
  refine T_pev rfl rfl rfl rfl ?_
  refine T_pev rfl rfl rfl rfl ?_
  refine T_pev rfl rfl rfl rfl ?_
  refine T_nil ?_
  refine W_seq ?_
  refine W_region ?_
  refine T_pev rfl rfl rfl rfl ?_
  refine T_pev rfl rfl rfl rfl ?_
  obtain ⟨hs120, r121, r122⟩ := (r11.mono hl115)
  refine T_idxR 3 r121 rfl rfl rfl rfl rfl rfl rfl rfl rfl (by omega) (by omega) fun b117 o118 hc119 => ?_
  obtain ⟨a125, c126, hc128, hv124, r127⟩ := r122.at 3 (by omega)
  have hc129 := hc119 0 (.slice a125 ((Go.Au.ntTk 4 b).getD 3 []).length c126) (by simpa using hv124)
  simp only [Nat.add_zero] at hc129
  refine T_loadG S113 hc129 rfl rfl rfl rfl rfl rfl rfl ?_
  refine T_idxR 0 r127 rfl rfl rfl rfl rfl rfl rfl rfl rfl (by omega) (by omega) fun b130 o131 hc132 => ?_
  have hc133 := hc132 0 (bV (((Go.Au.ntTk 4 b).getD 3 []).getD 0 0)) (at_b ((Go.Au.ntTk 4 b).getD 3 []) 0 (by omega))
  simp only [Nat.add_zero] at hc133
  refine T_loadG S113 hc133 rfl rfl rfl rfl rfl rfl rfl ?_
  refine T_b2i rfl rfl rfl rfl rfl rfl rfl ?_
  refine T_re (v' := .int .i64 (((Go.Au.shK b) : Nat) : Int)) (congrArg (fun q : Nat => Value.int .i64 (q : Int)) B3) ?_
  refine T_callS rfl rfl g_aumbry_code_TakeNets rfl rfl rfl rfl ((takeNets_ok S113.le (r12.mono hl115) (Go.Au.shK b) (by omega) (by omega)).mono ?_)
  rintro e w138 ⟨a134, c135, rfl, r136, hB137⟩
  obtain ⟨G140, eG142⟩ : ∃ G, G = F.ext G114 w112.heap.size w138 := ⟨_, rfl⟩
  obtain ⟨hl141, S139⟩ := S113.ext hB137
  rw [← eG142] at hl141 S139 r136
  refine ⟨_, rfl, trivial, ?_⟩
  refine T_pev rfl rfl rfl rfl ?_
  refine T_pev rfl rfl rfl rfl ?_
  refine T_pev rfl rfl rfl rfl ?_
  refine T_pev rfl rfl rfl rfl ?_
  refine T_pev rfl rfl rfl rfl ?_
  refine T_nil ?_
  refine W_seq ?_
  refine W_seq ?_
  refine W_region ?_
  refine T_pev rfl rfl rfl rfl ?_
  refine T_pev rfl rfl rfl rfl ?_
  refine T_pev rfl rfl rfl rfl ?_
  refine T_part (t := 73) rfl (List.cons_ne_nil _ _) (fun h143' => ?_) (fun h143' => ?_)
  · have h143 := of_ndec_t h143'
    refine T_no rfl rfl rfl rfl rfl rfl ?_
    refine T_no rfl rfl rfl rfl rfl rfl ?_
    refine T_pev rfl rfl rfl rfl ?_
    refine T_nil ?_
    refine W_cond_true rfl ?_
    refine W_seq ?_
    refine W_region ?_
    refine T_buildS (cells := #[.int .i64 0, .slice none 0 0, .slice none 0 0, .slice none 0 0]) rfl rfl rfl rfl rfl rfl rfl rfl rfl rfl ?_
    refine T_storeFS 0 S139 (fun _ _ => trivial) rfl rfl rfl rfl rfl rfl rfl rfl rfl (by first | rfl | simp [hVs, *]) (by first | rfl | simp [hVs, *]) (one_all rfl) fun w144 S145 => ?_
    refine T_pev rfl rfl rfl rfl ?_
    refine T_nil ?_
    refine W_ret ?_
    refine ⟨_, ⟨_, _, _, rfl, rfl, run_loadVarA rfl rfl (by first | rfl | simp [hVs, *]) (S145.cells 0 rfl), ⟨_, _, rfl, rfl, rfl⟩⟩, ?_⟩
    have HNO : ¬ Go.Au.ShOk b := by
      intro hq
      obtain ⟨q0, q1, q2, q3, q4, q5, q6, q7⟩ := hq
      first | exact h143 q1 | omega | exact h143 (by rw [Go.Au.ntTr_yes q1]; exact q7)
    exact sh_none HNO S145.below
  have h143 := of_ndec_f h143'
  refine T_yes rfl rfl rfl ?_ rfl
  refine T_pev rfl rfl rfl rfl ?_
  refine T_yes rfl rfl rfl ?_ rfl
  refine T_pev rfl rfl rfl rfl ?_
  refine T_pev rfl rfl rfl rfl ?_
  refine T_nil ?_
  refine W_cond_not rfl (fun h146 => ?_) (fun h146 => ?_)
  · refine W_seq ?_
    refine W_region ?_
    refine T_buildS (cells := #[.int .i64 0, .slice none 0 0, .slice none 0 0, .slice none 0 0]) rfl rfl rfl rfl rfl rfl rfl rfl rfl rfl ?_
    refine T_storeFS 0 S139 (fun _ _ => trivial) rfl rfl rfl rfl rfl rfl rfl rfl rfl (by first | rfl | simp [hVs, *]) (by first | rfl | simp [hVs, *]) (one_all rfl) fun w147 S148 => ?_
    refine T_pev rfl rfl rfl rfl ?_
    refine T_nil ?_
    refine W_ret ?_
    refine ⟨_, ⟨_, _, _, rfl, rfl, run_loadVarA rfl rfl (by first | rfl | simp [hVs, *]) (S148.cells 0 rfl), ⟨_, _, rfl, rfl, rfl⟩⟩, ?_⟩
    have HNO : ¬ Go.Au.ShOk b := by
      intro hq
      obtain ⟨q0, q1, q2, q3, q4, q5, q6, q7⟩ := hq
      first | exact h146 q1 | omega | exact h146 (by rw [Go.Au.ntTr_yes q1]; exact q7)
    exact sh_none HNO S148.below
  refine W_skip ?_
  refine W_seq ?_
  refine W_draw rfl (by kernel_rfl) ?_
  have S149 := S139.drew
  refine T_pev rfl rfl rfl rfl ?_
  have HOK : Go.Au.ShOk b := ⟨by omega, HA, by omega, by omega, by omega, by omega, by omega, by have h := h146; rwa [Go.Au.ntTr_yes HA] at h⟩
  have E1 := R1
  have E2 : Go.Au.chunks ((Go.Au.ntTk 4 b).getD 2 []) (((Go.Au.ntTk 4 b).getD 2 []).length / 32) = Go.Au.hashN (Go.Au.row4 b 2) := by rw [R2, Go.Au.hashN_yes HOK.2.2.2.2.2.2.1]
  have E3 : Go.Au.ntAll (Go.Au.shK b) (Go.Au.ntTr 4 b) = Go.Au.ntAll (Go.Au.shK b) (Go.Au.ntRest 4 b) := by rw [Go.Au.ntTr_yes HA]
  obtain ⟨hs153, r154, r155⟩ := (r11.mono (hl115.trans hl141))
  refine T_idxR 0 r154 rfl rfl rfl rfl rfl rfl rfl rfl rfl (by omega) (by omega) fun b150 o151 hc152 => ?_
  obtain ⟨a158, c159, hc161, hv157, r160⟩ := r155.at 0 (by omega)
  have hc162 := hc152 0 (.slice a158 ((Go.Au.ntTk 4 b).getD 0 []).length c159) (by simpa using hv157)
  simp only [Nat.add_zero] at hc162
  refine T_loadG S149 hc162 rfl rfl rfl rfl rfl rfl rfl ?_
  refine T_idxR 0 r160 rfl rfl rfl rfl rfl rfl rfl rfl rfl (by omega) (by omega) fun b163 o164 hc165 => ?_
  have hc166 := hc165 0 (bV (((Go.Au.ntTk 4 b).getD 0 []).getD 0 0)) (at_b ((Go.Au.ntTk 4 b).getD 0 []) 0 (by omega))
  simp only [Nat.add_zero] at hc166
  refine T_loadG S149 hc166 rfl rfl rfl rfl rfl rfl rfl ?_
  refine T_b2i rfl rfl rfl rfl rfl rfl rfl ?_
  refine T_re (v' := .int .i64 ((((Go.Au.row4 b 0).getD 0 0).toNat : Nat) : Int)) (congrArg (fun q : Nat => Value.int .i64 (q : Int)) B0) ?_
  refine T_pev rfl rfl rfl rfl ?_
  obtain ⟨hs170, r171, r172⟩ := (r11.mono (hl115.trans hl141))
  refine T_idxR 1 r171 rfl rfl rfl rfl rfl rfl rfl rfl rfl (by omega) (by omega) fun b167 o168 hc169 => ?_
  obtain ⟨a175, c176, hc178, hv174, r177⟩ := r172.at 1 (by omega)
  have hc179 := hc169 0 (.slice a175 ((Go.Au.ntTk 4 b).getD 1 []).length c176) (by simpa using hv174)
  simp only [Nat.add_zero] at hc179
  refine T_loadG S149 hc179 rfl rfl rfl rfl rfl rfl rfl ?_
  refine T_pev rfl rfl rfl rfl ?_
  refine T_pev rfl rfl rfl rfl ?_
  refine T_buildS (cells := #[.int .i64 ((((Go.Au.row4 b 0).getD 0 0).toNat : Nat) : Int), .slice a175 ((Go.Au.ntTk 4 b).getD 1 []).length c176, .slice a107 (Go.Au.chunks ((Go.Au.ntTk 4 b).getD 2 []) (((Go.Au.ntTk 4 b).getD 2 []).length / 32)).length c108, .slice a134 (Go.Au.ntAll (Go.Au.shK b) (Go.Au.ntTr 4 b)).length c135]) rfl rfl rfl rfl rfl rfl rfl rfl rfl rfl ?_
  refine T_storeFS 0 S149 (fun _ _ => trivial) rfl rfl rfl rfl rfl rfl rfl rfl rfl (by first | rfl | simp [hVs, *]) (by first | rfl | simp [hVs, *]) (one_all rfl) fun w180 S181 => ?_
  refine T_pev rfl rfl rfl rfl ?_
  refine T_nil ?_
  refine W_ret ?_
  refine ⟨_, ⟨_, _, _, rfl, rfl, run_loadVarA rfl rfl (by first | rfl | simp [hVs, *]) (S181.cells 0 rfl), ⟨_, _, rfl, rfl, rfl⟩⟩, ?_⟩
  exact sh_some HOK rfl E1 E2 E3 ((r177).mono S181.fin) (((r110.mono hl141)).mono S181.fin) ((r136).mono S181.fin) S181.below


theorem unpackSR_ok {H : Hp} {w : World} (hH : H.le (hw w)) {b : List UInt8} {aa0 : Option Addr} {nn0 cc0 : Nat} (hv : Rd H (.slice aa0 nn0 cc0) nn0 1 (b.map bV)) (hb : b.length ≤ 100000) :
    Calls Tryd.prog 30 #[.slice aa0 nn0 cc0] w fun e w' => ∃ a1 c1 a2 c2 a3 c3, e = .returned (.tuple #[.agg #[.int .i64 (Go.Au.shN b), .slice a1 (Go.Au.shU b).length c1, .slice a2 (Go.Au.shP b).length c2, .slice a3 (Go.Au.shB b).length c3], .bool (decide (Go.Au.ShOk b))]) ∧ Rd (F.ext H w.heap.size w') (.slice a1 (Go.Au.shU b).length c1) (Go.Au.shU b).length 1 ((Go.Au.shU b).map bV) ∧ RdH (F.ext H w.heap.size w') (.slice a2 (Go.Au.shP b).length c2) 32 (Go.Au.shP b) ∧ RdL (F.ext H w.heap.size w') (.slice a3 (Go.Au.shB b).length c3) (Go.Au.shB b) ∧ Below w.heap.size w w' := by
  obtain rfl : nn0 = b.length := hv.lenB
  have hvcap : b.length ≤ cc0 := hv.capOf
  refine enter1 _ Tryd.func30 rfl Tryd.ntmps30 Tryd.results30 rfl ?_
  have S0 := St.start w hH
  refine W_seq ?_
  refine W_region ?_
  refine T_allocS S0 (fun _ _ => trivial) rfl rfl rfl rfl rfl rfl rfl fun b1 w2 S3 => ?_
  refine T_pev rfl rfl rfl rfl ?_
  refine T_nil ?_
  refine W_seq ?_
  refine W_seq ?_
  refine W_region ?_
  refine T_pev rfl rfl rfl rfl ?_
  refine T_pev rfl rfl rfl rfl ?_
  refine T_pev rfl rfl rfl rfl ?_
  refine T_nil ?_
  refine W_cond_dec rfl (fun h4 => ?_) (fun h4 => ?_)
  · refine W_seq ?_
    refine W_region ?_
    refine T_buildS (cells := #[.int .i64 0, .slice none 0 0, .slice none 0 0, .slice none 0 0]) rfl rfl rfl rfl rfl rfl rfl rfl rfl rfl ?_
    refine T_storeFS 0 S3 (fun _ _ => trivial) rfl rfl rfl rfl rfl rfl rfl rfl rfl (by first | rfl | simp [hVs, *]) (by first | rfl | simp [hVs, *]) (one_all rfl) fun w5 S6 => ?_
    refine T_pev rfl rfl rfl rfl ?_
    refine T_nil ?_
    refine W_ret ?_
    refine ⟨_, ⟨_, _, _, rfl, rfl, run_loadVarA rfl rfl (by first | rfl | simp [hVs, *]) (S6.cells 0 rfl), ⟨_, _, rfl, rfl, rfl⟩⟩, ?_⟩
    have HNO : ¬ Go.Au.ShOk b := fun hq => by have := hq.1; omega
    exact sh_none HNO S6.below
  refine W_skip ?_
  refine W_seq ?_
  refine W_seq ?_
  refine W_region ?_
  refine T_pev rfl rfl rfl rfl ?_
  refine T_nil ?_
  refine W_block ?_
  refine W_loop (fun M ρ w' => ∃ (k : Nat) (G7 : Hp), M = 17 - k ∧ k ≤ 17 ∧ (∀ m, m < k → ¬ Go.Au.ShAt b m) ∧ ρ = [(0, .slice aa0 b.length cc0), (2, .pointer (some ⟨b1, 0, none⟩)), (4, .int .i64 (k : Int))] ∧ H.le G7 ∧ St w H G7 [.blk b1 (.agg #[.int .i64 0, .slice none 0 0, .slice none 0 0, .slice none 0 0] : Value).cells 45] w')
    (17 - 0) [(0, .slice aa0 b.length cc0), (2, .pointer (some ⟨b1, 0, none⟩)), (4, .int .i64 ((0 : Nat) : Int))] ⟨rfl, rfl, (congrArg (fun z => some (Value.int .i64 z)) (by omega)), trivial⟩ ⟨0, H, rfl, (by omega), (by exact fun _ h => absurd h (Nat.not_lt_zero _)), rfl, Hp.le.refl _, S3⟩ ?_
  rintro M ρ w9 ⟨k, G7, rfl, hp11, HALL, rfl, hl8, S10⟩
  refine W_seq ?_
  refine W_seq ?_
  refine W_region ?_
  refine T_pev rfl rfl rfl rfl ?_
  refine T_pev rfl rfl rfl rfl ?_
  refine T_nil ?_
  refine W_cond_dec rfl (fun h13 => ?_) (fun h13 => ?_)
  · refine W_skip ?_
    refine W_seq ?_
    refine W_block ?_
    refine W_seq ?_
    refine W_region ?_
    refine T_pev rfl rfl rfl rfl ?_
    refine T_pev rfl rfl rfl rfl ?_
    refine T_ari rfl rfl rfl rfl (by omega) ?_
    refine T_callS rfl rfl g_aumbry_aumbryref01_TakeNets rfl rfl rfl rfl ((takeNetsR_ok S10.le (hv.mono hl8) (4 + k) (by omega) (by omega)).mono ?_)
    rintro e w18 ⟨a14, c15, rfl, r16, hB17⟩
    obtain ⟨G20, eG22⟩ : ∃ G, G = F.ext G7 w9.heap.size w18 := ⟨_, rfl⟩
    obtain ⟨hl21, S19⟩ := S10.ext hB17
    rw [← eG22] at hl21 S19 r16
    refine ⟨_, rfl, trivial, ?_⟩
    refine T_pev rfl rfl rfl rfl ?_
    refine T_pev rfl rfl rfl rfl ?_
    refine T_pev rfl rfl rfl rfl ?_
    refine T_pev rfl rfl rfl rfl ?_
    refine T_pev rfl rfl rfl rfl ?_
    refine T_nil ?_
    refine W_seq ?_
    refine W_seq ?_
    refine W_region ?_
    refine T_pev rfl rfl rfl rfl ?_
    refine T_pev rfl rfl rfl rfl ?_
    refine T_pev rfl rfl rfl rfl ?_
    refine T_part (t := 27) rfl (List.cons_ne_nil _ _) (fun h23' => ?_) (fun h23' => ?_)
    · have h23 := of_ndec_t h23'
      refine T_no rfl rfl rfl rfl rfl rfl ?_
      refine T_no rfl rfl rfl rfl rfl rfl ?_
      refine T_no rfl rfl rfl rfl rfl rfl ?_
      refine T_no rfl rfl rfl rfl rfl rfl ?_
      refine T_no rfl rfl rfl rfl rfl rfl ?_
      refine T_pev rfl rfl rfl rfl ?_
      refine T_pev rfl rfl rfl rfl ?_
      refine T_no rfl rfl rfl rfl rfl rfl ?_
      refine T_no rfl rfl rfl rfl rfl rfl ?_
      refine T_no rfl rfl rfl rfl rfl rfl ?_
      refine T_no rfl rfl rfl rfl rfl rfl ?_
      refine T_no rfl rfl rfl rfl rfl rfl ?_
      refine T_no rfl rfl rfl rfl rfl rfl ?_
      refine T_pev rfl rfl rfl rfl ?_
      refine T_pev rfl rfl rfl rfl ?_
      refine T_no rfl rfl rfl rfl rfl rfl ?_
      refine T_no rfl rfl rfl rfl rfl rfl ?_
      refine T_no rfl rfl rfl rfl rfl rfl ?_
      refine T_no rfl rfl rfl rfl rfl rfl ?_
      refine T_no rfl rfl rfl rfl rfl rfl ?_
      refine T_pev rfl rfl rfl rfl ?_
      refine T_pev rfl rfl rfl rfl ?_
      refine T_no rfl rfl rfl rfl rfl rfl ?_
      refine T_no rfl rfl rfl rfl rfl rfl ?_
      refine T_no rfl rfl rfl rfl rfl rfl ?_
      refine T_no rfl rfl rfl rfl rfl rfl ?_
      refine T_no rfl rfl rfl rfl rfl rfl ?_
      refine T_no rfl rfl rfl rfl rfl rfl ?_
      refine T_no rfl rfl rfl rfl rfl rfl ?_
      refine T_no rfl rfl rfl rfl rfl rfl ?_
      refine T_pev rfl rfl rfl rfl ?_
      refine T_nil ?_
      refine W_cond_true rfl ?_
      refine W_exit ?_
      refine W_region ?_
      refine T_pev rfl rfl rfl rfl ?_
      refine T_ari rfl rfl rfl rfl (by omega) ?_
      refine T_pev rfl rfl rfl rfl ?_
      refine T_nil ?_
      have HF : ¬ Go.Au.ShAt b k := by
        intro hq
        obtain ⟨q1, q2, q3, q4, q5⟩ := hq
        first | exact h23 q1 | omega
      exact ⟨17 - (k + 1), [(0, .slice aa0 b.length cc0), (2, .pointer (some ⟨b1, 0, none⟩)), (4, .int .i64 ((k + 1 : Nat) : Int))], by omega, ⟨rfl, rfl, (congrArg (fun z => some (Value.int .i64 z)) (by omega)), trivial⟩, k + 1, G20, rfl, (by omega), (by exact lt_succ_all HALL HF), rfl, (hl8.trans hl21), S19⟩
    have h23 := of_ndec_f h23'
    refine T_yes rfl rfl rfl ?_ rfl
    refine T_pev rfl rfl rfl rfl ?_
    refine T_yes rfl rfl rfl ?_ rfl
    have HA := h23
    have hn4 := Go.Au.ntAll_len HA
    have R0 : (Go.Au.ntAll (4 + k) b).getD 0 [] = Go.Au.row4 b 0 := Go.Au.ntAll_get HA (by omega)
    have L0 := congrArg List.length R0
    have B0 : (((Go.Au.ntAll (4 + k) b).getD 0 []).getD 0 0).toNat = ((Go.Au.row4 b 0).getD 0 0).toNat := congrArg (fun q : List UInt8 => (q.getD 0 0).toNat) R0
    have N0 : (Go.Au.row4 b 0).length ≤ b.length := Go.Au.row4_le b 0
    have R1 : (Go.Au.ntAll (4 + k) b).getD 1 [] = Go.Au.row4 b 1 := Go.Au.ntAll_get HA (by omega)
    have L1 := congrArg List.length R1
    have B1 : (((Go.Au.ntAll (4 + k) b).getD 1 []).getD 0 0).toNat = ((Go.Au.row4 b 1).getD 0 0).toNat := congrArg (fun q : List UInt8 => (q.getD 0 0).toNat) R1
    have N1 : (Go.Au.row4 b 1).length ≤ b.length := Go.Au.row4_le b 1
    have R2 : (Go.Au.ntAll (4 + k) b).getD 2 [] = Go.Au.row4 b 2 := Go.Au.ntAll_get HA (by omega)
    have L2 := congrArg List.length R2
    have B2 : (((Go.Au.ntAll (4 + k) b).getD 2 []).getD 0 0).toNat = ((Go.Au.row4 b 2).getD 0 0).toNat := congrArg (fun q : List UInt8 => (q.getD 0 0).toNat) R2
    have N2 : (Go.Au.row4 b 2).length ≤ b.length := Go.Au.row4_le b 2
    have R3 : (Go.Au.ntAll (4 + k) b).getD 3 [] = Go.Au.row4 b 3 := Go.Au.ntAll_get HA (by omega)
    have L3 := congrArg List.length R3
    have B3 : (((Go.Au.ntAll (4 + k) b).getD 3 []).getD 0 0).toNat = ((Go.Au.row4 b 3).getD 0 0).toNat := congrArg (fun q : List UInt8 => (q.getD 0 0).toNat) R3
    have N3 : (Go.Au.row4 b 3).length ≤ b.length := Go.Au.row4_le b 3
    have HK : Go.Au.shK b = ((Go.Au.row4 b 3).getD 0 0).toNat := rfl
    obtain ⟨hs27, r28, r29⟩ := (id r16)
    refine T_idxR 0 r28 rfl rfl rfl rfl rfl rfl rfl rfl rfl (by omega) (by omega) fun b24 o25 hc26 => ?_
    obtain ⟨a32, c33, hc35, hv31, r34⟩ := r29.at 0 (by omega)
    have hc36 := hc26 0 (.slice a32 ((Go.Au.ntAll (4 + k) b).getD 0 []).length c33) (by simpa using hv31)
    simp only [Nat.add_zero] at hc36
    refine T_yes rfl rfl rfl ?_ rfl
    refine T_loadG S19 hc36 rfl rfl rfl rfl rfl rfl rfl ?_
    refine T_yes rfl rfl rfl ?_ rfl
    refine T_pev rfl rfl rfl rfl ?_
    refine T_yes rfl rfl rfl ?_ rfl
    refine T_pev rfl rfl rfl rfl ?_
    refine T_pev rfl rfl rfl rfl ?_
    refine T_pev rfl rfl rfl rfl ?_
    refine T_part (t := 34) rfl (List.cons_ne_nil _ _) (fun h37' => ?_) (fun h37' => ?_)
    · have h37 := of_ndec_t h37'
      refine T_no rfl rfl rfl rfl rfl rfl ?_
      refine T_no rfl rfl rfl rfl rfl rfl ?_
      refine T_no rfl rfl rfl rfl rfl rfl ?_
      refine T_no rfl rfl rfl rfl rfl rfl ?_
      refine T_no rfl rfl rfl rfl rfl rfl ?_
      refine T_no rfl rfl rfl rfl rfl rfl ?_
      refine T_pev rfl rfl rfl rfl ?_
      refine T_pev rfl rfl rfl rfl ?_
      refine T_no rfl rfl rfl rfl rfl rfl ?_
      refine T_no rfl rfl rfl rfl rfl rfl ?_
      refine T_no rfl rfl rfl rfl rfl rfl ?_
      refine T_no rfl rfl rfl rfl rfl rfl ?_
      refine T_no rfl rfl rfl rfl rfl rfl ?_
      refine T_pev rfl rfl rfl rfl ?_
      refine T_pev rfl rfl rfl rfl ?_
      refine T_no rfl rfl rfl rfl rfl rfl ?_
      refine T_no rfl rfl rfl rfl rfl rfl ?_
      refine T_no rfl rfl rfl rfl rfl rfl ?_
      refine T_no rfl rfl rfl rfl rfl rfl ?_
      refine T_no rfl rfl rfl rfl rfl rfl ?_
      refine T_no rfl rfl rfl rfl rfl rfl ?_
      refine T_no rfl rfl rfl rfl rfl rfl ?_
      refine T_no rfl rfl rfl rfl rfl rfl ?_
      refine T_pev rfl rfl rfl rfl ?_
      refine T_nil ?_
      refine W_cond_true rfl ?_
      refine W_exit ?_
      refine W_region ?_
      refine T_pev rfl rfl rfl rfl ?_
      refine T_ari rfl rfl rfl rfl (by omega) ?_
      refine T_pev rfl rfl rfl rfl ?_
      refine T_nil ?_
      have HF : ¬ Go.Au.ShAt b k := by
        intro hq
        obtain ⟨q1, q2, q3, q4, q5⟩ := hq
        first | exact h37 q1 | omega
      exact ⟨17 - (k + 1), [(0, .slice aa0 b.length cc0), (2, .pointer (some ⟨b1, 0, none⟩)), (4, .int .i64 ((k + 1 : Nat) : Int))], by omega, ⟨rfl, rfl, (congrArg (fun z => some (Value.int .i64 z)) (by omega)), trivial⟩, k + 1, G20, rfl, (by omega), (by exact lt_succ_all HALL HF), rfl, (hl8.trans hl21), S19⟩
    have h37 := of_ndec_f h37'
    refine T_yes rfl rfl rfl ?_ rfl
    refine T_pev rfl rfl rfl rfl ?_
    refine T_yes rfl rfl rfl ?_ rfl
    obtain ⟨hs41, r42, r43⟩ := (id r16)
    refine T_idxR 0 r42 rfl rfl rfl rfl rfl rfl rfl rfl rfl (by omega) (by omega) fun b38 o39 hc40 => ?_
    obtain ⟨a46, c47, hc49, hv45, r48⟩ := r43.at 0 (by omega)
    have hc50 := hc40 0 (.slice a46 ((Go.Au.ntAll (4 + k) b).getD 0 []).length c47) (by simpa using hv45)
    simp only [Nat.add_zero] at hc50
    refine T_yes rfl rfl rfl ?_ rfl
    refine T_loadG S19 hc50 rfl rfl rfl rfl rfl rfl rfl ?_
    refine T_yes rfl rfl rfl ?_ rfl
    refine T_idxR 0 r48 rfl rfl rfl rfl rfl rfl rfl rfl rfl (by omega) (by omega) fun b51 o52 hc53 => ?_
    have hc54 := hc53 0 (bV (((Go.Au.ntAll (4 + k) b).getD 0 []).getD 0 0)) (at_b ((Go.Au.ntAll (4 + k) b).getD 0 []) 0 (by omega))
    simp only [Nat.add_zero] at hc54
    refine T_yes rfl rfl rfl ?_ rfl
    refine T_loadG S19 hc54 rfl rfl rfl rfl rfl rfl rfl ?_
    refine T_yes rfl rfl rfl ?_ rfl
    refine T_pev rfl rfl rfl rfl ?_
    refine T_pev rfl rfl rfl rfl ?_
    refine T_pev rfl rfl rfl rfl ?_
    refine T_part (t := 42) rfl (List.cons_ne_nil _ _) (fun h55' => ?_) (fun h55' => ?_)
    · have h55 := of_decide_eq_true h55'
      refine T_no rfl rfl rfl rfl rfl rfl ?_
      refine T_no rfl rfl rfl rfl rfl rfl ?_
      refine T_no rfl rfl rfl rfl rfl rfl ?_
      refine T_no rfl rfl rfl rfl rfl rfl ?_
      refine T_no rfl rfl rfl rfl rfl rfl ?_
      refine T_pev rfl rfl rfl rfl ?_
      refine T_pev rfl rfl rfl rfl ?_
      refine T_no rfl rfl rfl rfl rfl rfl ?_
      refine T_no rfl rfl rfl rfl rfl rfl ?_
      refine T_no rfl rfl rfl rfl rfl rfl ?_
      refine T_no rfl rfl rfl rfl rfl rfl ?_
      refine T_no rfl rfl rfl rfl rfl rfl ?_
      refine T_no rfl rfl rfl rfl rfl rfl ?_
      refine T_no rfl rfl rfl rfl rfl rfl ?_
      refine T_no rfl rfl rfl rfl rfl rfl ?_
      refine T_pev rfl rfl rfl rfl ?_
      refine T_nil ?_
      refine W_cond_true rfl ?_
      refine W_exit ?_
      refine W_region ?_
      refine T_pev rfl rfl rfl rfl ?_
      refine T_ari rfl rfl rfl rfl (by omega) ?_
      refine T_pev rfl rfl rfl rfl ?_
      refine T_nil ?_
      have HF : ¬ Go.Au.ShAt b k := by
        intro hq
        obtain ⟨q1, q2, q3, q4, q5⟩ := hq
        first | exact h55 q1 | omega
      exact ⟨17 - (k + 1), [(0, .slice aa0 b.length cc0), (2, .pointer (some ⟨b1, 0, none⟩)), (4, .int .i64 ((k + 1 : Nat) : Int))], by omega, ⟨rfl, rfl, (congrArg (fun z => some (Value.int .i64 z)) (by omega)), trivial⟩, k + 1, G20, rfl, (by omega), (by exact lt_succ_all HALL HF), rfl, (hl8.trans hl21), S19⟩
    have h55 := of_decide_eq_false h55'
    refine T_yes rfl rfl rfl ?_ rfl
    refine T_pev rfl rfl rfl rfl ?_
    refine T_yes rfl rfl rfl ?_ rfl
    obtain ⟨hs59, r60, r61⟩ := (id r16)
    refine T_idxR 3 r60 rfl rfl rfl rfl rfl rfl rfl rfl rfl (by omega) (by omega) fun b56 o57 hc58 => ?_
    obtain ⟨a64, c65, hc67, hv63, r66⟩ := r61.at 3 (by omega)
    have hc68 := hc58 0 (.slice a64 ((Go.Au.ntAll (4 + k) b).getD 3 []).length c65) (by simpa using hv63)
    simp only [Nat.add_zero] at hc68
    refine T_yes rfl rfl rfl ?_ rfl
    refine T_loadG S19 hc68 rfl rfl rfl rfl rfl rfl rfl ?_
    refine T_yes rfl rfl rfl ?_ rfl
    refine T_pev rfl rfl rfl rfl ?_
    refine T_yes rfl rfl rfl ?_ rfl
    refine T_pev rfl rfl rfl rfl ?_
    refine T_pev rfl rfl rfl rfl ?_
    refine T_pev rfl rfl rfl rfl ?_
    refine T_part (t := 49) rfl (List.cons_ne_nil _ _) (fun h69' => ?_) (fun h69' => ?_)
    · have h69 := of_ndec_t h69'
      refine T_no rfl rfl rfl rfl rfl rfl ?_
      refine T_no rfl rfl rfl rfl rfl rfl ?_
      refine T_no rfl rfl rfl rfl rfl rfl ?_
      refine T_no rfl rfl rfl rfl rfl rfl ?_
      refine T_no rfl rfl rfl rfl rfl rfl ?_
      refine T_no rfl rfl rfl rfl rfl rfl ?_
      refine T_no rfl rfl rfl rfl rfl rfl ?_
      refine T_no rfl rfl rfl rfl rfl rfl ?_
      refine T_pev rfl rfl rfl rfl ?_
      refine T_nil ?_
      refine W_cond_true rfl ?_
      refine W_exit ?_
      refine W_region ?_
      refine T_pev rfl rfl rfl rfl ?_
      refine T_ari rfl rfl rfl rfl (by omega) ?_
      refine T_pev rfl rfl rfl rfl ?_
      refine T_nil ?_
      have HF : ¬ Go.Au.ShAt b k := by
        intro hq
        obtain ⟨q1, q2, q3, q4, q5⟩ := hq
        first | exact h69 q1 | omega
      exact ⟨17 - (k + 1), [(0, .slice aa0 b.length cc0), (2, .pointer (some ⟨b1, 0, none⟩)), (4, .int .i64 ((k + 1 : Nat) : Int))], by omega, ⟨rfl, rfl, (congrArg (fun z => some (Value.int .i64 z)) (by omega)), trivial⟩, k + 1, G20, rfl, (by omega), (by exact lt_succ_all HALL HF), rfl, (hl8.trans hl21), S19⟩
    have h69 := of_ndec_f h69'
    refine T_yes rfl rfl rfl ?_ rfl
    refine T_pev rfl rfl rfl rfl ?_
    refine T_yes rfl rfl rfl ?_ rfl
    obtain ⟨hs73, r74, r75⟩ := (id r16)
    refine T_idxR 3 r74 rfl rfl rfl rfl rfl rfl rfl rfl rfl (by omega) (by omega) fun b70 o71 hc72 => ?_
    obtain ⟨a78, c79, hc81, hv77, r80⟩ := r75.at 3 (by omega)
    have hc82 := hc72 0 (.slice a78 ((Go.Au.ntAll (4 + k) b).getD 3 []).length c79) (by simpa using hv77)
    simp only [Nat.add_zero] at hc82
    refine T_yes rfl rfl rfl ?_ rfl
    refine T_loadG S19 hc82 rfl rfl rfl rfl rfl rfl rfl ?_
    refine T_yes rfl rfl rfl ?_ rfl
    refine T_idxR 0 r80 rfl rfl rfl rfl rfl rfl rfl rfl rfl (by omega) (by omega) fun b83 o84 hc85 => ?_
    have hc86 := hc85 0 (bV (((Go.Au.ntAll (4 + k) b).getD 3 []).getD 0 0)) (at_b ((Go.Au.ntAll (4 + k) b).getD 3 []) 0 (by omega))
    simp only [Nat.add_zero] at hc86
    refine T_yes rfl rfl rfl ?_ rfl
    refine T_loadG S19 hc86 rfl rfl rfl rfl rfl rfl rfl ?_
    refine T_yes rfl rfl rfl ?_ rfl
    refine T_b2i rfl rfl rfl rfl rfl rfl rfl ?_
    refine T_yes rfl rfl rfl ?_ rfl
    refine T_pev rfl rfl rfl rfl ?_
    refine T_yes rfl rfl rfl ?_ rfl
    refine T_pev rfl rfl rfl rfl ?_
    refine T_pev rfl rfl rfl rfl ?_
    refine T_nil ?_
    refine W_cond_not rfl (fun h87 => ?_) (fun h87 => ?_)
    · refine W_exit ?_
      refine W_region ?_
      refine T_pev rfl rfl rfl rfl ?_
      refine T_ari rfl rfl rfl rfl (by omega) ?_
      refine T_pev rfl rfl rfl rfl ?_
      refine T_nil ?_
      have HF : ¬ Go.Au.ShAt b k := by
        intro hq
        obtain ⟨q1, q2, q3, q4, q5⟩ := hq
        first | exact h87 q1 | omega
      exact ⟨17 - (k + 1), [(0, .slice aa0 b.length cc0), (2, .pointer (some ⟨b1, 0, none⟩)), (4, .int .i64 ((k + 1 : Nat) : Int))], by omega, ⟨rfl, rfl, (congrArg (fun z => some (Value.int .i64 z)) (by omega)), trivial⟩, k + 1, G20, rfl, (by omega), (by exact lt_succ_all HALL HF), rfl, (hl8.trans hl21), S19⟩
    refine W_skip ?_
    refine W_seq ?_
    refine W_region ?_
    refine T_pev rfl rfl rfl rfl ?_
    have HAT : Go.Au.ShAt b k := ⟨HA, by omega, by omega, by omega, by omega⟩
    obtain ⟨hs91, r92, r93⟩ := (id r16)
    refine T_idxR 2 r92 rfl rfl rfl rfl rfl rfl rfl rfl rfl (by omega) (by omega) fun b88 o89 hc90 => ?_
    obtain ⟨a96, c97, hc99, hv95, r98⟩ := r93.at 2 (by omega)
    have hc100 := hc90 0 (.slice a96 ((Go.Au.ntAll (4 + k) b).getD 2 []).length c97) (by simpa using hv95)
    simp only [Nat.add_zero] at hc100
    refine T_loadG S19 hc100 rfl rfl rfl rfl rfl rfl rfl ?_
    refine T_callS rfl rfl g_aumbry_aumbryref07_TakeHashes rfl rfl rfl rfl ((takeHashesN_ok S19.le r98 (by omega)).mono ?_)
    rintro e w106 ⟨a101, c102, hc103, rfl, r104, hB105⟩
    obtain ⟨G108, eG110⟩ : ∃ G, G = F.ext G20 w18.heap.size w106 := ⟨_, rfl⟩
    obtain ⟨hl109, S107⟩ := S19.ext hB105
    rw [← eG110] at hl109 S107 r104
    refine ⟨_, rfl, trivial, ?_⟩
    refine T_pev rfl rfl rfl rfl ?_
    refine T_pev rfl rfl rfl rfl ?_
    refine T_pev rfl rfl rfl rfl ?_
    refine T_pev rfl rfl rfl rfl ?_
    refine T_pev rfl rfl rfl rfl ?_
    refine T_nil ?_
    refine W_seq ?_
    refine W_seq ?_
    refine W_region ?_
    refine T_pev rfl rfl rfl rfl ?_
    refine T_pev rfl rfl rfl rfl ?_
    refine T_nil ?_
    refine W_cond_not rfl (fun h111 => ?_) (fun h111 => ?_)
    · refine W_seq ?_
      refine W_region ?_
      refine T_buildS (cells := #[.int .i64 0, .slice none 0 0, .slice none 0 0, .slice none 0 0]) rfl rfl rfl rfl rfl rfl rfl rfl rfl rfl ?_
      refine T_storeFS 0 S107 (fun _ _ => trivial) rfl rfl rfl rfl rfl rfl rfl rfl rfl (by first | rfl | simp [hVs, *]) (by first | rfl | simp [hVs, *]) (one_all rfl) fun w112 S113 => ?_
      refine T_pev rfl rfl rfl rfl ?_
      refine T_nil ?_
      refine W_ret ?_
      refine ⟨_, ⟨_, _, _, rfl, rfl, run_loadVarA rfl rfl (by first | rfl | simp [hVs, *]) (S113.cells 0 rfl), ⟨_, _, rfl, rfl, rfl⟩⟩, ?_⟩
      have HNO : ¬ Go.Au.ShOk b := Go.Au.ShAt_32 HAT (by omega)
      exact sh_none HNO S113.below
    refine W_skip ?_
    refine W_seq ?_
    refine W_tree (planF Tryd.prog G108 [71, 73, 77]) (.step 0 (.step 1 (.step 2 (.step 3 (.step 4 (.step 5 (.step 6 (.step 7 (.step 8 (.step 10 (.fork 9 12 (.step 11 (.step 12 (.step 13 .done))) (.step 9 (.step 11 (.step 13 .done)))))))))))))) rfl (by kernel_rfl) S107.le ?_
    have S114 := S107.drew
    refine TT_step rfl ?_
    refine T_pev rfl rfl rfl rfl ?_
    refine T_nil ?_
    refine TT_step rfl ?_
    have HOK : Go.Au.ShOk b := Go.Au.ShAt_ok (by omega) HAT (by omega) (by omega)
    have E1 := R1
    have E2 : Go.Au.hashN ((Go.Au.ntAll (4 + k) b).getD 2 []) = Go.Au.hashN (Go.Au.row4 b 2) := by rw [R2]
    have E3 : ((Go.Au.ntAll (4 + k) b).drop 4) = Go.Au.ntAll (Go.Au.shK b) (Go.Au.ntRest 4 b) := by rw [Go.Au.ShAt_rows HAT, Go.Au.ntAll_yes HOK.2.2.2.2.2.2.2, HAT.2.2.2.2]
    obtain ⟨hs118, r119, r120⟩ := (r16.mono hl109)
    refine T_idxR 0 r119 rfl rfl rfl rfl rfl rfl rfl rfl rfl (by omega) (by omega) fun b115 o116 hc117 => ?_
    obtain ⟨a123, c124, hc126, hv122, r125⟩ := r120.at 0 (by omega)
    have hc127 := hc117 0 (.slice a123 ((Go.Au.ntAll (4 + k) b).getD 0 []).length c124) (by simpa using hv122)
    simp only [Nat.add_zero] at hc127
    refine T_nil ?_
    refine TT_step rfl ?_
    refine T_loadGP (fun _ h => h) hc127 rfl rfl rfl rfl rfl rfl rfl ?_
    refine T_nil ?_
    refine TT_step rfl ?_
    refine T_idxR 0 r125 rfl rfl rfl rfl rfl rfl rfl rfl rfl (by omega) (by omega) fun b128 o129 hc130 => ?_
    have hc131 := hc130 0 (bV (((Go.Au.ntAll (4 + k) b).getD 0 []).getD 0 0)) (at_b ((Go.Au.ntAll (4 + k) b).getD 0 []) 0 (by omega))
    simp only [Nat.add_zero] at hc131
    refine T_nil ?_
    refine TT_step rfl ?_
    refine T_loadGP (fun _ h => h) hc131 rfl rfl rfl rfl rfl rfl rfl ?_
    refine T_nil ?_
    refine TT_step rfl ?_
    refine T_b2i rfl rfl rfl rfl rfl rfl rfl ?_
    refine T_re (v' := .int .i64 ((((Go.Au.row4 b 0).getD 0 0).toNat : Nat) : Int)) (congrArg (fun q : Nat => Value.int .i64 (q : Int)) B0) ?_
    refine T_nil ?_
    refine TT_step rfl ?_
    refine T_pev rfl rfl rfl rfl ?_
    refine T_nil ?_
    refine TT_step rfl ?_
    obtain ⟨hs135, r136, r137⟩ := (r16.mono hl109)
    refine T_idxR 1 r136 rfl rfl rfl rfl rfl rfl rfl rfl rfl (by omega) (by omega) fun b132 o133 hc134 => ?_
    obtain ⟨a140, c141, hc143, hv139, r142⟩ := r137.at 1 (by omega)
    have hc144 := hc134 0 (.slice a140 ((Go.Au.ntAll (4 + k) b).getD 1 []).length c141) (by simpa using hv139)
    simp only [Nat.add_zero] at hc144
    refine T_nil ?_
    refine TT_step rfl ?_
    refine T_loadGP (fun _ h => h) hc144 rfl rfl rfl rfl rfl rfl rfl ?_
    refine T_nil ?_
    refine TT_step rfl ?_
    refine T_pev rfl rfl rfl rfl ?_
    refine T_nil ?_
    refine TT_fork rfl rfl ?_ ?_
    · have S145 := S114.nilRow 5 1
      refine T_appendS 0 (((Go.Au.ntAll (4 + k) b).getD 1 []).length) (((Go.Au.ntAll (4 + k) b).getD 1 []).map bV) S145 (fun _ h => ((Hp.le.refl _)).trans h) rfl rfl rfl rfl rfl rfl rfl rfl rfl rfl rfl rfl rfl rfl (r142.mono S145.le) (one_bV _) (by first | rfl | (simp; done) | (simp; omega) | omega) (by simp) (by unfold maxLen; omega) (by show _ * 1 ≤ _; omega) fun a146 c147 w148 hc149 S150 => ?_
      refine T_nil ?_
      refine TT_step rfl ?_
      obtain ⟨G152, hl153, S151, r154⟩ := S150.stillRow 0 rfl
      refine T_buildS (cells := #[.int .i64 ((((Go.Au.row4 b 0).getD 0 0).toNat : Nat) : Int), .slice a146 (((Go.Au.ntAll (4 + k) b).getD 1 []).length) c147, .slice a101 (Go.Au.hashN ((Go.Au.ntAll (4 + k) b).getD 2 [])).length c102, .slice none 0 0]) rfl rfl rfl rfl rfl rfl rfl rfl rfl rfl ?_
      refine T_nil ?_
      refine TT_step rfl ?_
      refine T_allocS S151 (fun _ h => (hl153).trans h) rfl rfl rfl rfl rfl rfl rfl fun b155 w156 S157 => ?_
      refine T_nil ?_
      refine TT_step rfl ?_
      refine T_storeFS 0 S157 (fun _ h => (hl153).trans h) rfl rfl rfl rfl rfl rfl rfl rfl rfl (by first | rfl | simp [hVs, *]) (by first | rfl | simp [hVs, *]) (one_all rfl) fun w158 S159 => ?_
      refine T_nil ?_
      refine TT_done ?_
      refine W_seq ?_
      refine W_seq ?_
      refine W_region ?_
      refine T_pev rfl rfl rfl rfl ?_
      refine T_nil ?_
      refine W_block ?_
      have S160 := S159.nilRow 26 1
      have rs161 := Rds.nil G152
      refine W_loop (fun M ρ w' => ∃ (j : Nat) (a164 : Option Addr) (c165 : Nat) (hs167 : List Value) (G162 : Hp), M = k - j ∧ j ≤ k ∧ ρ = [(2, .pointer (some ⟨b1, 0, none⟩)), (5, .slice a14 (Go.Au.ntAll (4 + k) b).length c15), (8, .pointer (some ⟨b155, 0, none⟩)), (9, .int .i64 ((4 + j : Nat) : Int))] ∧ G152.le G162 ∧ St w H G162 [.row 26 1 (.slice a164 j c165) j hs167, .blk b155 (.agg #[.int .i64 ((((Go.Au.row4 b 0).getD 0 0).toNat : Nat) : Int), .slice a146 (((Go.Au.ntAll (4 + k) b).getD 1 []).length) c147, .slice a101 (Go.Au.hashN ((Go.Au.ntAll (4 + k) b).getD 2 [])).length c102, .slice a164 j c165] : Value).cells 45, .blk b1 (.agg #[.int .i64 0, .slice none 0 0, .slice none 0 0, .slice none 0 0] : Value).cells 45] w' ∧ Rds G162 hs167 (((Go.Au.ntAll (4 + k) b).drop 4).take j) ∧ j ≤ c165)
        (k - 0) [(2, .pointer (some ⟨b1, 0, none⟩)), (5, .slice a14 (Go.Au.ntAll (4 + k) b).length c15), (8, .pointer (some ⟨b155, 0, none⟩)), (9, .int .i64 ((4 + 0 : Nat) : Int))] ⟨rfl, rfl, rfl, (congrArg (fun z => some (Value.int .i64 z)) (by omega)), trivial⟩ ⟨0, none, 0, _, G152, rfl, (by omega), rfl, Hp.le.refl _, S160, rs161, (Nat.le_refl _)⟩ ?_
      rintro M ρ w169 ⟨j, a164, c165, hs167, G162, rfl, hp171, rfl, hl163, S170, rs168, hc166⟩
      refine W_seq ?_
      refine W_seq ?_
      refine W_region ?_
      refine T_pev rfl rfl rfl rfl ?_
      refine T_pev rfl rfl rfl rfl ?_
      refine T_pev rfl rfl rfl rfl ?_
      refine T_pev rfl rfl rfl rfl ?_
      refine T_nil ?_
      refine W_cond_dec rfl (fun h172 => ?_) (fun h172 => ?_)
      · refine W_skip ?_
        refine W_seq ?_
        refine W_block ?_
        refine W_tree (plan Tryd.prog) (.step 0 (.step 2 (.step 3 (.step 4 (.step 5 (.fork 1 6 (.step 6 (.step 7 (.step 8 (.step 9 (.step 10 .done))))) (.fork 1 7 (.step 7 (.step 8 (.step 9 (.step 10 .done)))) (.step 1 (.step 8 (.step 9 (.step 10 .done))))))))))) rfl (by kernel_rfl) trivial ?_
        have S173 := S170.drew
        refine TT_step rfl ?_
        refine T_fldm 3 rfl rfl rfl rfl rfl rfl (by decide) rfl rfl rfl ?_
        refine T_nil ?_
        refine TT_step rfl ?_
        refine T_pev rfl rfl rfl rfl ?_
        refine T_nil ?_
        refine TT_step rfl ?_
        refine T_pev rfl rfl rfl rfl ?_
        refine T_nil ?_
        refine TT_step rfl ?_
        obtain ⟨hs177, r178, r179⟩ := (r16.mono (hl109.trans (hl153.trans hl163)))
        refine T_idxR (4 + j) r178 rfl rfl rfl rfl rfl rfl rfl rfl rfl (by omega) (by omega) fun b174 o175 hc176 => ?_
        obtain ⟨a182, c183, hc185, hv181, r184⟩ := r179.at (4 + j) (by omega)
        have hc186 := hc176 0 (.slice a182 ((Go.Au.ntAll (4 + k) b).getD (4 + j) []).length c183) (by simpa using hv181)
        simp only [Nat.add_zero] at hc186
        refine T_nil ?_
        refine TT_step rfl ?_
        have HEL := el_le1 (fun x hx => (Go.Au.ntAll_el (4 + k) b x hx).1) (k := 4 + j) (by omega)
        refine T_loadG S173 hc186 rfl rfl rfl rfl rfl rfl rfl ?_
        refine T_nil ?_
        refine TT_fork rfl rfl ?_ ?_
        · refine T_loadS 1 3 S173 rfl rfl rfl rfl rfl rfl rfl rfl rfl rfl ?_
          refine T_nil ?_
          refine TT_step rfl ?_
          have S187 := S173.nilRow 5 1
          refine T_appendS 0 (((Go.Au.ntAll (4 + k) b).getD (4 + j) []).length) (((Go.Au.ntAll (4 + k) b).getD (4 + j) []).map bV) S187 (fun _ _ => trivial) rfl rfl rfl rfl rfl rfl rfl rfl rfl rfl rfl rfl rfl rfl (r184.mono S187.le) (one_bV _) (by first | rfl | (simp; done) | (simp; omega) | omega) (by simp) (by unfold maxLen; omega) (by show _ * 1 ≤ _; omega) fun a188 c189 w190 hc191 S192 => ?_
          refine T_nil ?_
          refine TT_step rfl ?_
          obtain ⟨G198, hl199, S197, r200⟩ := S192.stillRow 0 rfl
          have rs201 : Rds G198 [.slice a188 (((Go.Au.ntAll (4 + k) b).getD (4 + j) []).length) c189] [((Go.Au.ntAll (4 + k) b).getD (4 + j) [])] := Rds.cons (Rd.canonB r200) (Rds.nil _)
          refine T_litS [.slice a188 (((Go.Au.ntAll (4 + k) b).getD (4 + j) []).length) c189] rfl rfl rfl rfl rfl rfl rfl rfl rfl rfl rfl rfl rfl (by simp [Value.cells]; rfl) rfl fun a193 w194 hB195 ho196 => ?_
          have S202 := S197.own hB195 ho196
          refine ⟨trivial, ?_⟩
          refine T_nil ?_
          refine TT_step rfl ?_
          have hD203 : (((Go.Au.ntAll (4 + k) b).drop 4).take j ++ [((Go.Au.ntAll (4 + k) b).getD (4 + j) [])]) = ((Go.Au.ntAll (4 + k) b).drop 4).take (j + 1) := (take_drop4 (by omega))
          refine T_appendS 1 (j + 1) _ S202 (fun _ _ => trivial) rfl rfl rfl rfl rfl rfl rfl rfl rfl rfl rfl rfl rfl rfl (S202.rd 0 rfl) rs201.one (by first | rfl | (simp; done) | (simp; omega) | omega) rfl (by unfold maxLen; omega) (by show _ * 24 ≤ _; omega) fun a204 c205 w206 hc207 S208 => ?_
          have rs209 := Rds.append (rs168.mono hl199) rs201
          rw [hD203] at rs209
          refine T_nil ?_
          refine TT_step rfl ?_
          refine T_fldm 3 rfl rfl rfl rfl rfl rfl (by decide) rfl rfl rfl ?_
          refine T_nil ?_
          refine TT_step rfl ?_
          refine T_store1S 2 3 S208 (fun _ _ => trivial) rfl rfl rfl rfl rfl rfl rfl rfl rfl rfl rfl rfl (show 3 < 4 by decide) fun w210 S211 => ?_
          have hE212 : (.agg #[.int .i64 ((((Go.Au.row4 b 0).getD 0 0).toNat : Nat) : Int), .slice a146 (((Go.Au.ntAll (4 + k) b).getD 1 []).length) c147, .slice a101 (Go.Au.hashN ((Go.Au.ntAll (4 + k) b).getD 2 [])).length c102, .slice a164 j c165] : Value).cells.setIfInBounds 3 (.slice a204 (j + 1) c205) = (.agg #[.int .i64 ((((Go.Au.row4 b 0).getD 0 0).toNat : Nat) : Int), .slice a146 (((Go.Au.ntAll (4 + k) b).getD 1 []).length) c147, .slice a101 (Go.Au.hashN ((Go.Au.ntAll (4 + k) b).getD 2 [])).length c102, .slice a204 (j + 1) c205] : Value).cells := rfl
          rw [hE212] at S211
          refine T_nil ?_
          refine TT_done ?_
          refine W_region ?_
          refine T_pev rfl rfl rfl rfl ?_
          refine T_ari rfl rfl rfl rfl (by omega) ?_
          refine T_pev rfl rfl rfl rfl ?_
          refine T_nil ?_
          have S213 := S211.drop 0
          exact ⟨k - (j + 1), [(2, .pointer (some ⟨b1, 0, none⟩)), (5, .slice a14 (Go.Au.ntAll (4 + k) b).length c15), (8, .pointer (some ⟨b155, 0, none⟩)), (9, .int .i64 ((4 + (j + 1) : Nat) : Int))], by omega, ⟨rfl, rfl, rfl, (congrArg (fun z => some (Value.int .i64 z)) (by omega)), trivial⟩, j + 1, a204, c205, _, G198, rfl, (by omega), rfl, (hl163.trans hl199), S213, rs209, hc207⟩
        have S214 := S173.nilRow 5 1
        refine T_appendS 0 (((Go.Au.ntAll (4 + k) b).getD (4 + j) []).length) (((Go.Au.ntAll (4 + k) b).getD (4 + j) []).map bV) S214 (fun _ _ => trivial) rfl rfl rfl rfl rfl rfl rfl rfl rfl rfl rfl rfl rfl rfl (r184.mono S214.le) (one_bV _) (by first | rfl | (simp; done) | (simp; omega) | omega) (by simp) (by unfold maxLen; omega) (by show _ * 1 ≤ _; omega) fun a215 c216 w217 hc218 S219 => ?_
        refine T_nil ?_
        refine TT_fork rfl rfl ?_ ?_
        · refine T_loadS 2 3 S219 rfl rfl rfl rfl rfl rfl rfl rfl rfl rfl ?_
          refine T_nil ?_
          refine TT_step rfl ?_
          obtain ⟨G225, hl226, S224, r227⟩ := S219.stillRow 0 rfl
          have rs228 : Rds G225 [.slice a215 (((Go.Au.ntAll (4 + k) b).getD (4 + j) []).length) c216] [((Go.Au.ntAll (4 + k) b).getD (4 + j) [])] := Rds.cons (Rd.canonB r227) (Rds.nil _)
          refine T_litS [.slice a215 (((Go.Au.ntAll (4 + k) b).getD (4 + j) []).length) c216] rfl rfl rfl rfl rfl rfl rfl rfl rfl rfl rfl rfl rfl (by simp [Value.cells]; rfl) rfl fun a220 w221 hB222 ho223 => ?_
          have S229 := S224.own hB222 ho223
          refine ⟨trivial, ?_⟩
          refine T_nil ?_
          refine TT_step rfl ?_
          have hD230 : (((Go.Au.ntAll (4 + k) b).drop 4).take j ++ [((Go.Au.ntAll (4 + k) b).getD (4 + j) [])]) = ((Go.Au.ntAll (4 + k) b).drop 4).take (j + 1) := (take_drop4 (by omega))
          refine T_appendS 1 (j + 1) _ S229 (fun _ _ => trivial) rfl rfl rfl rfl rfl rfl rfl rfl rfl rfl rfl rfl rfl rfl (S229.rd 0 rfl) rs228.one (by first | rfl | (simp; done) | (simp; omega) | omega) rfl (by unfold maxLen; omega) (by show _ * 24 ≤ _; omega) fun a231 c232 w233 hc234 S235 => ?_
          have rs236 := Rds.append (rs168.mono hl226) rs228
          rw [hD230] at rs236
          refine T_nil ?_
          refine TT_step rfl ?_
          refine T_fldm 3 rfl rfl rfl rfl rfl rfl (by decide) rfl rfl rfl ?_
          refine T_nil ?_
          refine TT_step rfl ?_
          refine T_store1S 2 3 S235 (fun _ _ => trivial) rfl rfl rfl rfl rfl rfl rfl rfl rfl rfl rfl rfl (show 3 < 4 by decide) fun w237 S238 => ?_
          have hE239 : (.agg #[.int .i64 ((((Go.Au.row4 b 0).getD 0 0).toNat : Nat) : Int), .slice a146 (((Go.Au.ntAll (4 + k) b).getD 1 []).length) c147, .slice a101 (Go.Au.hashN ((Go.Au.ntAll (4 + k) b).getD 2 [])).length c102, .slice a164 j c165] : Value).cells.setIfInBounds 3 (.slice a231 (j + 1) c232) = (.agg #[.int .i64 ((((Go.Au.row4 b 0).getD 0 0).toNat : Nat) : Int), .slice a146 (((Go.Au.ntAll (4 + k) b).getD 1 []).length) c147, .slice a101 (Go.Au.hashN ((Go.Au.ntAll (4 + k) b).getD 2 [])).length c102, .slice a231 (j + 1) c232] : Value).cells := rfl
          rw [hE239] at S238
          refine T_nil ?_
          refine TT_done ?_
          refine W_region ?_
          refine T_pev rfl rfl rfl rfl ?_
          refine T_ari rfl rfl rfl rfl (by omega) ?_
          refine T_pev rfl rfl rfl rfl ?_
          refine T_nil ?_
          have S240 := S238.drop 0
          exact ⟨k - (j + 1), [(2, .pointer (some ⟨b1, 0, none⟩)), (5, .slice a14 (Go.Au.ntAll (4 + k) b).length c15), (8, .pointer (some ⟨b155, 0, none⟩)), (9, .int .i64 ((4 + (j + 1) : Nat) : Int))], by omega, ⟨rfl, rfl, rfl, (congrArg (fun z => some (Value.int .i64 z)) (by omega)), trivial⟩, j + 1, a231, c232, _, G225, rfl, (by omega), rfl, (hl163.trans hl226), S240, rs236, hc234⟩
        obtain ⟨G246, hl247, S245, r248⟩ := S219.stillRow 0 rfl
        have rs249 : Rds G246 [.slice a215 (((Go.Au.ntAll (4 + k) b).getD (4 + j) []).length) c216] [((Go.Au.ntAll (4 + k) b).getD (4 + j) [])] := Rds.cons (Rd.canonB r248) (Rds.nil _)
        refine T_litS [.slice a215 (((Go.Au.ntAll (4 + k) b).getD (4 + j) []).length) c216] rfl rfl rfl rfl rfl rfl rfl rfl rfl rfl rfl rfl rfl (by simp [Value.cells]; rfl) rfl fun a241 w242 hB243 ho244 => ?_
        have S250 := S245.own hB243 ho244
        refine ⟨trivial, ?_⟩
        refine T_nil ?_
        refine TT_step rfl ?_
        refine T_loadS 2 3 S250 rfl rfl rfl rfl rfl rfl rfl rfl rfl rfl ?_
        refine T_nil ?_
        refine TT_step rfl ?_
        have hD251 : (((Go.Au.ntAll (4 + k) b).drop 4).take j ++ [((Go.Au.ntAll (4 + k) b).getD (4 + j) [])]) = ((Go.Au.ntAll (4 + k) b).drop 4).take (j + 1) := (take_drop4 (by omega))
        refine T_appendS 1 (j + 1) _ S250 (fun _ _ => trivial) rfl rfl rfl rfl rfl rfl rfl rfl rfl rfl rfl rfl rfl rfl (S250.rd 0 rfl) rs249.one (by first | rfl | (simp; done) | (simp; omega) | omega) rfl (by unfold maxLen; omega) (by show _ * 24 ≤ _; omega) fun a252 c253 w254 hc255 S256 => ?_
        have rs257 := Rds.append (rs168.mono hl247) rs249
        rw [hD251] at rs257
        refine T_nil ?_
        refine TT_step rfl ?_
        refine T_fldm 3 rfl rfl rfl rfl rfl rfl (by decide) rfl rfl rfl ?_
        refine T_nil ?_
        refine TT_step rfl ?_
        refine T_store1S 2 3 S256 (fun _ _ => trivial) rfl rfl rfl rfl rfl rfl rfl rfl rfl rfl rfl rfl (show 3 < 4 by decide) fun w258 S259 => ?_
        have hE260 : (.agg #[.int .i64 ((((Go.Au.row4 b 0).getD 0 0).toNat : Nat) : Int), .slice a146 (((Go.Au.ntAll (4 + k) b).getD 1 []).length) c147, .slice a101 (Go.Au.hashN ((Go.Au.ntAll (4 + k) b).getD 2 [])).length c102, .slice a164 j c165] : Value).cells.setIfInBounds 3 (.slice a252 (j + 1) c253) = (.agg #[.int .i64 ((((Go.Au.row4 b 0).getD 0 0).toNat : Nat) : Int), .slice a146 (((Go.Au.ntAll (4 + k) b).getD 1 []).length) c147, .slice a101 (Go.Au.hashN ((Go.Au.ntAll (4 + k) b).getD 2 [])).length c102, .slice a252 (j + 1) c253] : Value).cells := rfl
        rw [hE260] at S259
        refine T_nil ?_
        refine TT_done ?_
        refine W_region ?_
        refine T_pev rfl rfl rfl rfl ?_
        refine T_ari rfl rfl rfl rfl (by omega) ?_
        refine T_pev rfl rfl rfl rfl ?_
        refine T_nil ?_
        have S261 := S259.drop 0
        exact ⟨k - (j + 1), [(2, .pointer (some ⟨b1, 0, none⟩)), (5, .slice a14 (Go.Au.ntAll (4 + k) b).length c15), (8, .pointer (some ⟨b155, 0, none⟩)), (9, .int .i64 ((4 + (j + 1) : Nat) : Int))], by omega, ⟨rfl, rfl, rfl, (congrArg (fun z => some (Value.int .i64 z)) (by omega)), trivial⟩, j + 1, a252, c253, _, G246, rfl, (by omega), rfl, (hl163.trans hl247), S261, rs257, hc255⟩
      refine W_exit ?_
      refine W_seq ?_
      refine W_region ?_
      obtain rfl : j = k := by omega
      have hdl : ((Go.Au.ntAll (4 + j) b).drop 4).length = j := by rw [List.length_drop]; omega
      have hdt : ((Go.Au.ntAll (4 + j) b).drop 4).take j = ((Go.Au.ntAll (4 + j) b).drop 4) := List.take_of_length_le (by omega)
      rw [← hdt] at E3
      refine T_loadFS 1 S170 rfl rfl rfl rfl rfl rfl rfl rfl rfl (by first | rfl | simp [hVs, *]) ?_
      refine T_storeFS 2 S170 (fun _ _ => trivial) rfl rfl rfl rfl rfl rfl rfl rfl rfl (by first | rfl | simp [hVs, *]) (by first | rfl | simp [hVs, *]) (one_all rfl) fun w262 S263 => ?_
      refine T_pev rfl rfl rfl rfl ?_
      refine T_nil ?_
      refine W_ret ?_
      refine ⟨_, ⟨_, _, _, rfl, rfl, run_loadVarA rfl rfl (by first | rfl | simp [hVs, *]) (S263.cells 2 rfl), ⟨_, _, rfl, rfl, rfl⟩⟩, ?_⟩
      obtain ⟨G265, hl266, S264, r267⟩ := S263.stillRow 0 rfl
      have r268 := RdL.mk r267 (rs168.mono hl266)
      exact sh_some HOK rfl E1 E2 E3 (((r154.mono (hl163.trans hl266))).mono S264.fin) (((r104.mono (hl153.trans (hl163.trans hl266)))).mono S264.fin) ((r268).mono S264.fin) S264.below
    refine T_allocS S114 (fun _ h => ((Hp.le.refl _)).trans h) rfl rfl rfl rfl rfl rfl rfl fun b269 w270 S271 => ?_
    refine T_nil ?_
    refine TT_step rfl ?_
    have S272 := S271.nilRow 5 1
    refine T_appendS 0 (((Go.Au.ntAll (4 + k) b).getD 1 []).length) (((Go.Au.ntAll (4 + k) b).getD 1 []).map bV) S272 (fun _ h => ((Hp.le.refl _)).trans h) rfl rfl rfl rfl rfl rfl rfl rfl rfl rfl rfl rfl rfl rfl (r142.mono S272.le) (one_bV _) (by first | rfl | (simp; done) | (simp; omega) | omega) (by simp) (by unfold maxLen; omega) (by show _ * 1 ≤ _; omega) fun a273 c274 w275 hc276 S277 => ?_
    refine T_nil ?_
    refine TT_step rfl ?_
    obtain ⟨G279, hl280, S278, r281⟩ := S277.stillRow 0 rfl
    refine T_buildS (cells := #[.int .i64 ((((Go.Au.row4 b 0).getD 0 0).toNat : Nat) : Int), .slice a273 (((Go.Au.ntAll (4 + k) b).getD 1 []).length) c274, .slice a101 (Go.Au.hashN ((Go.Au.ntAll (4 + k) b).getD 2 [])).length c102, .slice none 0 0]) rfl rfl rfl rfl rfl rfl rfl rfl rfl rfl ?_
    refine T_nil ?_
    refine TT_step rfl ?_
    refine T_storeFS 0 S278 (fun _ h => (hl280).trans h) rfl rfl rfl rfl rfl rfl rfl rfl rfl (by first | rfl | simp [hVs, *]) (by first | rfl | simp [hVs, *]) (one_all rfl) fun w282 S283 => ?_
    refine T_nil ?_
    refine TT_done ?_
    refine W_seq ?_
    refine W_seq ?_
    refine W_region ?_
    refine T_pev rfl rfl rfl rfl ?_
    refine T_nil ?_
    refine W_block ?_
    have S284 := S283.nilRow 26 1
    have rs285 := Rds.nil G279
    refine W_loop (fun M ρ w' => ∃ (j : Nat) (a288 : Option Addr) (c289 : Nat) (hs291 : List Value) (G286 : Hp), M = k - j ∧ j ≤ k ∧ ρ = [(2, .pointer (some ⟨b1, 0, none⟩)), (5, .slice a14 (Go.Au.ntAll (4 + k) b).length c15), (8, .pointer (some ⟨b269, 0, none⟩)), (9, .int .i64 ((4 + j : Nat) : Int))] ∧ G279.le G286 ∧ St w H G286 [.row 26 1 (.slice a288 j c289) j hs291, .blk b269 (.agg #[.int .i64 ((((Go.Au.row4 b 0).getD 0 0).toNat : Nat) : Int), .slice a273 (((Go.Au.ntAll (4 + k) b).getD 1 []).length) c274, .slice a101 (Go.Au.hashN ((Go.Au.ntAll (4 + k) b).getD 2 [])).length c102, .slice a288 j c289] : Value).cells 45, .blk b1 (.agg #[.int .i64 0, .slice none 0 0, .slice none 0 0, .slice none 0 0] : Value).cells 45] w' ∧ Rds G286 hs291 (((Go.Au.ntAll (4 + k) b).drop 4).take j) ∧ j ≤ c289)
      (k - 0) [(2, .pointer (some ⟨b1, 0, none⟩)), (5, .slice a14 (Go.Au.ntAll (4 + k) b).length c15), (8, .pointer (some ⟨b269, 0, none⟩)), (9, .int .i64 ((4 + 0 : Nat) : Int))] ⟨rfl, rfl, rfl, (congrArg (fun z => some (Value.int .i64 z)) (by omega)), trivial⟩ ⟨0, none, 0, _, G279, rfl, (by omega), rfl, Hp.le.refl _, S284, rs285, (Nat.le_refl _)⟩ ?_
    rintro M ρ w293 ⟨j, a288, c289, hs291, G286, rfl, hp295, rfl, hl287, S294, rs292, hc290⟩
    refine W_seq ?_
    refine W_seq ?_
    refine W_region ?_
    refine T_pev rfl rfl rfl rfl ?_
    refine T_pev rfl rfl rfl rfl ?_
    refine T_pev rfl rfl rfl rfl ?_
    refine T_pev rfl rfl rfl rfl ?_
    refine T_nil ?_
    refine W_cond_dec rfl (fun h296 => ?_) (fun h296 => ?_)
    · refine W_skip ?_
      refine W_seq ?_
      refine W_block ?_
      refine W_tree (plan Tryd.prog) (.step 0 (.step 2 (.step 3 (.step 4 (.step 5 (.fork 1 6 (.step 6 (.step 7 (.step 8 (.step 9 (.step 10 .done))))) (.fork 1 7 (.step 7 (.step 8 (.step 9 (.step 10 .done)))) (.step 1 (.step 8 (.step 9 (.step 10 .done))))))))))) rfl (by kernel_rfl) trivial ?_
      have S297 := S294.drew
      refine TT_step rfl ?_
      refine T_fldm 3 rfl rfl rfl rfl rfl rfl (by decide) rfl rfl rfl ?_
      refine T_nil ?_
      refine TT_step rfl ?_
      refine T_pev rfl rfl rfl rfl ?_
      refine T_nil ?_
      refine TT_step rfl ?_
      refine T_pev rfl rfl rfl rfl ?_
      refine T_nil ?_
      refine TT_step rfl ?_
      obtain ⟨hs301, r302, r303⟩ := (r16.mono (hl109.trans (hl280.trans hl287)))
      refine T_idxR (4 + j) r302 rfl rfl rfl rfl rfl rfl rfl rfl rfl (by omega) (by omega) fun b298 o299 hc300 => ?_
      obtain ⟨a306, c307, hc309, hv305, r308⟩ := r303.at (4 + j) (by omega)
      have hc310 := hc300 0 (.slice a306 ((Go.Au.ntAll (4 + k) b).getD (4 + j) []).length c307) (by simpa using hv305)
      simp only [Nat.add_zero] at hc310
      refine T_nil ?_
      refine TT_step rfl ?_
      have HEL := el_le1 (fun x hx => (Go.Au.ntAll_el (4 + k) b x hx).1) (k := 4 + j) (by omega)
      refine T_loadG S297 hc310 rfl rfl rfl rfl rfl rfl rfl ?_
      refine T_nil ?_
      refine TT_fork rfl rfl ?_ ?_
      · refine T_loadS 1 3 S297 rfl rfl rfl rfl rfl rfl rfl rfl rfl rfl ?_
        refine T_nil ?_
        refine TT_step rfl ?_
        have S311 := S297.nilRow 5 1
        refine T_appendS 0 (((Go.Au.ntAll (4 + k) b).getD (4 + j) []).length) (((Go.Au.ntAll (4 + k) b).getD (4 + j) []).map bV) S311 (fun _ _ => trivial) rfl rfl rfl rfl rfl rfl rfl rfl rfl rfl rfl rfl rfl rfl (r308.mono S311.le) (one_bV _) (by first | rfl | (simp; done) | (simp; omega) | omega) (by simp) (by unfold maxLen; omega) (by show _ * 1 ≤ _; omega) fun a312 c313 w314 hc315 S316 => ?_
        refine T_nil ?_
        refine TT_step rfl ?_
        obtain ⟨G322, hl323, S321, r324⟩ := S316.stillRow 0 rfl
        have rs325 : Rds G322 [.slice a312 (((Go.Au.ntAll (4 + k) b).getD (4 + j) []).length) c313] [((Go.Au.ntAll (4 + k) b).getD (4 + j) [])] := Rds.cons (Rd.canonB r324) (Rds.nil _)
        refine T_litS [.slice a312 (((Go.Au.ntAll (4 + k) b).getD (4 + j) []).length) c313] rfl rfl rfl rfl rfl rfl rfl rfl rfl rfl rfl rfl rfl (by simp [Value.cells]; rfl) rfl fun a317 w318 hB319 ho320 => ?_
        have S326 := S321.own hB319 ho320
        refine ⟨trivial, ?_⟩
        refine T_nil ?_
        refine TT_step rfl ?_
        have hD327 : (((Go.Au.ntAll (4 + k) b).drop 4).take j ++ [((Go.Au.ntAll (4 + k) b).getD (4 + j) [])]) = ((Go.Au.ntAll (4 + k) b).drop 4).take (j + 1) := (take_drop4 (by omega))
        refine T_appendS 1 (j + 1) _ S326 (fun _ _ => trivial) rfl rfl rfl rfl rfl rfl rfl rfl rfl rfl rfl rfl rfl rfl (S326.rd 0 rfl) rs325.one (by first | rfl | (simp; done) | (simp; omega) | omega) rfl (by unfold maxLen; omega) (by show _ * 24 ≤ _; omega) fun a328 c329 w330 hc331 S332 => ?_
        have rs333 := Rds.append (rs292.mono hl323) rs325
        rw [hD327] at rs333
        refine T_nil ?_
        refine TT_step rfl ?_
        refine T_fldm 3 rfl rfl rfl rfl rfl rfl (by decide) rfl rfl rfl ?_
        refine T_nil ?_
        refine TT_step rfl ?_
        refine T_store1S 2 3 S332 (fun _ _ => trivial) rfl rfl rfl rfl rfl rfl rfl rfl rfl rfl rfl rfl (show 3 < 4 by decide) fun w334 S335 => ?_
        have hE336 : (.agg #[.int .i64 ((((Go.Au.row4 b 0).getD 0 0).toNat : Nat) : Int), .slice a273 (((Go.Au.ntAll (4 + k) b).getD 1 []).length) c274, .slice a101 (Go.Au.hashN ((Go.Au.ntAll (4 + k) b).getD 2 [])).length c102, .slice a288 j c289] : Value).cells.setIfInBounds 3 (.slice a328 (j + 1) c329) = (.agg #[.int .i64 ((((Go.Au.row4 b 0).getD 0 0).toNat : Nat) : Int), .slice a273 (((Go.Au.ntAll (4 + k) b).getD 1 []).length) c274, .slice a101 (Go.Au.hashN ((Go.Au.ntAll (4 + k) b).getD 2 [])).length c102, .slice a328 (j + 1) c329] : Value).cells := rfl
        rw [hE336] at S335
        refine T_nil ?_
        refine TT_done ?_
        refine W_region ?_
        refine T_pev rfl rfl rfl rfl ?_
        refine T_ari rfl rfl rfl rfl (by omega) ?_
        refine T_pev rfl rfl rfl rfl ?_
        refine T_nil ?_
        have S337 := S335.drop 0
        exact ⟨k - (j + 1), [(2, .pointer (some ⟨b1, 0, none⟩)), (5, .slice a14 (Go.Au.ntAll (4 + k) b).length c15), (8, .pointer (some ⟨b269, 0, none⟩)), (9, .int .i64 ((4 + (j + 1) : Nat) : Int))], by omega, ⟨rfl, rfl, rfl, (congrArg (fun z => some (Value.int .i64 z)) (by omega)), trivial⟩, j + 1, a328, c329, _, G322, rfl, (by omega), rfl, (hl287.trans hl323), S337, rs333, hc331⟩
      have S338 := S297.nilRow 5 1
      refine T_appendS 0 (((Go.Au.ntAll (4 + k) b).getD (4 + j) []).length) (((Go.Au.ntAll (4 + k) b).getD (4 + j) []).map bV) S338 (fun _ _ => trivial) rfl rfl rfl rfl rfl rfl rfl rfl rfl rfl rfl rfl rfl rfl (r308.mono S338.le) (one_bV _) (by first | rfl | (simp; done) | (simp; omega) | omega) (by simp) (by unfold maxLen; omega) (by show _ * 1 ≤ _; omega) fun a339 c340 w341 hc342 S343 => ?_
      refine T_nil ?_
      refine TT_fork rfl rfl ?_ ?_
      · refine T_loadS 2 3 S343 rfl rfl rfl rfl rfl rfl rfl rfl rfl rfl ?_
        refine T_nil ?_
        refine TT_step rfl ?_
        obtain ⟨G349, hl350, S348, r351⟩ := S343.stillRow 0 rfl
        have rs352 : Rds G349 [.slice a339 (((Go.Au.ntAll (4 + k) b).getD (4 + j) []).length) c340] [((Go.Au.ntAll (4 + k) b).getD (4 + j) [])] := Rds.cons (Rd.canonB r351) (Rds.nil _)
        refine T_litS [.slice a339 (((Go.Au.ntAll (4 + k) b).getD (4 + j) []).length) c340] rfl rfl rfl rfl rfl rfl rfl rfl rfl rfl rfl rfl rfl (by simp [Value.cells]; rfl) rfl fun a344 w345 hB346 ho347 => ?_
        have S353 := S348.own hB346 ho347
        refine ⟨trivial, ?_⟩
        refine T_nil ?_
        refine TT_step rfl ?_
        have hD354 : (((Go.Au.ntAll (4 + k) b).drop 4).take j ++ [((Go.Au.ntAll (4 + k) b).getD (4 + j) [])]) = ((Go.Au.ntAll (4 + k) b).drop 4).take (j + 1) := (take_drop4 (by omega))
        refine T_appendS 1 (j + 1) _ S353 (fun _ _ => trivial) rfl rfl rfl rfl rfl rfl rfl rfl rfl rfl rfl rfl rfl rfl (S353.rd 0 rfl) rs352.one (by first | rfl | (simp; done) | (simp; omega) | omega) rfl (by unfold maxLen; omega) (by show _ * 24 ≤ _; omega) fun a355 c356 w357 hc358 S359 => ?_
        have rs360 := Rds.append (rs292.mono hl350) rs352
        rw [hD354] at rs360
        refine T_nil ?_
        refine TT_step rfl ?_
        refine T_fldm 3 rfl rfl rfl rfl rfl rfl (by decide) rfl rfl rfl ?_
        refine T_nil ?_
        refine TT_step rfl ?_
        refine T_store1S 2 3 S359 (fun _ _ => trivial) rfl rfl rfl rfl rfl rfl rfl rfl rfl rfl rfl rfl (show 3 < 4 by decide) fun w361 S362 => ?_
        have hE363 : (.agg #[.int .i64 ((((Go.Au.row4 b 0).getD 0 0).toNat : Nat) : Int), .slice a273 (((Go.Au.ntAll (4 + k) b).getD 1 []).length) c274, .slice a101 (Go.Au.hashN ((Go.Au.ntAll (4 + k) b).getD 2 [])).length c102, .slice a288 j c289] : Value).cells.setIfInBounds 3 (.slice a355 (j + 1) c356) = (.agg #[.int .i64 ((((Go.Au.row4 b 0).getD 0 0).toNat : Nat) : Int), .slice a273 (((Go.Au.ntAll (4 + k) b).getD 1 []).length) c274, .slice a101 (Go.Au.hashN ((Go.Au.ntAll (4 + k) b).getD 2 [])).length c102, .slice a355 (j + 1) c356] : Value).cells := rfl
        rw [hE363] at S362
        refine T_nil ?_
        refine TT_done ?_
        refine W_region ?_
        refine T_pev rfl rfl rfl rfl ?_
        refine T_ari rfl rfl rfl rfl (by omega) ?_
        refine T_pev rfl rfl rfl rfl ?_
        refine T_nil ?_
        have S364 := S362.drop 0
        exact ⟨k - (j + 1), [(2, .pointer (some ⟨b1, 0, none⟩)), (5, .slice a14 (Go.Au.ntAll (4 + k) b).length c15), (8, .pointer (some ⟨b269, 0, none⟩)), (9, .int .i64 ((4 + (j + 1) : Nat) : Int))], by omega, ⟨rfl, rfl, rfl, (congrArg (fun z => some (Value.int .i64 z)) (by omega)), trivial⟩, j + 1, a355, c356, _, G349, rfl, (by omega), rfl, (hl287.trans hl350), S364, rs360, hc358⟩
      obtain ⟨G370, hl371, S369, r372⟩ := S343.stillRow 0 rfl
      have rs373 : Rds G370 [.slice a339 (((Go.Au.ntAll (4 + k) b).getD (4 + j) []).length) c340] [((Go.Au.ntAll (4 + k) b).getD (4 + j) [])] := Rds.cons (Rd.canonB r372) (Rds.nil _)
      refine T_litS [.slice a339 (((Go.Au.ntAll (4 + k) b).getD (4 + j) []).length) c340] rfl rfl rfl rfl rfl rfl rfl rfl rfl rfl rfl rfl rfl (by simp [Value.cells]; rfl) rfl fun a365 w366 hB367 ho368 => ?_
      have S374 := S369.own hB367 ho368
      refine ⟨trivial, ?_⟩
      refine T_nil ?_
      refine TT_step rfl ?_
      refine T_loadS 2 3 S374 rfl rfl rfl rfl rfl rfl rfl rfl rfl rfl ?_
      refine T_nil ?_
      refine TT_step rfl ?_
      have hD375 : (((Go.Au.ntAll (4 + k) b).drop 4).take j ++ [((Go.Au.ntAll (4 + k) b).getD (4 + j) [])]) = ((Go.Au.ntAll (4 + k) b).drop 4).take (j + 1) := (take_drop4 (by omega))
      refine T_appendS 1 (j + 1) _ S374 (fun _ _ => trivial) rfl rfl rfl rfl rfl rfl rfl rfl rfl rfl rfl rfl rfl rfl (S374.rd 0 rfl) rs373.one (by first | rfl | (simp; done) | (simp; omega) | omega) rfl (by unfold maxLen; omega) (by show _ * 24 ≤ _; omega) fun a376 c377 w378 hc379 S380 => ?_
      have rs381 := Rds.append (rs292.mono hl371) rs373
      rw [hD375] at rs381
      refine T_nil ?_
      refine TT_step rfl ?_
      refine T_fldm 3 rfl rfl rfl rfl rfl rfl (by decide) rfl rfl rfl ?_
      refine T_nil ?_
      refine TT_step rfl ?_
      refine T_store1S 2 3 S380 (fun _ _ => trivial) rfl rfl rfl rfl rfl rfl rfl rfl rfl rfl rfl rfl (show 3 < 4 by decide) fun w382 S383 => ?_
      have hE384 : (.agg #[.int .i64 ((((Go.Au.row4 b 0).getD 0 0).toNat : Nat) : Int), .slice a273 (((Go.Au.ntAll (4 + k) b).getD 1 []).length) c274, .slice a101 (Go.Au.hashN ((Go.Au.ntAll (4 + k) b).getD 2 [])).length c102, .slice a288 j c289] : Value).cells.setIfInBounds 3 (.slice a376 (j + 1) c377) = (.agg #[.int .i64 ((((Go.Au.row4 b 0).getD 0 0).toNat : Nat) : Int), .slice a273 (((Go.Au.ntAll (4 + k) b).getD 1 []).length) c274, .slice a101 (Go.Au.hashN ((Go.Au.ntAll (4 + k) b).getD 2 [])).length c102, .slice a376 (j + 1) c377] : Value).cells := rfl
      rw [hE384] at S383
      refine T_nil ?_
      refine TT_done ?_
      refine W_region ?_
      refine T_pev rfl rfl rfl rfl ?_
      refine T_ari rfl rfl rfl rfl (by omega) ?_
      refine T_pev rfl rfl rfl rfl ?_
      refine T_nil ?_
      have S385 := S383.drop 0
      exact ⟨k - (j + 1), [(2, .pointer (some ⟨b1, 0, none⟩)), (5, .slice a14 (Go.Au.ntAll (4 + k) b).length c15), (8, .pointer (some ⟨b269, 0, none⟩)), (9, .int .i64 ((4 + (j + 1) : Nat) : Int))], by omega, ⟨rfl, rfl, rfl, (congrArg (fun z => some (Value.int .i64 z)) (by omega)), trivial⟩, j + 1, a376, c377, _, G370, rfl, (by omega), rfl, (hl287.trans hl371), S385, rs381, hc379⟩
    refine W_exit ?_
    refine W_seq ?_
    refine W_region ?_
    obtain rfl : j = k := by omega
    have hdl : ((Go.Au.ntAll (4 + j) b).drop 4).length = j := by rw [List.length_drop]; omega
    have hdt : ((Go.Au.ntAll (4 + j) b).drop 4).take j = ((Go.Au.ntAll (4 + j) b).drop 4) := List.take_of_length_le (by omega)
    rw [← hdt] at E3
    refine T_loadFS 1 S294 rfl rfl rfl rfl rfl rfl rfl rfl rfl (by first | rfl | simp [hVs, *]) ?_
    refine T_storeFS 2 S294 (fun _ _ => trivial) rfl rfl rfl rfl rfl rfl rfl rfl rfl (by first | rfl | simp [hVs, *]) (by first | rfl | simp [hVs, *]) (one_all rfl) fun w386 S387 => ?_
    refine T_pev rfl rfl rfl rfl ?_
    refine T_nil ?_
    refine W_ret ?_
    refine ⟨_, ⟨_, _, _, rfl, rfl, run_loadVarA rfl rfl (by first | rfl | simp [hVs, *]) (S387.cells 2 rfl), ⟨_, _, rfl, rfl, rfl⟩⟩, ?_⟩
    obtain ⟨G389, hl390, S388, r391⟩ := S387.stillRow 0 rfl
    have r392 := RdL.mk r391 (rs292.mono hl390)
    exact sh_some HOK rfl E1 E2 E3 (((r281.mono (hl287.trans hl390))).mono S388.fin) (((r104.mono (hl280.trans (hl287.trans hl390)))).mono S388.fin) ((r392).mono S388.fin) S388.below
  refine W_exit ?_
  refine W_seq ?_
  refine W_region ?_
  refine T_buildS (cells := #[.int .i64 0, .slice none 0 0, .slice none 0 0, .slice none 0 0]) rfl rfl rfl rfl rfl rfl rfl rfl rfl rfl ?_
  refine T_storeFS 0 S10 (fun _ _ => trivial) rfl rfl rfl rfl rfl rfl rfl rfl rfl (by first | rfl | simp [hVs, *]) (by first | rfl | simp [hVs, *]) (one_all rfl) fun w393 S394 => ?_
  refine T_pev rfl rfl rfl rfl ?_
  refine T_nil ?_
  refine W_ret ?_
  refine ⟨_, ⟨_, _, _, rfl, rfl, run_loadVarA rfl rfl (by first | rfl | simp [hVs, *]) (S394.cells 0 rfl), ⟨_, _, rfl, rfl, rfl⟩⟩, ?_⟩
  obtain rfl : k = 17 := by omega
  have HNO : ¬ Go.Au.ShOk b := Go.Au.ShOk_none HALL
  exact sh_none HNO S394.below

end Go.Proofs.YtmjmjjkigblbgaaDoor
