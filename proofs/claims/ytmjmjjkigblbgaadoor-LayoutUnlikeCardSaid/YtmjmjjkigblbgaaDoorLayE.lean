/- Shares as bytes, and back. -/
import Derived.Test.YtmjmjjkigblbgaaDoorLayD
set_option linter.unusedVariables false
set_option linter.unusedSimpArgs false
set_option maxRecDepth 8192
namespace Go.Proofs.YtmjmjjkigblbgaaDoor
open Go Go.F Go.RowKit
open Go.Au

theorem packS_ok {H : Hp} {w : World} (hH : H.le (hw w)) (hT : Tabs H) (sn : Int) {u : List UInt8} {p B : List (List UInt8)} {a1 a2 a3 : Option Addr} {n1 n2 n3 c1 c2 c3 : Nat} (h1 : Rd H (.slice a1 n1 c1) n1 1 (u.map bV)) (h2 : RdH H (.slice a2 n2 c2) 32 p) (h3 : RdL H (.slice a3 n3 c3) B) (hn : sn ≤ 9223372036854775807) (hu : u.length ≤ 300) (hp : p.length ≤ 20) (hB : B.length ≤ 20) (hx : ∀ x ∈ B, x.length ≤ 100) :
  Calls Tryd.prog 21 #[.agg #[.int .i64 sn, .slice a1 n1 c1, .slice a2 n2 c2, .slice a3 n3 c3]] w fun e w' => ∃ a c, (packS sn u p B).length ≤ c ∧ e = .returned (.slice a (packS sn u p B).length c) ∧ rowZ w' w.heap.size 5 1 (.slice a (packS sn u p B).length c) (packS sn u p B).length ((packS sn u p B).map bV) ∧ Below w.heap.size w w' := by
 obtain rfl : n1 = u.length := h1.lenB
 obtain rfl : n2 = p.length := h2.len
 obtain rfl : n3 = B.length := h3.len
 have hl4 := head4_len sn (z := ((B.length : Nat) : Int)) hu hp h2.1
 have hnb := nets_cap (m := 100) (k := 20) (by decide) hB hx
 have hps := packS_len sn hu hp h2.1 hB hx
 have hpl : (packS sn u p B).length = (nets [Go.Sha.put (max 0 sn).toNat 1, u, flatTo [] p p.length, Go.Sha.put (max 0 ((B.length : Nat) : Int)).toNat 1]).length + (nets B).length := List.length_append
 refine enter1 _ Tryd.func21 rfl Tryd.ntmps21 Tryd.results21 rfl ?_
 have S0 := St.start w hH
 refine Wr (T_boxS S0 (fun _ _ => trivial) rfl rfl rfl rfl rfl rfl fun b1 w2 S3 => (Pv (T_nil (W_seq ?_))))
 obtain ⟨G5, hl6, S4, r7⟩ := S3.stillBlk 0 rfl
 refine W_plan (planF Tryd.prog G5 [8, 10, 13]) rfl (by kernel_rfl) S4.le ?_
 have S8 := S4.drew
 refine Fl 0 ?_
 refine Ac S8 (still_cell r7 rfl) ?_
 refine Cs g_aumbry_code_Put ((putN_ok S8.le sn 1 (by omega) (by omega)).mono ?_)
 rintro e w14 ⟨a9, c10, hc11, rfl, ho12, hB13⟩
 have S15 := S8.own hB13 ho12
 refine ⟨_, rfl, (((Hp.le.refl _)).trans S15.le), ?_⟩
 refine Fl 1 ?_
 refine Aj (still_cell r7 rfl) ?_
 refine Fl 2 ?_
 refine Aj (still_cell r7 rfl) ?_
 refine Cs g_aumbry_layout_row ((rowL_ok S15.le (h2.mono hl6) (by omega)).mono ?_)
 rintro e w21 ⟨a16, c17, hc18, rfl, ho19, hB20⟩
 have S22 := S15.own hB20 ho19
 refine ⟨_, rfl, (((Hp.le.refl _)).trans S22.le), ?_⟩
 refine Fl 3 ?_
 refine Aj (still_cell r7 rfl) ?_
 refine Pv ?_
 refine Cs g_aumbry_code_Put ((putN_ok S22.le ((B.length : Nat) : Int) 1 (by omega) (by omega)).mono ?_)
 rintro e w28 ⟨a23, c24, hc25, rfl, ho26, hB27⟩
 have S29 := S22.own hB27 ho26
 refine ⟨_, rfl, (((Hp.le.refl _)).trans S29.le), ?_⟩
 obtain ⟨G35, hl36, S34, r37⟩ := S29.stillRow 2 rfl
 obtain ⟨G39, hl40, S38, r41⟩ := S34.stillRow 1 rfl
 obtain ⟨G43, hl44, S42, r45⟩ := S38.stillRow 0 rfl
 have rs46 : Rds G43 [.slice a9 ((Go.Sha.put (max 0 sn).toNat 1).length) c10, .slice a1 u.length c1, .slice a16 ((flatTo [] p p.length).length) c17, .slice a23 ((Go.Sha.put (max 0 ((B.length : Nat) : Int)).toNat 1).length) c24] [Go.Sha.put (max 0 sn).toNat 1, u, flatTo [] p p.length, Go.Sha.put (max 0 ((B.length : Nat) : Int)).toNat 1] := Rds.cons (Rd.canonB (r37.mono (hl40.trans hl44))) (Rds.cons (Rd.canonB (h1.mono (hl6.trans (hl36.trans (hl40.trans hl44))))) (Rds.cons (Rd.canonB (r41.mono hl44)) (Rds.cons (Rd.canonB r45) (Rds.nil _))))
 refine Af (hone := by simp [Value.cells]; rfl) [.slice a9 ((Go.Sha.put (max 0 sn).toNat 1).length) c10, .slice a1 u.length c1, .slice a16 ((flatTo [] p p.length).length) c17, .slice a23 ((Go.Sha.put (max 0 ((B.length : Nat) : Int)).toNat 1).length) c24] fun a30 w31 hB32 ho33 => ?_
 have S47 := S42.own hB32 ho33
 refine ⟨(((hl36.trans (hl40.trans hl44))).trans S47.le), ?_⟩
 obtain ⟨G49, hl50, S48, r51⟩ := S47.stillRow 0 rfl
 have r52 := RdL.mk r51 (rs46.mono hl50)
 refine Cs g_aumbry_code_Nets ((nets_ok S48.le (hT.mono (hl6.trans (hl36.trans (hl40.trans (hl44.trans hl50))))) r52 (by omega)).mono ?_)
 rintro e w58 ⟨a53, c54, hc55, rfl, ho56, hB57⟩
 have S59 := S48.own hB57 ho56
 refine ⟨_, rfl, (((hl36.trans (hl40.trans (hl44.trans hl50)))).trans S59.le), ?_⟩
 refine Pv (Nr ?_)
 refine Pv ?_
 refine Fl 3 ?_
 refine T_loadG S59 (still_cell (hl50 _ _ (hl44 _ _ (hl40 _ _ (hl36 _ _ r7)))) rfl) rfl rfl rfl rfl rfl rfl rfl (Cs g_aumbry_code_Nets ((nets_ok S59.le (hT.mono (hl6.trans (hl36.trans (hl40.trans (hl44.trans hl50))))) (h3.mono (hl6.trans (hl36.trans (hl40.trans (hl44.trans hl50))))) (by omega)).mono ?_))
 rintro e w65 ⟨a60, c61, hc62, rfl, ho63, hB64⟩
 have S66 := S59.own hB64 ho63
 refine ⟨_, rfl, trivial, ?_⟩
 have hD67 : (nets ([Go.Sha.put (max 0 sn).toNat 1, u, flatTo [] p p.length, Go.Sha.put (max 0 ((B.length : Nat) : Int)).toNat 1]) ++ nets B) = packS sn u p B := rfl
 refine Ag (h1 := by exact one_bV _) (hn' := by first | rfl | (simp; done) | (simp; omega) | omega) (hx' := by rw [← hD67]; simp) (hbytes := by show _ * 1 ≤ _; omega) 1 ((packS sn u p B).length) ((packS sn u p B).map bV) S66 (S66.rd 0 rfl) fun a68 c69 w70 hc71 S72 => ?_
 refine Pv (T_nil (W_ret ?_))
 refine ⟨_, ⟨_, _, rfl, rfl, rfl⟩, ?_⟩
 exact ⟨_, _, hc71, rfl, S72.row 1 rfl, S72.below⟩


end Go.Proofs.YtmjmjjkigblbgaaDoor
