/- Rows and roots: the document's. -/
import Derived.Test.YtmjmjjkigblbgaaGreatDoorTreeA
set_option linter.unusedVariables false
set_option linter.unusedSimpArgs false
set_option maxRecDepth 8192
namespace Go.Proofs.YtmjmjjkigblbgaaGreatDoor
open Go Go.F Go.RowKit
open Go.Au

theorem upR_ok {H : Hp} {w : World} (hH : H.le (hw w)) {l : List (List UInt8)} {aa0 : Option Addr} {nn0 cc0 : Nat} (hv : RdH H (.slice aa0 nn0 cc0) 32 l) (hb : l.length ≤ 100000) :
  Calls Tryz.prog 83 #[.slice aa0 nn0 cc0] w fun e w' => ∃ a c, (l.length / 2) ≤ c ∧ e = .returned (.slice a (l.length / 2) c) ∧ rowZ w' w.heap.size 27 32 (.slice a (l.length / 2) c) (l.length / 2) (hcells (up l)) ∧ Below w.heap.size w w' := by
 obtain rfl : nn0 = l.length := hv.len
 have hvcap : l.length ≤ cc0 := hv.2.capOf
 refine enter1 _ Tryz.func83 rfl Tryz.ntmps83 Tryz.results83 rfl ?_
 have S0 := St.start w hH
 refine Wr (Pv (Nr ?_))
 refine Pv (T_nil (W_seq (Wr ?_)))
 refine Pv (T_nil (W_block ?_))
 have S1 := S0.nilRow 27 32
 refine W_loop (fun M ρ w' => ∃ (k : Nat) (a4 : Option Addr) (c5 : Nat) (G2 : Hp), M = l.length - k ∧ 2 * k ≤ l.length ∧ ρ = [(0, .slice aa0 l.length cc0), (3, .slice a4 k c5), (4, .int .i64 ((2 * k : Nat) : Int))] ∧ H.le G2 ∧ St w H G2 [.row 27 32 (.slice a4 k c5) k (hcells (upTo l k))] w' ∧ (∀ y ∈ upTo l k, y.length = 32) ∧ k ≤ c5)
  (l.length - 0) [(0, .slice aa0 l.length cc0), (3, .slice none 0 0), (4, .int .i64 (0 : Int))] ⟨rfl, rfl, ciI, trivial⟩ ⟨0, none, 0, H, rfl, (by omega), rfl, Hp.le.refl _, S1, (fun _ h => by cases h), (Nat.le_refl _)⟩ ?_
 rintro M ρ w8 ⟨k, a4, c5, G2, rfl, hp10, rfl, hl3, S9, hh7, hc6⟩
 refine W_seq (Wr (Pv ?_))
 refine Ar ?_
 iterate 3 refine Pv ?_
 refine T_nil (Aa (fun h11 => ?_) (fun h11 => ?_))
 ·refine W_skip (W_seq (W_block (W_draw rfl (by kernel_rfl) ?_)))
  have S12 := S9.drew
  iterate 3 refine Pv ?_
  refine Ag (2 * k) (hv.mono hl3).2 fun b13 o14 hc15 => ?_
  have hc16 := cells_h (hv.mono hl3).1 (2 * k) (by omega) hc15
  have hl17 := len_h (hv.mono hl3).1 (2 * k) (by omega)
  refine T_loadGA _ S12 hc16 rfl rfl rfl rfl rfl rfl rfl rfl (hVs hl17) ?_
  iterate 2 refine Pv ?_
  refine Ar ?_
  refine Ag ((2 * k) + 1) (hv.mono hl3).2 fun b18 o19 hc20 => ?_
  have hc21 := cells_h (hv.mono hl3).1 ((2 * k) + 1) (by omega) hc20
  have hl22 := len_h (hv.mono hl3).1 ((2 * k) + 1) (by omega)
  refine T_loadGA _ S12 hc21 rfl rfl rfl rfl rfl rfl rfl rfl (hVs hl22) (Cs g_aumbry_aumbryref07_Node ((nodeR_ok S12.le hl17 hl22).mono ?_))
  rintro e w24 ⟨rfl, hB23⟩
  have S25 := S12.call hB23
  refine ⟨_, rfl, trivial, ?_⟩
  refine T_litS (hcells [Go.Au.node (l.getD (2 * k) []) (l.getD ((2 * k) + 1) [])]) rfl rfl rfl rfl rfl rfl rfl rfl rfl rfl rfl rfl rfl (one_h (node_len _ _)) (by simp [hcells, hV, Value.cells]) fun a26 w27 hB28 ho29 => ?_
  have S30 := S25.own hB28 ho29
  refine ⟨trivial, ?_⟩
  have hD31 : (upTo l k ++ [Go.Au.node (l.getD (2 * k) []) (l.getD ((2 * k) + 1) [])]) = upTo l (k + 1) := (upTo_snoc _ _)
  refine Af (h1 := by exact one_hcells _) (hn' := by first | rfl | (simp; done) | (simp; omega) | omega) (hx' := by rw [← hD31]; simp [hcells_append, hcells]) (hbytes := by show _ * 32 ≤ _; omega) 1 (k + 1) (hcells (upTo l (k + 1))) S30 (S30.rd 0 rfl) fun a32 c33 w34 hc35 S36 => ?_
  have hh37 : ∀ y ∈ upTo l (k + 1), y.length = 32 := by rw [← hD31]; exact (all_app hh7 (all_h1 (node_len _ _)))
  refine Pv (T_nil (W_region ?_))
  refine Pv ?_
  refine Ar ?_
  refine Pv (T_nil ?_)
  have S38 := S36.drop 0
  exact ⟨l.length - (k + 1), [(0, .slice aa0 l.length cc0), (3, .slice a32 (k + 1) c33), (4, .int .i64 ((2 * (k + 1) : Nat) : Int))], by omega, ⟨rfl, rfl, ciI, trivial⟩, k + 1, a32, c33, G2, rfl, (by omega), rfl, hl3, S38, hh37, hc35⟩
 refine W_exit (Wr ?_)
 iterate 2 refine Pv ?_
 refine T_nil (W_ret ?_)
 refine ⟨_, ⟨_, _, rfl, rfl, rfl⟩, ?_⟩
 obtain rfl : k = l.length / 2 := by omega
 exact ⟨_, _, hc6, rfl, S9.row 0 rfl, S9.below⟩


theorem rowR_ok {H : Hp} {w : World} (hH : H.le (hw w)) {l : List (List UInt8)} {aa0 : Option Addr} {nn0 cc0 : Nat} (hv : RdH H (.slice aa0 nn0 cc0) 32 l) (hb : l.length ≤ 100000) :
  Calls Tryz.prog 82 #[.slice aa0 nn0 cc0] w fun e w' => ∃ a c, (l.length + (padN l.length - l.length)) ≤ c ∧ e = .returned (.slice a (l.length + (padN l.length - l.length)) c) ∧ rowZ w' w.heap.size 27 32 (.slice a (l.length + (padN l.length - l.length)) c) (l.length + (padN l.length - l.length)) (hcells (rowP l)) ∧ Below w.heap.size w w' := by
 obtain rfl : nn0 = l.length := hv.len
 have hvcap : l.length ≤ cc0 := hv.2.capOf
 have hpb := padN_lt l.length 17 (by omega)
 have hpl := padN_le l.length
 have htp : (Go.Au.text [112, 97, 100] []).length < 10000 := by decide
 refine enter1 _ Tryz.func82 rfl Tryz.ntmps82 Tryz.results82 rfl ?_
 have S0 := St.start w hH
 refine Wr (Pv (Nr ?_))
 refine Pv ?_
 have S1 := S0.nilRow 27 32
 refine Af (h1 := by exact one_hcells _) (hn' := by first | rfl | (simp; done) | (simp; omega) | omega) (hx' := by simp [hcells_append, hcells]) (hbytes := by show _ * 32 ≤ _; omega) 0 l.length (hcells l) S1 (hv.2.mono S1.le) fun a2 c3 w4 hc5 S6 => ?_
 refine Pv (T_nil (W_seq (W_block ?_)))
 refine W_loop (fun M ρ w' => ∃ (k : Nat) (a9 : Option Addr) (c10 : Nat) (G7 : Hp), M = padN l.length - k ∧ l.length + k ≤ padN l.length ∧ ρ = [(0, .slice aa0 l.length cc0), (3, .slice a9 (l.length + k) c10)] ∧ H.le G7 ∧ St w H G7 [.row 27 32 (.slice a9 (l.length + k) c10) (l.length + k) (hcells (padTo l k))] w' ∧ (∀ y ∈ padTo l k, y.length = 32) ∧ (l.length + k) ≤ c10)
  (padN l.length - 0) [(0, .slice aa0 l.length cc0), (3, .slice a2 l.length c3)] ⟨rfl, rfl, trivial⟩ ⟨0, a2, c3, H, rfl, (by omega), rfl, Hp.le.refl _, S6, hv.1, hc5⟩ ?_
 rintro M ρ w13 ⟨k, a9, c10, G7, rfl, hp15, rfl, hl8, S14, hh12, hc11⟩
 refine W_seq (Wr ?_)
 iterate 4 refine Pv ?_
 refine Cs g_aumbry_aumbryref07_Pad ((padR_ok S14.le ((l.length : Nat) : Int) (by omega)).mono ?_)
 rintro e w17 ⟨rfl, hB16⟩
 have S18 := S14.call hB16
 refine ⟨_, rfl, trivial, ?_⟩
 refine T_re (v' := .int .i64 ((padN l.length : Nat) : Int)) (by rw [Int.toNat_natCast]) ?_
 refine Pv (T_nil ?_)
 refine Aa (fun h19 => ?_) (fun h19 => ?_)
 ·refine W_skip (W_block (W_region (Pv ?_)))
  refine Cs g_aumbry_aumbryref01_Tagged ((taggedR_ok S18.le (nilS _) (by omega)).mono ?_)
  rintro e w21 ⟨rfl, hB20⟩
  have S22 := S18.call hB20
  refine ⟨_, rfl, trivial, ?_⟩
  refine T_re (v' := hV padH) rfl (T_litS (hcells [padH]) rfl rfl rfl rfl rfl rfl rfl rfl rfl rfl rfl rfl rfl (one_h padH_len) (by simp [hcells, hV, Value.cells]) fun a23 w24 hB25 ho26 => ?_)
  have S27 := S22.own hB25 ho26
  refine ⟨trivial, ?_⟩
  have hD28 : (padTo l k ++ [padH]) = padTo l (k + 1) := rfl
  refine Af (h1 := by exact one_hcells _) (hn' := by first | rfl | (simp; done) | (simp; omega) | omega) (hx' := by rw [← hD28]; simp [hcells_append, hcells]) (hbytes := by show _ * 32 ≤ _; omega) 1 (l.length + (k + 1)) (hcells (padTo l (k + 1))) S27 (S27.rd 0 rfl) fun a29 c30 w31 hc32 S33 => ?_
  have hh34 : ∀ y ∈ padTo l (k + 1), y.length = 32 := by rw [← hD28]; exact (all_app hh12 (all_h1 padH_len))
  refine Pv (T_nil ?_)
  have S35 := S33.drop 0
  exact ⟨padN l.length - (k + 1), [(0, .slice aa0 l.length cc0), (3, .slice a29 (l.length + (k + 1)) c30)], by omega, ⟨rfl, rfl, trivial⟩, k + 1, a29, c30, G7, rfl, (by omega), rfl, hl8, S35, hh34, hc32⟩
 refine W_exit (Wr ?_)
 iterate 2 refine Pv ?_
 refine T_nil (W_ret ?_)
 refine ⟨_, ⟨_, _, rfl, rfl, rfl⟩, ?_⟩
 obtain rfl : k = padN l.length - l.length := by omega
 exact ⟨_, _, hc11, rfl, S18.row 0 rfl, S18.below⟩


theorem rootR_ok {H : Hp} {w : World} (hH : H.le (hw w)) {l : List (List UInt8)} {aa0 : Option Addr} {nn0 cc0 : Nat} (hv : RdH H (.slice aa0 nn0 cc0) 32 l) (hb : l.length ≤ 1024) :
  Calls Tryz.prog 45 #[.slice aa0 nn0 cc0] w fun e w' => e = .returned (hV (Go.Au.root l)) ∧ Below w.heap.size w w' := by
 obtain rfl : nn0 = l.length := hv.len
 have hvcap : l.length ≤ cc0 := hv.2.capOf
 refine enter1 _ Tryz.func45 rfl Tryz.ntmps45 Tryz.results45 rfl ?_
 have S0 := St.start w hH
 refine Wr (Ad S0 fun b1 w2 S3 => (Nr ?_))
 refine Pv ?_
 refine Cs g_aumbry_aumbryref07_row ((rowR_ok S3.le hv (by omega)).mono ?_)
 rintro e w9 ⟨a4, c5, hc6, rfl, ho7, hB8⟩
 have S10 := S3.own hB8 ho7
 refine ⟨_, rfl, trivial, ?_⟩
 refine Pv (T_nil (W_seq (W_block ?_)))
 obtain ⟨G12, hl13, S11, r14⟩ := S10.stillRow 0 rfl
 have r15 := RdH.mk (rowP_all hv.1) (by decide) r14
 refine W_loop (fun M ρ w' => ∃ (k : Nat) (a18 : Option Addr) (nn19 c20 : Nat) (G16 : Hp), M = lg l.length - k ∧ k ≤ lg l.length ∧ ρ = [(2, .pointer (some ⟨b1, 0, none⟩)), (3, .slice a18 nn19 c20)] ∧ G12.le G16 ∧ St w H G16 [.blk b1 (hV (List.replicate 32 0) : Value).cells 27] w' ∧ RdH G16 (.slice a18 nn19 c20) 32 (ups (rowP l) k))
  (lg l.length - 0) [(2, .pointer (some ⟨b1, 0, none⟩)), (3, .slice a4 (l.length + (padN l.length - l.length)) c5)] ⟨rfl, rfl, trivial⟩ ⟨0, _, _, _, G12, rfl, (by exact Nat.zero_le _), rfl, Hp.le.refl _, S11, r15⟩ ?_
 rintro M ρ w22 ⟨k, a18, nn19, c20, G16, rfl, hp24, rfl, hl17, S23, hf21⟩
 obtain rfl : nn19 = (ups (rowP l) k).length := hf21.len
 have hub := ups_bd (k := k) hb (by assumption)
 refine W_seq (Wr ?_)
 iterate 3 refine Pv ?_
 refine T_nil (Aa (fun h25 => ?_) (fun h25 => ?_))
 ·refine W_skip (W_block (W_region ?_))
  have hkm := ups_more (rowP_len l) (show k ≤ lg l.length by assumption) (by omega)
  refine Pv ?_
  refine Cs g_aumbry_aumbryref07_up ((upR_ok S23.le hf21 (by omega)).mono ?_)
  rintro e w31 ⟨a26, c27, hc28, rfl, ho29, hB30⟩
  have S32 := S23.own hB30 ho29
  refine ⟨_, rfl, trivial, ?_⟩
  refine Pv (T_nil ?_)
  obtain ⟨G34, hl35, S33, r36⟩ := S32.stillRow 0 rfl
  have r37 := RdH.mk (upTo_all _ _) (by decide) r36
  exact ⟨lg l.length - (k + 1), [(2, .pointer (some ⟨b1, 0, none⟩)), (3, .slice a26 ((ups (rowP l) k).length / 2) c27)], by omega, ⟨rfl, rfl, trivial⟩, k + 1, _, _, _, G34, rfl, (by omega), rfl, (hl17.trans hl35), S33, r37⟩
 refine W_exit (Wr ?_)
 have hkd := ups_done (rowP_len l) (show k ≤ lg l.length by assumption) (by omega)
 refine Pv ?_
 refine Ag 0 hf21.2 fun b38 o39 hc40 => ?_
 have hc41 := cells_h hf21.1 0 (by omega) hc40
 have hl42 := len_h hf21.1 0 (by omega)
 refine T_loadGA _ S23 hc41 rfl rfl rfl rfl rfl rfl rfl rfl (hVs hl42) (T_re (v' := hV (Go.Au.root l)) (congrArg (fun q => hV ((ups (rowP l) q).getD 0 [])) hkd) (Ah (hl := by exact hVs (root_len hv.1)) (hl2 := by exact hVs (root_len hv.1)) (h1 := by exact one_hA _) 0 S23 fun w43 S44 => (T_nil (W_ret ?_))))
 refine ⟨_, ⟨_, _, _, rfl, rfl, run_loadVarA rfl rfl (hVs (root_len hv.1)) (S44.cells 0 rfl), rfl⟩, ?_⟩
 exact ⟨rfl, S44.below⟩


theorem rows_ok {H : Hp} {w : World} (hH : H.le (hw w)) (hT : Tabs H) {l : List (List UInt8)} {aa0 : Option Addr} {nn0 cc0 : Nat} (hv : RdH H (.slice aa0 nn0 cc0) 32 l) (hb : l.length ≤ 1024) :
  Calls Tryz.prog 111 #[.slice aa0 nn0 cc0] w fun e w' => ∃ a c, lg l.length + 1 ≤ c ∧ e = .returned (.slice a (lg l.length + 1) c) ∧ RdLH (F.ext H w.heap.size w') (.slice a (lg l.length + 1) c) (levels (rowP l) (lg l.length + 1)) ∧ Below w.heap.size w w' := by
 obtain rfl : nn0 = l.length := hv.len
 have hvcap : l.length ≤ cc0 := hv.2.capOf
 have hpb := padN_lt l.length 17 (by omega)
 have hpl := padN_le l.length
 have htp : (Go.Au.text [112, 97, 100] []).length < 10000 := by decide
 refine enter1 _ Tryz.func111 rfl Tryz.ntmps111 Tryz.results111 rfl ?_
 have S0 := St.start w hH
 refine Wr (Pv (Nr ?_))
 refine Pv ?_
 have S1 := S0.nilRow 27 32
 refine Af (h1 := by exact one_hcells _) (hn' := by first | rfl | (simp; done) | (simp; omega) | omega) (hx' := by simp [hcells_append, hcells]) (hbytes := by show _ * 32 ≤ _; omega) 0 l.length (hcells l) S1 (hv.2.mono S1.le) fun a2 c3 w4 hc5 S6 => ?_
 refine Pv (T_nil (W_seq (Wr ?_)))
 refine Cs g_aumbry_sha_Tagged ((tagged_ok S6.le hT (nilS _) (by omega)).mono ?_)
 rintro e w8 ⟨rfl, hB7⟩
 have S9 := S6.call hB7
 refine ⟨_, rfl, trivial, ?_⟩
 refine T_re (v' := hV padH) rfl (Ad S9 fun b10 w11 S12 => ?_)
 refine Ah (hl := by exact hVs padH_len) (hl2 := by exact hVs padH_len) (h1 := by exact one_hA _) 0 S12 fun w13 S14 => (T_nil (W_block ?_))
 refine W_loop (fun M ρ w' => ∃ (j : Nat) (a17 : Option Addr) (c18 : Nat) (b21 : Nat) (G15 : Hp), M = padN l.length - j ∧ l.length + j ≤ padN l.length ∧ ρ = [(0, .slice aa0 l.length cc0), (3, .slice a17 (l.length + j) c18), (4, .pointer (some ⟨b21, 0, none⟩))] ∧ H.le G15 ∧ St w H G15 [.blk b21 (hV padH : Value).cells 27, .row 27 32 (.slice a17 (l.length + j) c18) (l.length + j) (hcells (padTo l j))] w' ∧ (∀ y ∈ padTo l j, y.length = 32) ∧ (l.length + j) ≤ c18)
  (padN l.length - 0) [(0, .slice aa0 l.length cc0), (3, .slice a2 l.length c3), (4, .pointer (some ⟨b10, 0, none⟩))] ⟨rfl, rfl, rfl, trivial⟩ ⟨0, a2, c3, b10, H, rfl, (by omega), rfl, Hp.le.refl _, S14, hv.1, hc5⟩ ?_
 rintro M ρ w22 ⟨j, a17, c18, b21, G15, rfl, hp24, rfl, hl16, S23, hh20, hc19⟩
 refine W_seq (Wr ?_)
 iterate 4 refine Pv ?_
 refine Cs g_aumbry_tree_Pad ((pad_ok S23.le ((l.length : Nat) : Int) (by omega)).mono ?_)
 rintro e w26 ⟨rfl, hB25⟩
 have S27 := S23.call hB25
 refine ⟨_, rfl, trivial, ?_⟩
 refine T_re (v' := .int .i64 ((padN l.length : Nat) : Int)) (by rw [Int.toNat_natCast]) ?_
 refine Pv (T_nil ?_)
 refine Aa (fun h28 => ?_) (fun h28 => ?_)
 ·refine W_skip (W_seq (W_block (W_region (Pv ?_))))
  refine Ak (hl := by exact hVs padH_len) 0 S27 ?_
  refine T_litS (hcells [padH]) rfl rfl rfl rfl rfl rfl rfl rfl rfl rfl rfl rfl rfl (one_h padH_len) (by simp [hcells, hV, Value.cells]) fun a29 w30 hB31 ho32 => ?_
  have S33 := S27.own hB31 ho32
  refine ⟨trivial, ?_⟩
  have hD34 : (padTo l j ++ [padH]) = padTo l (j + 1) := rfl
  refine Af (h1 := by exact one_hcells _) (hn' := by first | rfl | (simp; done) | (simp; omega) | omega) (hx' := by rw [← hD34]; simp [hcells_append, hcells]) (hbytes := by show _ * 32 ≤ _; omega) 2 (l.length + (j + 1)) (hcells (padTo l (j + 1))) S33 (S33.rd 0 rfl) fun a35 c36 w37 hc38 S39 => ?_
  have hh40 : ∀ y ∈ padTo l (j + 1), y.length = 32 := by rw [← hD34]; exact (all_app hh20 (all_h1 padH_len))
  refine Pv (Nr ?_)
  refine Ak (hl := by exact hVs padH_len) 1 S39 (T_nil (W_region ?_))
  refine Ad S39 fun b41 w42 S43 => ?_
  refine Ah (hl := by exact hVs padH_len) (hl2 := by exact hVs padH_len) (h1 := by exact one_hA _) 0 S43 fun w44 S45 => (T_nil ?_)
  have S46 := S45.drop 2
  have S47 := S46.drop 1
  exact ⟨padN l.length - (j + 1), [(0, .slice aa0 l.length cc0), (3, .slice a35 (l.length + (j + 1)) c36), (4, .pointer (some ⟨b41, 0, none⟩))], by omega, ⟨rfl, rfl, rfl, trivial⟩, j + 1, a35, c36, b41, G15, rfl, (by omega), rfl, hl16, S47, hh40, hc38⟩
 refine W_exit (Wr ?_)
 obtain rfl : j = (padN l.length - l.length) := by omega
 refine Pv ?_
 obtain ⟨G53, hl54, S52, r55⟩ := S27.stillRow 1 rfl
 have r56 := RdH.mk hh20 (by decide) r55
 have rs57 : RdsH G53 [.slice a17 (l.length + (padN l.length - l.length)) c18] [padTo l (padN l.length - l.length)] := RdsH.cons r56 (RdsH.nil _)
 refine Ae (hone := by simp [Value.cells]; rfl) [.slice a17 (l.length + (padN l.length - l.length)) c18] fun a48 w49 hB50 ho51 => ?_
 have S58 := S52.own hB50 ho51
 refine ⟨trivial, ?_⟩
 refine Pv (T_nil (W_seq (W_block ?_)))
 refine W_loop (fun M ρ w' => ∃ (k : Nat) (a61 : Option Addr) (nn62 c63 : Nat) (a65 : Option Addr) (c66 : Nat) (hs68 : List Value) (G59 : Hp), M = lg l.length - k ∧ k ≤ lg l.length ∧ ρ = [(3, .slice a61 nn62 c63), (5, .slice a65 (k + 1) c66)] ∧ G53.le G59 ∧ St w H G59 [.row 34 1 (.slice a65 (k + 1) c66) (k + 1) hs68, .blk b21 (hV padH : Value).cells 27] w' ∧ RdH G59 (.slice a61 nn62 c63) 32 (ups (rowP l) k) ∧ RdsH G59 hs68 (levels (rowP l) (k + 1)) ∧ (k + 1) ≤ c66)
  (lg l.length - 0) [(3, .slice a17 (l.length + (padN l.length - l.length)) c18), (5, .slice a48 1 1)] ⟨rfl, rfl, trivial⟩ ⟨0, _, _, _, a48, 1, _, G53, rfl, (by exact Nat.zero_le _), rfl, Hp.le.refl _, S58, r56, rs57, (Nat.le_refl _)⟩ ?_
 rintro M ρ w70 ⟨k, a61, nn62, c63, a65, c66, hs68, G59, rfl, hp72, rfl, hl60, S71, hf64, rs69, hc67⟩
 obtain rfl : nn62 = (ups (rowP l) k).length := hf64.len
 have hub := ups_bd (k := k) hb (by assumption)
 refine W_seq (Wr ?_)
 iterate 3 refine Pv ?_
 refine T_nil (Aa (fun h73 => ?_) (fun h73 => ?_))
 ·refine W_skip (W_block (Wr (Pv (T_nil (W_seq (Wr ?_))))))
  refine Pv (T_nil (W_block ?_))
  have hkm := ups_more (rowP_len l) (show k ≤ lg l.length by assumption) (by omega)
  have hev := ups_even (rowP_len l) hkm
  have S74 := S71.nilRow 27 32
  refine W_loop (fun M ρ w' => ∃ (m : Nat) (a77 : Option Addr) (c78 : Nat) (hs80 : List Value) (a82 : Option Addr) (c83 : Nat) (G75 : Hp), M = (ups (rowP l) k).length - m ∧ 2 * m ≤ (ups (rowP l) k).length ∧ ρ = [(3, .slice a61 (ups (rowP l) k).length c63), (5, .slice a77 (k + 1) c78), (6, .slice a82 m c83), (7, .int .i64 ((2 * m : Nat) : Int))] ∧ G59.le G75 ∧ St w H G75 [.row 27 32 (.slice a82 m c83) m (hcells (upTo (ups (rowP l) k) m)), .row 34 1 (.slice a77 (k + 1) c78) (k + 1) hs80, .blk b21 (hV padH : Value).cells 27] w' ∧ RdsH G75 hs80 (levels (rowP l) (k + 1)) ∧ (k + 1) ≤ c78 ∧ (∀ y ∈ upTo (ups (rowP l) k) m, y.length = 32) ∧ m ≤ c83)
   ((ups (rowP l) k).length - 0) [(3, .slice a61 (ups (rowP l) k).length c63), (5, .slice a65 (k + 1) c66), (6, .slice none 0 0), (7, .int .i64 (0 : Int))] ⟨rfl, rfl, rfl, ciI, trivial⟩ ⟨0, a65, c66, _, none, 0, G59, rfl, (by omega), rfl, Hp.le.refl _, S74, rs69, hc67, (fun _ h => by cases h), (Nat.le_refl _)⟩ ?_
  rintro M ρ w86 ⟨m, a77, c78, hs80, a82, c83, G75, rfl, hp88, rfl, hl76, S87, rs81, hc79, hh85, hc84⟩
  refine W_seq (Wr ?_)
  iterate 4 refine Pv ?_
  refine T_nil (Aa (fun h89 => ?_) (fun h89 => ?_))
  ·refine W_skip (W_seq (W_block (W_draw rfl (by kernel_rfl) ?_)))
   have S90 := S87.drew
   iterate 3 refine Pv ?_
   refine Ag (2 * m) (hf64.mono hl76).2 fun b91 o92 hc93 => ?_
   have hc94 := cells_h (hf64.mono hl76).1 (2 * m) (by omega) hc93
   have hl95 := len_h (hf64.mono hl76).1 (2 * m) (by omega)
   refine T_loadGA _ S90 hc94 rfl rfl rfl rfl rfl rfl rfl rfl (hVs hl95) ?_
   iterate 2 refine Pv ?_
   refine Ar ?_
   refine Ag ((2 * m) + 1) (hf64.mono hl76).2 fun b96 o97 hc98 => ?_
   have hc99 := cells_h (hf64.mono hl76).1 ((2 * m) + 1) (by omega) hc98
   have hl100 := len_h (hf64.mono hl76).1 ((2 * m) + 1) (by omega)
   refine T_loadGA _ S90 hc99 rfl rfl rfl rfl rfl rfl rfl rfl (hVs hl100) (Cs g_aumbry_tree_Node ((node_ok S90.le (hT.mono (hl16.trans (hl54.trans (hl60.trans hl76)))) hl95 hl100).mono ?_))
   rintro e w102 ⟨rfl, hB101⟩
   have S103 := S90.call hB101
   refine ⟨_, rfl, trivial, ?_⟩
   refine T_litS (hcells [Go.Au.node ((ups (rowP l) k).getD (2 * m) []) ((ups (rowP l) k).getD ((2 * m) + 1) [])]) rfl rfl rfl rfl rfl rfl rfl rfl rfl rfl rfl rfl rfl (one_h (node_len _ _)) (by simp [hcells, hV, Value.cells]) fun a104 w105 hB106 ho107 => ?_
   have S108 := S103.own hB106 ho107
   refine ⟨trivial, ?_⟩
   have hD109 : (upTo (ups (rowP l) k) m ++ [Go.Au.node ((ups (rowP l) k).getD (2 * m) []) ((ups (rowP l) k).getD ((2 * m) + 1) [])]) = upTo (ups (rowP l) k) (m + 1) := (upTo_snoc _ _)
   refine Af (h1 := by exact one_hcells _) (hn' := by first | rfl | (simp; done) | (simp; omega) | omega) (hx' := by rw [← hD109]; simp [hcells_append, hcells]) (hbytes := by show _ * 32 ≤ _; omega) 1 (m + 1) (hcells (upTo (ups (rowP l) k) (m + 1))) S108 (S108.rd 0 rfl) fun a110 c111 w112 hc113 S114 => ?_
   have hh115 : ∀ y ∈ upTo (ups (rowP l) k) (m + 1), y.length = 32 := by rw [← hD109]; exact (all_app hh85 (all_h1 (node_len _ _)))
   refine Pv (T_nil (W_region ?_))
   refine Pv ?_
   refine Ar ?_
   refine Pv (T_nil ?_)
   have S116 := S114.drop 0
   exact ⟨(ups (rowP l) k).length - (m + 1), [(3, .slice a61 (ups (rowP l) k).length c63), (5, .slice a77 (k + 1) c78), (6, .slice a110 (m + 1) c111), (7, .int .i64 ((2 * (m + 1) : Nat) : Int))], by omega, ⟨rfl, rfl, rfl, ciI, trivial⟩, m + 1, a77, c78, _, a110, c111, G75, rfl, (by omega), rfl, hl76, S116, rs81, hc79, hh115, hc113⟩
  refine W_exit (Wr ?_)
  obtain rfl : m = (ups (rowP l) k).length / 2 := by omega
  iterate 2 refine Pv ?_
  refine T_nil (W_region ?_)
  iterate 2 refine Pv ?_
  obtain ⟨G122, hl123, S121, r124⟩ := S87.stillRow 0 rfl
  have r125 := RdH.mk hh85 (by decide) r124
  have rs126 : RdsH G122 [.slice a82 ((ups (rowP l) k).length / 2) c83] [upTo (ups (rowP l) k) ((ups (rowP l) k).length / 2)] := RdsH.cons r125 (RdsH.nil _)
  refine Ae (hone := by simp [Value.cells]; rfl) [.slice a82 ((ups (rowP l) k).length / 2) c83] fun a117 w118 hB119 ho120 => ?_
  have S127 := S121.own hB119 ho120
  refine ⟨trivial, ?_⟩
  have hD128 : (levels (rowP l) (k + 1) ++ [upTo (ups (rowP l) k) ((ups (rowP l) k).length / 2)]) = levels (rowP l) (k + 1 + 1) := (levels_snoc (rowP l) (k + 1))
  refine T_appendS 1 (k + 1 + 1) _ S127 (fun _ _ => trivial) rfl rfl rfl rfl rfl rfl rfl rfl rfl rfl rfl rfl rfl rfl (S127.rd 0 rfl) rs126.one (by first | rfl | (simp; done) | (simp; omega) | omega) rfl (by unfold maxLen; have hlg := lg_le (n := l.length) (m := 10) (by omega); omega) (by show _ * 24 ≤ _; have hlg := lg_le (n := l.length) (m := 10) (by omega); omega) fun a129 c130 w131 hc132 S133 => ?_
  have rs134 := RdsH.append (rs81.mono hl123) rs126
  rw [hD128] at rs134
  refine Pv (T_nil ?_)
  have S135 := S133.drop 0
  exact ⟨lg l.length - (k + 1), [(3, .slice a82 ((ups (rowP l) k).length / 2) c83), (5, .slice a129 (k + 1 + 1) c130)], by omega, ⟨rfl, rfl, trivial⟩, k + 1, _, _, _, a129, c130, _, G122, rfl, (by omega), rfl, (hl60.trans (hl76.trans hl123)), S135, r125, rs134, hc132⟩
 refine W_exit (Wr ?_)
 obtain rfl : k = lg l.length := ups_done (rowP_len l) (by assumption) (by omega)
 obtain ⟨G137, hl138, S136, r139⟩ := S71.stillRow 0 rfl
 have r140 := RdLH.mk r139 (rs69.mono hl138)
 iterate 2 refine Pv ?_
 refine T_nil (W_ret ?_)
 refine ⟨_, ⟨_, _, rfl, rfl, rfl⟩, ?_⟩
 exact ⟨_, _, hc67, rfl, (r140).mono S136.fin, S136.below⟩


theorem root_ok {H : Hp} {w : World} (hH : H.le (hw w)) (hT : Tabs H) {l : List (List UInt8)} {aa0 : Option Addr} {nn0 cc0 : Nat} (hv : RdH H (.slice aa0 nn0 cc0) 32 l) (hb : l.length ≤ 1024) :
  Calls Tryz.prog 71 #[.slice aa0 nn0 cc0] w fun e w' => e = .returned (hV (Go.Au.root l)) ∧ Below w.heap.size w w' := by
 obtain rfl : nn0 = l.length := hv.len
 have hvcap : l.length ≤ cc0 := hv.2.capOf
 have hlg := lg_le (n := l.length) (m := 10) (by omega)
 have hla := levels_at (rowP l) (lg l.length)
 have hub := ups_bd (k := lg l.length) hb (Nat.le_refl _)
 have hll := levels_len (rowP l) (lg l.length + 1)
 have hz : 0 < ((levels (rowP l) (lg l.length + 1)).getD (lg l.length) []).length := by rw [hla]; exact hub.2
 refine enter1 _ Tryz.func71 rfl Tryz.ntmps71 Tryz.results71 rfl ?_
 have S0 := St.start w hH
 refine Wr (Ad S0 fun b1 w2 S3 => (Nr ?_))
 refine Pv ?_
 refine Cs g_aumbry_tree_rows ((rows_ok S3.le hT hv (by omega)).mono ?_)
 rintro e w9 ⟨a4, c5, hc6, rfl, hr7, hB8⟩
 obtain ⟨G11, eG13⟩ : ∃ G, G = F.ext H w2.heap.size w9 := ⟨_, rfl⟩
 obtain ⟨hl12, S10⟩ := S3.ext hB8
 rw [← eG13] at hl12 S10 hr7
 refine ⟨_, rfl, trivial, ?_⟩
 refine Pv (Nr ?_)
 iterate 3 refine Pv ?_
 refine Ar ?_
 obtain ⟨hs17, r18, r19⟩ := (id hr7)
 refine Ag (lg l.length) r18 fun b14 o15 hc16 => ?_
 obtain ⟨a22, c23, hc25, hv21, r24⟩ := r19.at (lg l.length) (by omega)
 have hc26 := hc16 0 (.slice a22 ((levels (rowP l) (lg l.length + 1)).getD (lg l.length) []).length c23) (by simpa using hv21)
 simp only [Nat.add_zero] at hc26
 refine Ac S10 hc26 ?_
 refine Ag 0 r24.2 fun b27 o28 hc29 => ?_
 have hc30 := cells_h r24.1 0 (by omega) hc29
 have hl31 := len_h r24.1 0 (by omega)
 refine T_loadGA _ S10 hc30 rfl rfl rfl rfl rfl rfl rfl rfl (hVs hl31) (T_re (v' := hV (Go.Au.root l)) (congrArg (fun q : List (List UInt8) => hV (q.getD 0 [])) hla) (Ah (hl := by exact hVs (root_len hv.1)) (hl2 := by exact hVs (root_len hv.1)) (h1 := by exact one_hA _) 0 S10 fun w32 S33 => (T_nil (W_ret ?_))))
 refine ⟨_, ⟨_, _, _, rfl, rfl, run_loadVarA rfl rfl (hVs (root_len hv.1)) (S33.cells 0 rfl), rfl⟩, ?_⟩
 exact ⟨rfl, S33.below⟩

end Go.Proofs.YtmjmjjkigblbgaaGreatDoor
