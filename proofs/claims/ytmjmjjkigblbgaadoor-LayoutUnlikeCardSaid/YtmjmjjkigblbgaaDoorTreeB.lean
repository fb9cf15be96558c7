/- Rows and roots: the document's. -/
import Derived.Test.YtmjmjjkigblbgaaDoorTreeA
set_option linter.unusedVariables false
set_option linter.unusedSimpArgs false
set_option maxRecDepth 8192
namespace Go.Proofs.YtmjmjjkigblbgaaDoor
open Go Go.F Go.RowKit
open Go.Au

theorem upR_ok {H : Hp} {w : World} (hH : H.le (hw w)) {l : List (List UInt8)} {aa0 : Option Addr} {nn0 cc0 : Nat} (hv : RdH H (.slice aa0 nn0 cc0) 32 l) (hb : l.length ≤ 100000) :
  Calls Tryd.prog 88 #[.slice aa0 nn0 cc0] w fun e w' => ∃ a c, (l.length / 2) ≤ c ∧ e = .returned (.slice a (l.length / 2) c) ∧ rowZ w' w.heap.size 23 32 (.slice a (l.length / 2) c) (l.length / 2) (hcells (up l)) ∧ Below w.heap.size w w' := by
 obtain rfl : nn0 = l.length := hv.len
 have hvcap : l.length ≤ cc0 := hv.2.capOf
 refine enter1 _ Tryd.func88 rfl Tryd.ntmps88 Tryd.results88 rfl ?_
 have S0 := St.start w hH
 refine Wr (Pv (Nr ?_))
 refine Pv (T_nil (W_seq (Wr ?_)))
 refine Pv (T_nil (W_block ?_))
 have S1 := S0.nilRow 23 32
 refine W_loop (fun M ρ w' => ∃ (k : Nat) (a4 : Option Addr) (c5 : Nat) (G2 : Hp), M = l.length - k ∧ 2 * k ≤ l.length ∧ ρ = [(0, .slice aa0 l.length cc0), (3, .slice a4 k c5), (4, .int .i64 ((2 * k : Nat) : Int))] ∧ H.le G2 ∧ St w H G2 [.row 23 32 (.slice a4 k c5) k (hcells (upTo l k))] w' ∧ (∀ y ∈ upTo l k, y.length = 32) ∧ k ≤ c5)
  (l.length - 0) [(0, .slice aa0 l.length cc0), (3, .slice none 0 0), (4, .int .i64 (0 : Int))] ⟨rfl, rfl, ciI, trivial⟩ ⟨0, none, 0, H, rfl, (by omega), rfl, Hp.le.refl _, S1, (fun _ h => by cases h), (Nat.le_refl _)⟩ ?_
 rintro M ρ w8 ⟨k, a4, c5, G2, rfl, hp10, rfl, hl3, S9, hh7, hc6⟩
 refine W_seq (Wr (Pv ?_))
 refine Ar ?_
 iterate 3 refine Pv ?_
 refine T_nil (Aa (fun h11 => ?_) (fun h11 => ?_))
 ·refine W_skip (W_seq (W_block (W_draw rfl (by kernel_rfl) ?_)))
  have S12 := S9.drew
  iterate 3 refine Pv ?_
  refine Ah (2 * k) (hv.mono hl3).2 fun b13 o14 hc15 => ?_
  have hc16 := cells_h (hv.mono hl3).1 (2 * k) (by omega) hc15
  have hl17 := len_h (hv.mono hl3).1 (2 * k) (by omega)
  refine T_loadGA _ S12 hc16 rfl rfl rfl rfl rfl rfl rfl rfl (hVs hl17) ?_
  iterate 2 refine Pv ?_
  refine Ar ?_
  refine Ah ((2 * k) + 1) (hv.mono hl3).2 fun b18 o19 hc20 => ?_
  have hc21 := cells_h (hv.mono hl3).1 ((2 * k) + 1) (by omega) hc20
  have hl22 := len_h (hv.mono hl3).1 ((2 * k) + 1) (by omega)
  refine T_loadGA _ S12 hc21 rfl rfl rfl rfl rfl rfl rfl rfl (hVs hl22) (Cs g_aumbry_aumbryref07_Node ((nodeR_ok S12.le hl17 hl22).mono ?_))
  rintro e w24 ⟨rfl, hB23⟩
  have S25 := S12.call hB23
  refine ⟨_, rfl, trivial, ?_⟩
  refine T_litS (hcells [Go.Au.node (l.getD (2 * k) []) (l.getD ((2 * k) + 1) [])]) rfl rfl rfl rfl rfl rfl rfl rfl rfl rfl rfl rfl rfl (one_h (node_len _ _)) (by simp [hcells, hV, Value.cells]) fun a26 w27 hB28 ho29 => ?_
  have S30 := S25.own hB28 ho29
  refine ⟨trivial, ?_⟩
  have hD31 : (upTo l k ++ [Go.Au.node (l.getD (2 * k) []) (l.getD ((2 * k) + 1) [])]) = upTo l (k + 1) := (upTo_snoc _ _)
  refine Ag (h1 := by exact one_hcells _) (hn' := by first | rfl | (simp; done) | (simp; omega) | omega) (hx' := by rw [← hD31]; simp [hcells_append, hcells]) (hbytes := by show _ * 32 ≤ _; omega) 1 (k + 1) (hcells (upTo l (k + 1))) S30 (S30.rd 0 rfl) fun a32 c33 w34 hc35 S36 => ?_
  have hh37 : ∀ y ∈ upTo l (k + 1), y.length = 32 := by rw [← hD31]; exact (all_app hh7 (all_h1 (node_len _ _)))
  refine Pv (T_nil (W_region ?_))
  refine Pv ?_
  refine Ar ?_
  refine Pv (T_nil ?_)
  have S38 := S36.drop 0
  exact ⟨l.length - (k + 1), [(0, .slice aa0 l.length cc0), (3, .slice a32 (k + 1) c33), (4, .int .i64 ((2 * (k + 1) : Nat) : Int))], by omega, ⟨rfl, rfl, ciI, trivial⟩, k + 1, a32, c33, G2, rfl, (by omega), rfl, hl3, S38, hh37, hc35⟩
 refine W_exit (Wr ?_)
 iterate 2 refine Pv ?_
 refine T_nil (W_ret ?_)
 refine ⟨_, ⟨_, _, rfl, rfl, rfl⟩, ?_⟩
 obtain rfl : k = l.length / 2 := by omega
 exact ⟨_, _, hc6, rfl, S9.row 0 rfl, S9.below⟩


theorem rowR_ok {H : Hp} {w : World} (hH : H.le (hw w)) {l : List (List UInt8)} {aa0 : Option Addr} {nn0 cc0 : Nat} (hv : RdH H (.slice aa0 nn0 cc0) 32 l) (hb : l.length ≤ 100000) :
  Calls Tryd.prog 87 #[.slice aa0 nn0 cc0] w fun e w' => ∃ a c, (l.length + (padN l.length - l.length)) ≤ c ∧ e = .returned (.slice a (l.length + (padN l.length - l.length)) c) ∧ rowZ w' w.heap.size 23 32 (.slice a (l.length + (padN l.length - l.length)) c) (l.length + (padN l.length - l.length)) (hcells (rowP l)) ∧ Below w.heap.size w w' := by
 obtain rfl : nn0 = l.length := hv.len
 have hvcap : l.length ≤ cc0 := hv.2.capOf
 have hpb := padN_lt l.length 17 (by omega)
 have hpl := padN_le l.length
 have htp : (Go.Au.text [112, 97, 100] []).length < 10000 := by decide
 refine enter1 _ Tryd.func87 rfl Tryd.ntmps87 Tryd.results87 rfl ?_
 have S0 := St.start w hH
 refine Wr (Pv (Nr ?_))
 refine Pv ?_
 have S1 := S0.nilRow 23 32
 refine Ag (h1 := by exact one_hcells _) (hn' := by first | rfl | (simp; done) | (simp; omega) | omega) (hx' := by simp [hcells_append, hcells]) (hbytes := by show _ * 32 ≤ _; omega) 0 l.length (hcells l) S1 (hv.2.mono S1.le) fun a2 c3 w4 hc5 S6 => ?_
 refine Pv (T_nil (W_seq (W_block ?_)))
 refine W_loop (fun M ρ w' => ∃ (k : Nat) (a9 : Option Addr) (c10 : Nat) (G7 : Hp), M = padN l.length - k ∧ l.length + k ≤ padN l.length ∧ ρ = [(0, .slice aa0 l.length cc0), (3, .slice a9 (l.length + k) c10)] ∧ H.le G7 ∧ St w H G7 [.row 23 32 (.slice a9 (l.length + k) c10) (l.length + k) (hcells (padTo l k))] w' ∧ (∀ y ∈ padTo l k, y.length = 32) ∧ (l.length + k) ≤ c10)
  (padN l.length - 0) [(0, .slice aa0 l.length cc0), (3, .slice a2 l.length c3)] ⟨rfl, rfl, trivial⟩ ⟨0, a2, c3, H, rfl, (by omega), rfl, Hp.le.refl _, S6, hv.1, hc5⟩ ?_
 rintro M ρ w13 ⟨k, a9, c10, G7, rfl, hp15, rfl, hl8, S14, hh12, hc11⟩
 refine W_seq (Wr ?_)
 iterate 4 refine Pv ?_
 refine Cs g_aumbry_aumbryref07_Pad ((padR_ok S14.le ((l.length : Nat) : Int) (by omega)).mono ?_)
 rintro e w17 ⟨rfl, hB16⟩
 have S18 := S14.call hB16
 refine ⟨_, rfl, trivial, ?_⟩
 refine T_re (v' := .int .i64 ((padN l.length : Nat) : Int)) (by rw [Int.toNat_natCast]) ?_
 refine Pv (T_nil ?_)
 refine Aa (fun h19 => ?_) (fun h19 => ?_)
 ·refine W_skip (W_block (W_region (Pv ?_)))
  refine Cs g_aumbry_aumbryref01_Tagged ((taggedR_ok S18.le (nilS _) (by omega)).mono ?_)
  rintro e w21 ⟨rfl, hB20⟩
  have S22 := S18.call hB20
  refine ⟨_, rfl, trivial, ?_⟩
  refine T_re (v' := hV padH) rfl (T_litS (hcells [padH]) rfl rfl rfl rfl rfl rfl rfl rfl rfl rfl rfl rfl rfl (one_h padH_len) (by simp [hcells, hV, Value.cells]) fun a23 w24 hB25 ho26 => ?_)
  have S27 := S22.own hB25 ho26
  refine ⟨trivial, ?_⟩
  have hD28 : (padTo l k ++ [padH]) = padTo l (k + 1) := rfl
  refine Ag (h1 := by exact one_hcells _) (hn' := by first | rfl | (simp; done) | (simp; omega) | omega) (hx' := by rw [← hD28]; simp [hcells_append, hcells]) (hbytes := by show _ * 32 ≤ _; omega) 1 (l.length + (k + 1)) (hcells (padTo l (k + 1))) S27 (S27.rd 0 rfl) fun a29 c30 w31 hc32 S33 => ?_
  have hh34 : ∀ y ∈ padTo l (k + 1), y.length = 32 := by rw [← hD28]; exact (all_app hh12 (all_h1 padH_len))
  refine Pv (T_nil ?_)
  have S35 := S33.drop 0
  exact ⟨padN l.length - (k + 1), [(0, .slice aa0 l.length cc0), (3, .slice a29 (l.length + (k + 1)) c30)], by omega, ⟨rfl, rfl, trivial⟩, k + 1, a29, c30, G7, rfl, (by omega), rfl, hl8, S35, hh34, hc32⟩
 refine W_exit (Wr ?_)
 iterate 2 refine Pv ?_
 refine T_nil (W_ret ?_)
 refine ⟨_, ⟨_, _, rfl, rfl, rfl⟩, ?_⟩
 obtain rfl : k = padN l.length - l.length := by omega
 exact ⟨_, _, hc11, rfl, S18.row 0 rfl, S18.below⟩


theorem rootR_ok {H : Hp} {w : World} (hH : H.le (hw w)) {l : List (List UInt8)} {aa0 : Option Addr} {nn0 cc0 : Nat} (hv : RdH H (.slice aa0 nn0 cc0) 32 l) (hb : l.length ≤ 1024) :
  Calls Tryd.prog 67 #[.slice aa0 nn0 cc0] w fun e w' => e = .returned (hV (Go.Au.root l)) ∧ Below w.heap.size w w' := by
 obtain rfl : nn0 = l.length := hv.len
 have hvcap : l.length ≤ cc0 := hv.2.capOf
 refine enter1 _ Tryd.func67 rfl Tryd.ntmps67 Tryd.results67 rfl ?_
 have S0 := St.start w hH
 refine Wr (Ae S0 fun b1 w2 S3 => (Nr ?_))
 refine Pv ?_
 refine Cs g_aumbry_aumbryref07_row ((rowR_ok S3.le hv (by omega)).mono ?_)
 rintro e w9 ⟨a4, c5, hc6, rfl, ho7, hB8⟩
 have S10 := S3.own hB8 ho7
 refine ⟨_, rfl, trivial, ?_⟩
 refine Pv (T_nil (W_seq (W_block ?_)))
 obtain ⟨G12, hl13, S11, r14⟩ := S10.stillRow 0 rfl
 have r15 := RdH.mk (rowP_all hv.1) (by decide) r14
 refine W_loop (fun M ρ w' => ∃ (k : Nat) (a18 : Option Addr) (nn19 c20 : Nat) (G16 : Hp), M = lg l.length - k ∧ k ≤ lg l.length ∧ ρ = [(2, .pointer (some ⟨b1, 0, none⟩)), (3, .slice a18 nn19 c20)] ∧ G12.le G16 ∧ St w H G16 [.blk b1 (hV (List.replicate 32 0) : Value).cells 23] w' ∧ RdH G16 (.slice a18 nn19 c20) 32 (ups (rowP l) k))
  (lg l.length - 0) [(2, .pointer (some ⟨b1, 0, none⟩)), (3, .slice a4 (l.length + (padN l.length - l.length)) c5)] ⟨rfl, rfl, trivial⟩ ⟨0, _, _, _, G12, rfl, (by exact Nat.zero_le _), rfl, Hp.le.refl _, S11, r15⟩ ?_
 rintro M ρ w22 ⟨k, a18, nn19, c20, G16, rfl, hp24, rfl, hl17, S23, hf21⟩
 obtain rfl : nn19 = (ups (rowP l) k).length := hf21.len
 have hub := ups_bd (k := k) hb (by assumption)
 refine W_seq (Wr ?_)
 iterate 3 refine Pv ?_
 refine T_nil (Aa (fun h25 => ?_) (fun h25 => ?_))
 ·refine W_skip (W_block (W_region ?_))
  have hkm := ups_more (rowP_len l) (show k ≤ lg l.length by assumption) (by omega)
  refine Pv ?_
  refine Cs g_aumbry_aumbryref07_up ((upR_ok S23.le hf21 (by omega)).mono ?_)
  rintro e w31 ⟨a26, c27, hc28, rfl, ho29, hB30⟩
  have S32 := S23.own hB30 ho29
  refine ⟨_, rfl, trivial, ?_⟩
  refine Pv (T_nil ?_)
  obtain ⟨G34, hl35, S33, r36⟩ := S32.stillRow 0 rfl
  have r37 := RdH.mk (upTo_all _ _) (by decide) r36
  exact ⟨lg l.length - (k + 1), [(2, .pointer (some ⟨b1, 0, none⟩)), (3, .slice a26 ((ups (rowP l) k).length / 2) c27)], by omega, ⟨rfl, rfl, trivial⟩, k + 1, _, _, _, G34, rfl, (by omega), rfl, (hl17.trans hl35), S33, r37⟩
 refine W_exit (Wr ?_)
 have hkd := ups_done (rowP_len l) (show k ≤ lg l.length by assumption) (by omega)
 refine Pv ?_
 refine Ah 0 hf21.2 fun b38 o39 hc40 => ?_
 have hc41 := cells_h hf21.1 0 (by omega) hc40
 have hl42 := len_h hf21.1 0 (by omega)
 refine T_loadGA _ S23 hc41 rfl rfl rfl rfl rfl rfl rfl rfl (hVs hl42) (T_re (v' := hV (Go.Au.root l)) (congrArg (fun q => hV ((ups (rowP l) q).getD 0 [])) hkd) (T_storeFS 0 S23 (fun _ _ => trivial) rfl rfl rfl rfl rfl rfl rfl rfl rfl (hVs (root_len hv.1)) (hVs (root_len hv.1)) (one_hA _) fun w43 S44 => (T_nil (W_ret ?_))))
 refine ⟨_, ⟨_, _, _, rfl, rfl, run_loadVarA rfl rfl (hVs (root_len hv.1)) (S44.cells 0 rfl), rfl⟩, ?_⟩
 exact ⟨rfl, S44.below⟩


end Go.Proofs.YtmjmjjkigblbgaaDoor
