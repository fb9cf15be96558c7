/- Leaves, prints, signatures: the program's and the document's. -/
import Derived.Test.YtmjmjjkigblbgaaGreatDoorWotsB
import Derived.Test.YtmjmjjkigblbgaaGreatDoorTreeD
import Derived.Test.YtmjmjjkigblbgaaGreatDoorAuDoor
set_option linter.unusedVariables false
set_option linter.unusedSimpArgs false
set_option maxRecDepth 8192
namespace Go.Proofs.YtmjmjjkigblbgaaGreatDoor
open Go Go.F Go.RowKit

theorem may_t {h : Int} (h0 : 0 ≤ h) : decide (h ≤ 4) = Go.Au.mayH h := by
 unfold Go.Au.mayH
 by_cases e : h ≤ 4
 ·rw [decide_eq_true e, decide_eq_true ⟨h0, e⟩]
 ·rw [decide_eq_false e, decide_eq_false (fun x => e x.2)]
theorem may_f {h : Int} (h0 : ¬ 0 ≤ h) : false = Go.Au.mayH h := (decide_eq_false (fun x => h0 x.1)).symm
theorem may_is {h : Int} (hm : 0 ≤ h ∧ h ≤ 4) : (!Go.Au.mayH h) = false := by unfold Go.Au.mayH; rw [decide_eq_true hm]; rfl
theorem may_not {h : Int} (hm : ¬ (0 ≤ h ∧ h ≤ 4)) : (!Go.Au.mayH h) = true := by unfold Go.Au.mayH; rw [decide_eq_false hm]; rfl
theorem shlI {h : Int} (h0 : 0 ≤ h) (h1 : h < 62) : IntKind.i64.wrap ((1 : Int) * 2 ^ (min h.toNat IntKind.i64.bits)) = ((2 ^ h.toNat : Nat) : Int) := by
 have e := shl1 (k := h.toNat) (by omega)
 rwa [show ((h.toNat : Nat) : Int).toNat = h.toNat from Int.toNat_natCast _] at e
theorem printT_bd (h : Int) {r : List UInt8} (hr : r.length = 32) : (Go.Au.printT h r).length < 10000 := Go.Au.text2 (by decide) (by rw [Go.Sha.put_len]; decide) (by omega)
theorem mssMay_ok {H : Hp} {w : World} (hH : H.le (hw w)) (h : Int) :
  Calls Tryz.prog 124 #[.int .i64 h] w fun e w' => e = .returned (.bool (Go.Au.mayH h)) ∧ Below w.heap.size w w' := by
 refine enter1 _ Tryz.func124 rfl Tryz.ntmps124 Tryz.results124 rfl ?_
 have S0 := St.start w hH
 refine Wr ?_
 refine Pv ?_
 refine T_nil ?_
 refine Wr ?_
 iterate 3 refine Pv ?_
 refine T_part (t := 5) rfl (List.cons_ne_nil _ _) (fun h1' => ?_) (fun h1' => ?_)
 ·have h1 := of_decide_eq_true h1'
  iterate 2 (refine Ys ?_; refine Pv ?_)
  iterate 2 refine Pv ?_
  refine T_nil ?_
  refine W_ret ?_
  refine ⟨_, ⟨_, _, rfl, rfl, rfl⟩, ?_⟩
  exact ⟨congrArg (fun z => Ending.returned (Value.bool z)) (may_t (by omega)), S0.below⟩
 have h1 := of_decide_eq_false h1'
 iterate 2 refine No ?_
 iterate 2 refine Pv ?_
 refine T_nil ?_
 refine W_ret ?_
 refine ⟨_, ⟨_, _, rfl, rfl, rfl⟩, ?_⟩
 exact ⟨congrArg (fun z => Ending.returned (Value.bool z)) (may_f (by omega)), S0.below⟩






theorem mssLeavesR_ok {H : Hp} {w : World} (hH : H.le (hw w)) (h : Int) {seed : List UInt8} (hs : seed.length = 16) (hm : 0 ≤ h ∧ h ≤ 4) :
  Calls Tryz.prog 51 #[hV seed, .int .i64 h] w fun e w' => ∃ a c, (2 ^ h.toNat) ≤ c ∧ e = .returned (.slice a (2 ^ h.toNat) c) ∧ rowZ w' w.heap.size 27 32 (.slice a (2 ^ h.toNat) c) (2 ^ h.toNat) (hcells (Go.Au.mleaves seed h.toNat)) ∧ Below w.heap.size w w' := by
 have hp16 := Go.Au.pow16 (h := h) (by omega) (by omega)
 refine enter2 _ Tryz.func51 rfl Tryz.ntmps51 Tryz.results51 rfl ?_
 have S0 := St.start w hH
 refine Wr ?_
 refine T_boxS S0 (fun _ _ => trivial) rfl rfl rfl rfl rfl rfl fun b1 w2 S3 => ?_
 refine Pv ?_
 refine T_nil ?_
 refine Wr ?_
 refine Pv ?_
 refine T_nil ?_
 refine W_seq ?_
 refine Wr ?_
 refine Pv ?_
 refine T_nil ?_
 refine W_block ?_
 have S4 := S3.nilRow 27 32
 refine W_loop (fun M ρ w' => ∃ (k : Nat) (a7 : Option Addr) (c8 : Nat) (G5 : Hp), M = (2 ^ h.toNat) - k ∧ k ≤ (2 ^ h.toNat) ∧ ρ = [(1, .int .i64 h), (2, .pointer (some ⟨b1, 0, none⟩)), (5, .slice a7 k c8), (6, .int .i64 (k : Int))] ∧ H.le G5 ∧ St w H G5 [.row 27 32 (.slice a7 k c8) k (hcells (Go.Au.mleavesTo seed k)), .blk b1 (hV seed : Value).cells 23] w' ∧ (∀ y ∈ Go.Au.mleavesTo seed k, y.length = 32) ∧ k ≤ c8)
  ((2 ^ h.toNat) - 0) [(1, .int .i64 h), (2, .pointer (some ⟨b1, 0, none⟩)), (5, .slice none 0 0), (6, .int .i64 ((0 : Nat) : Int))] ⟨(congrArg (fun z => some (Value.int .i64 z)) (by omega)), rfl, rfl, (congrArg (fun z => some (Value.int .i64 z)) (by omega)), trivial⟩ ⟨0, none, 0, H, rfl, (by exact Nat.zero_le _), rfl, Hp.le.refl _, S4, (fun _ h => by cases h), (Nat.le_refl _)⟩ ?_
 rintro M ρ w11 ⟨k, a7, c8, G5, rfl, hp13, rfl, hl6, S12, hh10, hc9⟩
 refine W_seq ?_
 refine Wr ?_
 iterate 3 refine Pv ?_
 refine T_re (v' := .int .u64 h) (congrArg (Value.int .u64) (by rw [IntKind.wrap_u64]; omega)) ?_
 refine T_shl rfl rfl rfl rfl rfl rfl (by omega) ?_
 refine T_re (v' := .int .i64 ((2 ^ h.toNat : Nat) : Int)) (congrArg (Value.int .i64) (shlI (by omega) (by omega))) ?_
 refine Pv ?_
 refine T_nil ?_
 refine W_cond_dec rfl (fun h14 => ?_) (fun h14 => ?_)
 ·refine W_skip ?_
  refine W_seq ?_
  refine W_block ?_
  refine W_region ?_
  refine Pv ?_
  refine T_loadFS 1 S12 rfl rfl rfl rfl rfl rfl rfl rfl rfl (hVs hs) ?_
  refine Pv ?_
  refine Cs g_aumbry_aumbryref07_Public ((pubR_ok S12.le (k : Int) hs (by omega)).mono ?_)
  rintro e w16 ⟨rfl, hB15⟩
  have S17 := S12.call hB15
  refine ⟨_, rfl, trivial, ?_⟩
  refine T_litS (hcells [Go.Au.pub seed (k : Int)]) rfl rfl rfl rfl rfl rfl rfl rfl rfl rfl rfl rfl rfl (one_h (Go.Au.pub_len _ _)) (by simp [hcells, hV, Value.cells]) fun a18 w19 hB20 ho21 => ?_
  have S22 := S17.own hB20 ho21
  refine ⟨trivial, ?_⟩
  have hD23 : (Go.Au.mleavesTo seed k ++ [Go.Au.pub seed (k : Int)]) = Go.Au.mleavesTo seed (k + 1) := (Go.Au.mleavesTo_snoc _ _)
  refine T_appendS 1 (k + 1) (hcells (Go.Au.mleavesTo seed (k + 1))) S22 (fun _ _ => trivial) rfl rfl rfl rfl rfl rfl rfl rfl rfl rfl rfl rfl rfl rfl (S22.rd 0 rfl) (one_hcells _) (by first | rfl | (simp; done) | (simp; omega) | omega) (by rw [← hD23]; simp [hcells_append, hcells]) (by unfold maxLen; omega) (by show _ * 32 ≤ _; omega) fun a24 c25 w26 hc27 S28 => ?_
  have hh29 : ∀ y ∈ Go.Au.mleavesTo seed (k + 1), y.length = 32 := by rw [← hD23]; exact (all_app hh10 (all_h1 (Go.Au.pub_len _ _)))
  refine Pv ?_
  refine T_nil ?_
  refine W_region ?_
  refine Pv ?_
  refine Ar ?_
  refine Pv ?_
  refine T_nil ?_
  have S30 := S28.drop 0
  exact ⟨(2 ^ h.toNat) - (k + 1), [(1, .int .i64 h), (2, .pointer (some ⟨b1, 0, none⟩)), (5, .slice a24 (k + 1) c25), (6, .int .i64 ((k + 1 : Nat) : Int))], by omega, ⟨(congrArg (fun z => some (Value.int .i64 z)) (by omega)), rfl, rfl, (congrArg (fun z => some (Value.int .i64 z)) (by omega)), trivial⟩, k + 1, a24, c25, G5, rfl, (by omega), rfl, hl6, S30, hh29, hc27⟩
 refine W_exit ?_
 refine Wr ?_
 iterate 2 refine Pv ?_
 refine T_nil ?_
 refine W_ret ?_
 refine ⟨_, ⟨_, _, rfl, rfl, rfl⟩, ?_⟩
 obtain rfl : k = (2 ^ h.toNat) := by omega
 exact ⟨_, _, hc9, rfl, S12.row 0 rfl, S12.below⟩


theorem printT_ok {H : Hp} {w : World} (hH : H.le (hw w)) (hT : Tabs H) (h : Int) {r : List UInt8} (hh : h ≤ 4) (hr : r.length = 32) :
  Calls Tryz.prog 93 #[.int .i64 h, hV r] w fun e w' => ∃ a c, (Go.Au.printT h r).length ≤ c ∧ e = .returned (.slice a (Go.Au.printT h r).length c) ∧ rowZ w' w.heap.size 5 1 (.slice a (Go.Au.printT h r).length c) (Go.Au.printT h r).length ((Go.Au.printT h r).map bV) ∧ Below w.heap.size w w' := by
 have htx := printT_bd h hr
 unfold Go.Au.printT at htx
 refine enter2 _ Tryz.func93 rfl Tryz.ntmps93 Tryz.results93 rfl ?_
 have S0 := St.start w hH
 refine Wr ?_
 refine T_boxS S0 (fun _ _ => trivial) rfl rfl rfl rfl rfl rfl fun b1 w2 S3 => ?_
 refine Pv ?_
 refine T_nil ?_
 refine W_seq ?_
 refine W_draw rfl (by kernel_rfl) ?_
 have S4 := S3.drew
 refine Pv ?_
 refine Cs g_aumbry_code_Put ((putN_ok S4.le h 1 (by omega) (by omega)).mono ?_)
 rintro e w10 ⟨a5, c6, hc7, rfl, ho8, hB9⟩
 have S11 := S4.own hB9 ho8
 refine ⟨_, rfl, trivial, ?_⟩
 obtain ⟨G13, hl14, S12, r15⟩ := S11.stillBlk 1 rfl
 refine T_sliceAll rfl rfl rfl rfl rfl rfl rfl rfl ?_
 have r16 := Rd.of_blk (m := 32) (size := 1) (xs := r.map bV) r15 (hcell1 _) (by rw [List.length_map, hr])
 obtain ⟨G22, hl23, S21, r24⟩ := S12.stillRow 0 rfl
 have rs25 : Rds G22 [.slice a5 ((Go.Sha.put (max 0 h).toNat 1).length) c6, .slice (some ⟨b1, 0, none⟩) 32 32] [Go.Sha.put (max 0 h).toNat 1, r] := Rds.cons (Rd.canonB r24) (Rds.cons (Rd.canonB (r16.mono hl23)) (Rds.nil _))
 refine T_litS [.slice a5 ((Go.Sha.put (max 0 h).toNat 1).length) c6, .slice (some ⟨b1, 0, none⟩) 32 32] rfl rfl rfl rfl rfl rfl rfl rfl rfl rfl rfl rfl rfl (by simp [Value.cells]; rfl) rfl fun a17 w18 hB19 ho20 => ?_
 have S26 := S21.own hB19 ho20
 refine ⟨trivial, ?_⟩
 obtain ⟨G28, hl29, S27, r30⟩ := S26.stillRow 0 rfl
 have r31 := RdL.mk r30 (rs25.mono hl29)
 refine Cs g_aumbry_sha_Text ((text_ok S27.le (hT.mono (hl14.trans (hl23.trans hl29))) r31 (by omega)).mono ?_)
 rintro e w37 ⟨a32, c33, hc34, rfl, ho35, hB36⟩
 have S38 := S27.own hB36 ho35
 refine ⟨_, rfl, trivial, ?_⟩
 refine Pv ?_
 refine T_nil ?_
 refine W_ret ?_
 refine ⟨_, ⟨_, _, rfl, rfl, rfl⟩, ?_⟩
 exact ⟨_, _, hc34, rfl, S38.row 0 rfl, S38.below⟩


theorem printTR_ok {H : Hp} {w : World} (hH : H.le (hw w)) (h : Int) {r : List UInt8} (hh : h ≤ 4) (hr : r.length = 32) :
  Calls Tryz.prog 50 #[.int .i64 h, hV r] w fun e w' => ∃ a c, (Go.Au.printT h r).length ≤ c ∧ e = .returned (.slice a (Go.Au.printT h r).length c) ∧ rowZ w' w.heap.size 5 1 (.slice a (Go.Au.printT h r).length c) (Go.Au.printT h r).length ((Go.Au.printT h r).map bV) ∧ Below w.heap.size w w' := by
 have htx := printT_bd h hr
 unfold Go.Au.printT at htx
 refine enter2 _ Tryz.func50 rfl Tryz.ntmps50 Tryz.results50 rfl ?_
 have S0 := St.start w hH
 refine Wr ?_
 refine T_boxS S0 (fun _ _ => trivial) rfl rfl rfl rfl rfl rfl fun b1 w2 S3 => ?_
 refine Pv ?_
 refine T_nil ?_
 refine W_seq ?_
 refine W_draw rfl (by kernel_rfl) ?_
 have S4 := S3.drew
 refine Pv ?_
 refine Cs g_aumbry_aumbryref01_Put ((putR_ok S4.le h 1 (by omega) (by omega)).mono ?_)
 rintro e w10 ⟨a5, c6, hc7, rfl, ho8, hB9⟩
 have S11 := S4.own hB9 ho8
 refine ⟨_, rfl, trivial, ?_⟩
 obtain ⟨G13, hl14, S12, r15⟩ := S11.stillBlk 1 rfl
 refine T_sliceAll rfl rfl rfl rfl rfl rfl rfl rfl ?_
 have r16 := Rd.of_blk (m := 32) (size := 1) (xs := r.map bV) r15 (hcell1 _) (by rw [List.length_map, hr])
 obtain ⟨G22, hl23, S21, r24⟩ := S12.stillRow 0 rfl
 have rs25 : Rds G22 [.slice a5 ((Go.Sha.put (max 0 h).toNat 1).length) c6, .slice (some ⟨b1, 0, none⟩) 32 32] [Go.Sha.put (max 0 h).toNat 1, r] := Rds.cons (Rd.canonB r24) (Rds.cons (Rd.canonB (r16.mono hl23)) (Rds.nil _))
 refine T_litS [.slice a5 ((Go.Sha.put (max 0 h).toNat 1).length) c6, .slice (some ⟨b1, 0, none⟩) 32 32] rfl rfl rfl rfl rfl rfl rfl rfl rfl rfl rfl rfl rfl (by simp [Value.cells]; rfl) rfl fun a17 w18 hB19 ho20 => ?_
 have S26 := S21.own hB19 ho20
 refine ⟨trivial, ?_⟩
 obtain ⟨G28, hl29, S27, r30⟩ := S26.stillRow 0 rfl
 have r31 := RdL.mk r30 (rs25.mono hl29)
 refine Cs g_aumbry_aumbryref01_Text ((textR_ok S27.le r31 (by omega)).mono ?_)
 rintro e w37 ⟨a32, c33, hc34, rfl, ho35, hB36⟩
 have S38 := S27.own hB36 ho35
 refine ⟨_, rfl, trivial, ?_⟩
 refine Pv ?_
 refine T_nil ?_
 refine W_ret ?_
 refine ⟨_, ⟨_, _, rfl, rfl, rfl⟩, ?_⟩
 exact ⟨_, _, hc34, rfl, S38.row 0 rfl, S38.below⟩






theorem mssPrintR_ok {H : Hp} {w : World} (hH : H.le (hw w)) (h : Int) {seed : List UInt8} (hs : seed.length = 16) (hm : 0 ≤ h ∧ h ≤ 4) :
  Calls Tryz.prog 17 #[hV seed, .int .i64 h] w fun e w' => e = .returned (hV (Go.Au.mprint seed h)) ∧ Below w.heap.size w w' := by
 have hp16 := Go.Au.pow16 (h := h) (by omega) (by omega)
 have hml := Go.Au.mleaves_len seed h.toNat
 have hpb := printT_bd h (Go.Au.root_len (Go.Au.mleaves_all seed h.toNat))
 refine enter2 _ Tryz.func17 rfl Tryz.ntmps17 Tryz.results17 rfl ?_
 have S0 := St.start w hH
 refine Wr ?_
 refine T_boxS S0 (fun _ _ => trivial) rfl rfl rfl rfl rfl rfl fun b1 w2 S3 => ?_
 refine T_allocS S3 (fun _ _ => trivial) rfl rfl rfl rfl rfl rfl rfl fun b4 w5 S6 => ?_
 refine T_nil ?_
 refine Wr ?_
 refine Pv ?_
 refine T_loadFS 1 S6 rfl rfl rfl rfl rfl rfl rfl rfl rfl (hVs hs) ?_
 refine Pv ?_
 refine Cs g_aumbry_aumbryref07_Leaves ((mssLeavesR_ok S6.le h hs (by omega)).mono ?_)
 rintro e w12 ⟨a7, c8, hc9, rfl, ho10, hB11⟩
 have S13 := S6.own hB11 ho10
 refine ⟨_, rfl, trivial, ?_⟩
 obtain ⟨G15, hl16, S14, r17⟩ := S13.stillRow 0 rfl
 have r18 := RdH.mk (Go.Au.mleaves_all _ _) (by decide) r17
 refine Cs g_aumbry_aumbryref07_Root ((rootR_ok S14.le r18 (by omega)).mono ?_)
 rintro e w20 ⟨rfl, hB19⟩
 have S21 := S14.call hB19
 refine ⟨_, rfl, trivial, ?_⟩
 refine Cs g_aumbry_aumbryref07_printText ((printTR_ok S21.le h (by omega) (Go.Au.root_len r18.1)).mono ?_)
 rintro e w27 ⟨a22, c23, hc24, rfl, ho25, hB26⟩
 have S28 := S21.own hB26 ho25
 refine ⟨_, rfl, trivial, ?_⟩
 obtain ⟨G30, hl31, S29, r32⟩ := S28.stillRow 0 rfl
 refine Cs g_aumbry_aumbryref01_Sum ((sumR_ok S29.le r32 (by omega)).mono ?_)
 rintro e w34 ⟨rfl, hB33⟩
 have S35 := S29.call hB33
 refine ⟨_, rfl, trivial, ?_⟩
 refine T_re (v' := hV (Go.Au.mprint seed h)) rfl ?_
 refine T_storeFS 0 S35 (fun _ _ => trivial) rfl rfl rfl rfl rfl rfl rfl rfl rfl (hVs (Go.Au.mprint_len _ _)) (hVs (Go.Au.mprint_len _ _)) (one_hA _) fun w36 S37 => ?_
 refine T_nil ?_
 refine W_ret ?_
 refine ⟨_, ⟨_, _, _, rfl, rfl, run_loadVarA rfl rfl (hVs (Go.Au.mprint_len _ _)) (S37.cells 0 rfl), rfl⟩, ?_⟩
 exact ⟨rfl, S37.below⟩






theorem mssSignR_ok {H : Hp} {w : World} (hH : H.le (hw w)) (h leaf : Int) {seed : List UInt8} (hs : seed.length = 16) {m : List UInt8} {aa3 : Option Addr} {nn3 cc3 : Nat} (hm3 : Rd H (.slice aa3 nn3 cc3) nn3 1 (m.map bV)) (hm : 0 ≤ h ∧ h ≤ 4) (hr : 0 ≤ leaf ∧ leaf < ((2 ^ h.toNat : Nat) : Int)) (hml : m.length < 1000) :
  Calls Tryz.prog 46 #[hV seed, .int .i64 h, .int .i64 leaf, .slice aa3 nn3 cc3] w fun e w' => ∃ a1 c1 a2 c2, e = .returned (.agg #[.int .i64 h, .int .i64 leaf, .slice a1 67 c1, .slice a2 (Go.Au.lg (Go.Au.mleaves seed h.toNat).length) c2]) ∧ RdH (F.ext H w.heap.size w') (.slice a1 67 c1) 32 (Go.Au.sign seed leaf m 67) ∧ RdH (F.ext H w.heap.size w') (.slice a2 (Go.Au.lg (Go.Au.mleaves seed h.toNat).length) c2) 32 (Go.Au.beside (Go.Au.rowP (Go.Au.mleaves seed h.toNat)) leaf.toNat (Go.Au.lg (Go.Au.mleaves seed h.toNat).length)) ∧ Below w.heap.size w w' := by
 obtain rfl : nn3 = m.length := hm3.lenB
 have hm3cap : m.length ≤ cc3 := hm3.capOf
 have hp16 := Go.Au.pow16 (h := h) (by omega) (by omega)
 have hll := Go.Au.mleaves_len seed h.toNat
 refine enter4 _ Tryz.func46 rfl Tryz.ntmps46 Tryz.results46 rfl ?_
 have S0 := St.start w hH
 refine Wr ?_
 refine T_boxS S0 (fun _ _ => trivial) rfl rfl rfl rfl rfl rfl fun b1 w2 S3 => ?_
 refine T_allocS S3 (fun _ _ => trivial) rfl rfl rfl rfl rfl rfl rfl fun b4 w5 S6 => ?_
 refine T_nil ?_
 refine W_seq ?_
 obtain ⟨G8, hl9, S7, r10⟩ := S6.stillBlk 1 rfl
 refine W_plan (planF Tryz.prog G8 [16]) rfl (by kernel_rfl) S7.le ?_
 have S11 := S7.drew
 iterate 2 refine Pv ?_
 refine T_loadGA _ S11 (still_cells r10) rfl rfl rfl rfl rfl rfl rfl rfl (hVs hs) ?_
 iterate 2 refine Pv ?_
 refine Cs g_aumbry_aumbryref07_SignOne ((signR_ok S11.le leaf hs (by omega) (hm3.mono hl9) (by omega)).mono ?_)
 rintro e w17 ⟨a12, c13, hc14, rfl, ho15, hB16⟩
 have S18 := S11.own hB16 ho15
 refine ⟨_, rfl, (((Hp.le.refl _)).trans S18.le), ?_⟩
 refine Pv ?_
 refine T_loadGAP _ (fun _ h => h) (still_cells r10) rfl rfl rfl rfl rfl rfl rfl rfl (hVs hs) ?_
 refine Pv ?_
 refine Cs g_aumbry_aumbryref07_Leaves ((mssLeavesR_ok S18.le h hs (by omega)).mono ?_)
 rintro e w24 ⟨a19, c20, hc21, rfl, ho22, hB23⟩
 have S25 := S18.own hB23 ho22
 refine ⟨_, rfl, (((Hp.le.refl _)).trans S25.le), ?_⟩
 obtain ⟨G27, hl28, S26, r29⟩ := S25.stillRow 0 rfl
 have r30 := RdH.mk (Go.Au.mleaves_all _ _) (by decide) r29
 refine Cs g_aumbry_aumbryref07_Proof ((proofR_ok S26.le leaf r30 (by omega) (by omega)).mono ?_)
 rintro e w36 ⟨a31, c32, hc33, rfl, ho34, hB35⟩
 have S37 := S26.own hB35 ho34
 refine ⟨_, rfl, ((hl28).trans S37.le), ?_⟩
 obtain ⟨G39, hl40, S38, r41⟩ := S37.stillRow 1 rfl
 have r42 := RdH.mk (Go.Au.sign_all _ _ _ _) (by decide) r41
 obtain ⟨G44, hl45, S43, r46⟩ := S38.stillRow 0 rfl
 have r47 := RdH.mk (Go.Au.beside_all r30.1 (by omega) (Nat.le_refl _)) (by decide) r46
 refine T_buildS (cells := #[.int .i64 h, .int .i64 leaf, .slice a12 67 c13, .slice a31 (Go.Au.lg (Go.Au.mleaves seed h.toNat).length) c32]) rfl rfl rfl rfl rfl rfl rfl rfl rfl rfl ?_
 refine T_storeFS 0 S43 (fun _ h => ((hl28.trans (hl40.trans hl45))).trans h) rfl rfl rfl rfl rfl rfl rfl rfl rfl (by first | rfl | simp [hVs, *]) (by first | rfl | simp [hVs, *]) (one_all rfl) fun w48 S49 => ?_
 refine T_nil ?_
 refine W_ret ?_
 refine ⟨_, ⟨_, _, _, rfl, rfl, run_loadVarA rfl rfl (by first | rfl | simp [hVs, *]) (S49.cells 0 rfl), rfl⟩, ?_⟩
 exact ⟨_, _, _, _, rfl, ((r42.mono hl45)).mono S49.fin, (r47).mono S49.fin, S49.below⟩



end Go.Proofs.YtmjmjjkigblbgaaGreatDoor
