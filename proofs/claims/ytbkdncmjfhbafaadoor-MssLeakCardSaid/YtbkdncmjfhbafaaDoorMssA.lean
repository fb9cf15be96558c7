/- Leaves, prints, signatures: the program's and the document's. -/
import Derived.Test.YtbkdncmjfhbafaaDoorWotsB
import Derived.Test.YtbkdncmjfhbafaaDoorTreeD
import Derived.Test.YtbkdncmjfhbafaaDoorAuMss
set_option linter.unusedVariables false
set_option linter.unusedSimpArgs false
set_option maxRecDepth 8192
namespace Go.Proofs.YtbkdncmjfhbafaaDoor
open Go Go.F Go.RowKit

theorem may_t {h : Int} (h0 : 0 ≤ h) : decide (h ≤ 4) = Go.Au.mayH h := by
  unfold Go.Au.mayH
  by_cases e : h ≤ 4
  · rw [decide_eq_true e, decide_eq_true ⟨h0, e⟩]
  · rw [decide_eq_false e, decide_eq_false (fun x => e x.2)]
theorem may_f {h : Int} (h0 : ¬ 0 ≤ h) : false = Go.Au.mayH h := (decide_eq_false (fun x => h0 x.1)).symm
theorem may_is {h : Int} (hm : 0 ≤ h ∧ h ≤ 4) : (!Go.Au.mayH h) = false := by unfold Go.Au.mayH; rw [decide_eq_true hm]; rfl
theorem may_not {h : Int} (hm : ¬ (0 ≤ h ∧ h ≤ 4)) : (!Go.Au.mayH h) = true := by unfold Go.Au.mayH; rw [decide_eq_false hm]; rfl
theorem shlI {h : Int} (h0 : 0 ≤ h) (h1 : h < 62) : IntKind.i64.wrap ((1 : Int) * 2 ^ (min h.toNat IntKind.i64.bits)) = ((2 ^ h.toNat : Nat) : Int) := by
  have e := shl1 (k := h.toNat) (by omega)
  rwa [show ((h.toNat : Nat) : Int).toNat = h.toNat from Int.toNat_natCast _] at e
theorem printT_bd (h : Int) {r : List UInt8} (hr : r.length = 32) : (Go.Au.printT h r).length < 10000 := Go.Au.text2 (by decide) (by rw [Go.Sha.put_len]; decide) (by omega)
theorem may_ok {H : Hp} {w : World} (hH : H.le (hw w)) (h : Int) :
    Calls Tryd.prog 43 #[.int .i64 h] w fun e w' => e = .returned (.bool (Go.Au.mayH h)) ∧ Below w.heap.size w w' := by
  refine enter1 _ Tryd.func43 rfl Tryd.ntmps43 Tryd.results43 rfl ?_
  have S0 := St.start w hH
  refine W_seq ?_
  refine W_region ?_
  refine T_pev rfl rfl rfl rfl ?_
  refine T_nil ?_
  refine W_seq ?_
  refine W_region ?_
  refine T_pev rfl rfl rfl rfl ?_
  refine T_pev rfl rfl rfl rfl ?_
  refine T_pev rfl rfl rfl rfl ?_
  refine T_part (t := 5) rfl (List.cons_ne_nil _ _) (fun h1' => ?_) (fun h1' => ?_)
  · have h1 := of_decide_eq_true h1'
    refine T_yes rfl rfl rfl ?_ rfl
    refine T_pev rfl rfl rfl rfl ?_
    refine T_yes rfl rfl rfl ?_ rfl
    refine T_pev rfl rfl rfl rfl ?_
    refine T_pev rfl rfl rfl rfl ?_
    refine T_pev rfl rfl rfl rfl ?_
    refine T_nil ?_
    refine W_ret ?_
    refine ⟨_, ⟨_, _, rfl, rfl, rfl⟩, ?_⟩
    exact ⟨congrArg (fun z => Ending.returned (Value.bool z)) (may_t (by omega)), S0.below⟩
  have h1 := of_decide_eq_false h1'
  refine T_no rfl rfl rfl rfl rfl rfl ?_
  refine T_no rfl rfl rfl rfl rfl rfl ?_
  refine T_pev rfl rfl rfl rfl ?_
  refine T_pev rfl rfl rfl rfl ?_
  refine T_nil ?_
  refine W_ret ?_
  refine ⟨_, ⟨_, _, rfl, rfl, rfl⟩, ?_⟩
  exact ⟨congrArg (fun z => Ending.returned (Value.bool z)) (may_f (by omega)), S0.below⟩


theorem leavesNo_ok {H : Hp} {w : World} (hH : H.le (hw w)) (hT : Tabs H) (h : Int) {seed : List UInt8} (hs : seed.length = 16) (hm : ¬ (0 ≤ h ∧ h ≤ 4)) :
    Calls Tryd.prog 20 #[hV seed, .int .i64 h] w fun e w' => e = .returned (.slice none 0 0) ∧ Below w.heap.size w w' := by
  refine enter2 _ Tryd.func20 rfl Tryd.ntmps20 Tryd.results20 rfl ?_
  have S0 := St.start w hH
  refine W_seq ?_
  refine W_region ?_
  refine T_boxS S0 (fun _ _ => trivial) rfl rfl rfl rfl rfl rfl fun b1 w2 S3 => ?_
  refine T_pev rfl rfl rfl rfl ?_
  refine T_nil ?_
  refine W_seq ?_
  refine W_seq ?_
  refine W_region ?_
  refine T_pev rfl rfl rfl rfl ?_
  refine T_callS rfl rfl g_aumbry_mss_may rfl rfl rfl rfl ((may_ok S3.le h).mono ?_)
  rintro e w5 ⟨rfl, hB4⟩
  have S6 := S3.call hB4
  refine ⟨_, rfl, trivial, ?_⟩
  refine T_pev rfl rfl rfl rfl ?_
  refine T_nil ?_
  refine W_bool 9 true rfl (may_not hm) ?_
  refine W_cond_true rfl ?_
  refine W_seq ?_
  refine W_region ?_
  refine T_pev rfl rfl rfl rfl ?_
  refine T_nil ?_
  refine W_ret ?_
  refine ⟨_, ⟨_, _, rfl, rfl, rfl⟩, ?_⟩
  exact ⟨rfl, S6.below⟩


theorem leaves_ok {H : Hp} {w : World} (hH : H.le (hw w)) (hT : Tabs H) (h : Int) {seed : List UInt8} (hs : seed.length = 16) (hm : 0 ≤ h ∧ h ≤ 4) :
    Calls Tryd.prog 20 #[hV seed, .int .i64 h] w fun e w' => ∃ a c, (2 ^ h.toNat) ≤ c ∧ e = .returned (.slice a (2 ^ h.toNat) c) ∧ rowZ w' w.heap.size 26 32 (.slice a (2 ^ h.toNat) c) (2 ^ h.toNat) (hcells (Go.Au.mleaves seed h.toNat)) ∧ Below w.heap.size w w' := by
  have hp16 := Go.Au.pow16 (h := h) (by omega) (by omega)
  refine enter2 _ Tryd.func20 rfl Tryd.ntmps20 Tryd.results20 rfl ?_
  have S0 := St.start w hH
  refine W_seq ?_
  refine W_region ?_
  refine T_boxS S0 (fun _ _ => trivial) rfl rfl rfl rfl rfl rfl fun b1 w2 S3 => ?_
  refine T_pev rfl rfl rfl rfl ?_
  refine T_nil ?_
  refine W_seq ?_
  refine W_seq ?_
  refine W_region ?_
  refine T_pev rfl rfl rfl rfl ?_
  refine T_callS rfl rfl g_aumbry_mss_may rfl rfl rfl rfl ((may_ok S3.le h).mono ?_)
  rintro e w5 ⟨rfl, hB4⟩
  have S6 := S3.call hB4
  refine ⟨_, rfl, trivial, ?_⟩
  refine T_pev rfl rfl rfl rfl ?_
  refine T_nil ?_
  refine W_bool 9 false rfl (may_is hm) ?_
  refine W_cond_false rfl ?_
  refine W_skip ?_
  refine W_seq ?_
  refine W_region ?_
  refine T_pev rfl rfl rfl rfl ?_
  refine T_nil ?_
  refine W_seq ?_
  refine W_seq ?_
  refine W_region ?_
  refine T_pev rfl rfl rfl rfl ?_
  refine T_shl rfl rfl rfl rfl rfl rfl (by omega) ?_
  refine T_re (v' := .int .i64 ((2 ^ h.toNat : Nat) : Int)) (congrArg (Value.int .i64) (shlI (by omega) (by omega))) ?_
  refine T_pev rfl rfl rfl rfl ?_
  refine T_nil ?_
  refine W_block ?_
  have S7 := S6.nilRow 26 32
  refine W_loop (fun M ρ w' => ∃ (k : Nat) (a10 : Option Addr) (c11 : Nat) (G8 : Hp), M = (2 ^ h.toNat) - k ∧ k ≤ (2 ^ h.toNat) ∧ ρ = [(2, .pointer (some ⟨b1, 0, none⟩)), (5, .slice a10 k c11), (11, .int .i64 ((2 ^ h.toNat : Nat) : Int)), (12, .int .i64 (k : Int))] ∧ H.le G8 ∧ St w H G8 [.row 26 32 (.slice a10 k c11) k (hcells (Go.Au.mleavesTo seed k)), .blk b1 (hV seed : Value).cells 23] w' ∧ (∀ y ∈ Go.Au.mleavesTo seed k, y.length = 32) ∧ k ≤ c11)
    ((2 ^ h.toNat) - 0) [(2, .pointer (some ⟨b1, 0, none⟩)), (5, .slice none 0 0), (11, .int .i64 ((2 ^ h.toNat : Nat) : Int)), (12, .int .i64 ((0 : Nat) : Int))] ⟨rfl, rfl, (congrArg (fun z => some (Value.int .i64 z)) (by omega)), (congrArg (fun z => some (Value.int .i64 z)) (by omega)), trivial⟩ ⟨0, none, 0, H, rfl, (by exact Nat.zero_le _), rfl, Hp.le.refl _, S7, (fun _ h => by cases h), (Nat.le_refl _)⟩ ?_
  rintro M ρ w14 ⟨k, a10, c11, G8, rfl, hp16, rfl, hl9, S15, hh13, hc12⟩
  refine W_seq ?_
  refine W_region ?_
  refine T_pev rfl rfl rfl rfl ?_
  refine T_nil ?_
  refine W_seq ?_
  refine W_cond_dec rfl (fun h17 => ?_) (fun h17 => ?_)
  · refine W_skip ?_
    refine W_seq ?_
    refine W_block ?_
    refine W_seq ?_
    refine W_region ?_
    refine T_pev rfl rfl rfl rfl ?_
    refine T_pev rfl rfl rfl rfl ?_
    refine T_nil ?_
    refine W_region ?_
    refine T_pev rfl rfl rfl rfl ?_
    refine T_loadFS 1 S15 rfl rfl rfl rfl rfl rfl rfl rfl rfl (hVs hs) ?_
    refine T_pev rfl rfl rfl rfl ?_
    refine T_callS rfl rfl g_aumbry_wots_Public rfl rfl rfl rfl ((pub_ok S15.le (hT.mono hl9) (k : Int) hs (by omega)).mono ?_)
    rintro e w19 ⟨rfl, hB18⟩
    have S20 := S15.call hB18
    refine ⟨_, rfl, trivial, ?_⟩
    refine T_litS (hcells [Go.Au.pub seed (k : Int)]) rfl rfl rfl rfl rfl rfl rfl rfl rfl rfl rfl rfl rfl (one_h (Go.Au.pub_len _ _)) (by simp [hcells, hV, Value.cells]) fun a21 w22 hB23 ho24 => ?_
    have S25 := S20.own hB23 ho24
    refine ⟨trivial, ?_⟩
    have hD26 : (Go.Au.mleavesTo seed k ++ [Go.Au.pub seed (k : Int)]) = Go.Au.mleavesTo seed (k + 1) := (Go.Au.mleavesTo_snoc _ _)
    refine T_appendS 1 (k + 1) (hcells (Go.Au.mleavesTo seed (k + 1))) S25 (fun _ _ => trivial) rfl rfl rfl rfl rfl rfl rfl rfl rfl rfl rfl rfl rfl rfl (S25.rd 0 rfl) (one_hcells _) (by first | rfl | (simp; done) | (simp; omega) | omega) (by rw [← hD26]; simp [hcells_append, hcells]) (by unfold maxLen; omega) (by show _ * 32 ≤ _; omega) fun a27 c28 w29 hc30 S31 => ?_
    have hh32 : ∀ y ∈ Go.Au.mleavesTo seed (k + 1), y.length = 32 := by rw [← hD26]; exact (all_app hh13 (all_h1 (Go.Au.pub_len _ _)))
    refine T_pev rfl rfl rfl rfl ?_
    refine T_nil ?_
    refine W_region ?_
    refine T_ari rfl rfl rfl rfl (by omega) ?_
    refine T_pev rfl rfl rfl rfl ?_
    refine T_nil ?_
    have S33 := S31.drop 0
    exact ⟨(2 ^ h.toNat) - (k + 1), [(2, .pointer (some ⟨b1, 0, none⟩)), (5, .slice a27 (k + 1) c28), (11, .int .i64 ((2 ^ h.toNat : Nat) : Int)), (12, .int .i64 ((k + 1 : Nat) : Int))], by omega, ⟨rfl, rfl, (congrArg (fun z => some (Value.int .i64 z)) (by omega)), (congrArg (fun z => some (Value.int .i64 z)) (by omega)), trivial⟩, k + 1, a27, c28, G8, rfl, (by omega), rfl, hl9, S33, hh32, hc30⟩
  refine W_exit ?_
  refine W_seq ?_
  refine W_region ?_
  refine T_pev rfl rfl rfl rfl ?_
  refine T_pev rfl rfl rfl rfl ?_
  refine T_nil ?_
  refine W_ret ?_
  refine ⟨_, ⟨_, _, rfl, rfl, rfl⟩, ?_⟩
  obtain rfl : k = (2 ^ h.toNat) := by omega
  exact ⟨_, _, hc12, rfl, S15.row 0 rfl, S15.below⟩


theorem leavesR_ok {H : Hp} {w : World} (hH : H.le (hw w)) (h : Int) {seed : List UInt8} (hs : seed.length = 16) (hm : 0 ≤ h ∧ h ≤ 4) :
    Calls Tryd.prog 23 #[hV seed, .int .i64 h] w fun e w' => ∃ a c, (2 ^ h.toNat) ≤ c ∧ e = .returned (.slice a (2 ^ h.toNat) c) ∧ rowZ w' w.heap.size 26 32 (.slice a (2 ^ h.toNat) c) (2 ^ h.toNat) (hcells (Go.Au.mleaves seed h.toNat)) ∧ Below w.heap.size w w' := by
  have hp16 := Go.Au.pow16 (h := h) (by omega) (by omega)
  refine enter2 _ Tryd.func23 rfl Tryd.ntmps23 Tryd.results23 rfl ?_
  have S0 := St.start w hH
  refine W_seq ?_
  refine W_region ?_
  refine T_boxS S0 (fun _ _ => trivial) rfl rfl rfl rfl rfl rfl fun b1 w2 S3 => ?_
  refine T_pev rfl rfl rfl rfl ?_
  refine T_nil ?_
  refine W_seq ?_
  refine W_region ?_
  refine T_pev rfl rfl rfl rfl ?_
  refine T_nil ?_
  refine W_seq ?_
  refine W_seq ?_
  refine W_region ?_
  refine T_pev rfl rfl rfl rfl ?_
  refine T_nil ?_
  refine W_block ?_
  have S4 := S3.nilRow 26 32
  refine W_loop (fun M ρ w' => ∃ (k : Nat) (a7 : Option Addr) (c8 : Nat) (G5 : Hp), M = (2 ^ h.toNat) - k ∧ k ≤ (2 ^ h.toNat) ∧ ρ = [(1, .int .i64 h), (2, .pointer (some ⟨b1, 0, none⟩)), (5, .slice a7 k c8), (6, .int .i64 (k : Int))] ∧ H.le G5 ∧ St w H G5 [.row 26 32 (.slice a7 k c8) k (hcells (Go.Au.mleavesTo seed k)), .blk b1 (hV seed : Value).cells 23] w' ∧ (∀ y ∈ Go.Au.mleavesTo seed k, y.length = 32) ∧ k ≤ c8)
    ((2 ^ h.toNat) - 0) [(1, .int .i64 h), (2, .pointer (some ⟨b1, 0, none⟩)), (5, .slice none 0 0), (6, .int .i64 ((0 : Nat) : Int))] ⟨(congrArg (fun z => some (Value.int .i64 z)) (by omega)), rfl, rfl, (congrArg (fun z => some (Value.int .i64 z)) (by omega)), trivial⟩ ⟨0, none, 0, H, rfl, (by exact Nat.zero_le _), rfl, Hp.le.refl _, S4, (fun _ h => by cases h), (Nat.le_refl _)⟩ ?_
  rintro M ρ w11 ⟨k, a7, c8, G5, rfl, hp13, rfl, hl6, S12, hh10, hc9⟩
  refine W_seq ?_
  refine W_seq ?_
  refine W_region ?_
  refine T_pev rfl rfl rfl rfl ?_
  refine T_pev rfl rfl rfl rfl ?_
  refine T_pev rfl rfl rfl rfl ?_
  refine T_re (v' := .int .u64 h) (congrArg (Value.int .u64) (by rw [IntKind.wrap_u64]; omega)) ?_
  refine T_shl rfl rfl rfl rfl rfl rfl (by omega) ?_
  refine T_re (v' := .int .i64 ((2 ^ h.toNat : Nat) : Int)) (congrArg (Value.int .i64) (shlI (by omega) (by omega))) ?_
  refine T_pev rfl rfl rfl rfl ?_
  refine T_nil ?_
  refine W_cond_dec rfl (fun h14 => ?_) (fun h14 => ?_)
  · refine W_skip ?_
    refine W_seq ?_
    refine W_block ?_
    refine W_region ?_
    refine T_pev rfl rfl rfl rfl ?_
    refine T_loadFS 1 S12 rfl rfl rfl rfl rfl rfl rfl rfl rfl (hVs hs) ?_
    refine T_pev rfl rfl rfl rfl ?_
    refine T_callS rfl rfl g_aumbry_aumbryref07_Public rfl rfl rfl rfl ((pubR_ok S12.le (k : Int) hs (by omega)).mono ?_)
    rintro e w16 ⟨rfl, hB15⟩
    have S17 := S12.call hB15
    refine ⟨_, rfl, trivial, ?_⟩
    refine T_litS (hcells [Go.Au.pub seed (k : Int)]) rfl rfl rfl rfl rfl rfl rfl rfl rfl rfl rfl rfl rfl (one_h (Go.Au.pub_len _ _)) (by simp [hcells, hV, Value.cells]) fun a18 w19 hB20 ho21 => ?_
    have S22 := S17.own hB20 ho21
    refine ⟨trivial, ?_⟩
    have hD23 : (Go.Au.mleavesTo seed k ++ [Go.Au.pub seed (k : Int)]) = Go.Au.mleavesTo seed (k + 1) := (Go.Au.mleavesTo_snoc _ _)
    refine T_appendS 1 (k + 1) (hcells (Go.Au.mleavesTo seed (k + 1))) S22 (fun _ _ => trivial) rfl rfl rfl rfl rfl rfl rfl rfl rfl rfl rfl rfl rfl rfl (S22.rd 0 rfl) (one_hcells _) (by first | rfl | (simp; done) | (simp; omega) | omega) (by rw [← hD23]; simp [hcells_append, hcells]) (by unfold maxLen; omega) (by show _ * 32 ≤ _; omega) fun a24 c25 w26 hc27 S28 => ?_
    have hh29 : ∀ y ∈ Go.Au.mleavesTo seed (k + 1), y.length = 32 := by rw [← hD23]; exact (all_app hh10 (all_h1 (Go.Au.pub_len _ _)))
    refine T_pev rfl rfl rfl rfl ?_
    refine T_nil ?_
    refine W_region ?_
    refine T_pev rfl rfl rfl rfl ?_
    refine T_ari rfl rfl rfl rfl (by omega) ?_
    refine T_pev rfl rfl rfl rfl ?_
    refine T_nil ?_
    have S30 := S28.drop 0
    exact ⟨(2 ^ h.toNat) - (k + 1), [(1, .int .i64 h), (2, .pointer (some ⟨b1, 0, none⟩)), (5, .slice a24 (k + 1) c25), (6, .int .i64 ((k + 1 : Nat) : Int))], by omega, ⟨(congrArg (fun z => some (Value.int .i64 z)) (by omega)), rfl, rfl, (congrArg (fun z => some (Value.int .i64 z)) (by omega)), trivial⟩, k + 1, a24, c25, G5, rfl, (by omega), rfl, hl6, S30, hh29, hc27⟩
  refine W_exit ?_
  refine W_seq ?_
  refine W_region ?_
  refine T_pev rfl rfl rfl rfl ?_
  refine T_pev rfl rfl rfl rfl ?_
  refine T_nil ?_
  refine W_ret ?_
  refine ⟨_, ⟨_, _, rfl, rfl, rfl⟩, ?_⟩
  obtain rfl : k = (2 ^ h.toNat) := by omega
  exact ⟨_, _, hc9, rfl, S12.row 0 rfl, S12.below⟩


theorem printT_ok {H : Hp} {w : World} (hH : H.le (hw w)) (hT : Tabs H) (h : Int) {r : List UInt8} (hh : h ≤ 4) (hr : r.length = 32) :
    Calls Tryd.prog 53 #[.int .i64 h, hV r] w fun e w' => ∃ a c, (Go.Au.printT h r).length ≤ c ∧ e = .returned (.slice a (Go.Au.printT h r).length c) ∧ rowZ w' w.heap.size 5 1 (.slice a (Go.Au.printT h r).length c) (Go.Au.printT h r).length ((Go.Au.printT h r).map bV) ∧ Below w.heap.size w w' := by
  have htx := printT_bd h hr
  unfold Go.Au.printT at htx
  refine enter2 _ Tryd.func53 rfl Tryd.ntmps53 Tryd.results53 rfl ?_
  have S0 := St.start w hH
  refine W_seq ?_
  refine W_region ?_
  refine T_boxS S0 (fun _ _ => trivial) rfl rfl rfl rfl rfl rfl fun b1 w2 S3 => ?_
  refine T_pev rfl rfl rfl rfl ?_
  refine T_nil ?_
  refine W_seq ?_
  refine W_draw rfl (by kernel_rfl) ?_
  have S4 := S3.drew
  refine T_pev rfl rfl rfl rfl ?_
  refine T_callS rfl rfl g_aumbry_code_Put rfl rfl rfl rfl ((putN_ok S4.le h 1 (by omega) (by omega)).mono ?_)
  rintro e w10 ⟨a5, c6, hc7, rfl, ho8, hB9⟩
  have S11 := S4.own hB9 ho8
  refine ⟨_, rfl, trivial, ?_⟩
  obtain ⟨G13, hl14, S12, r15⟩ := S11.stillBlk 1 rfl
  refine T_sliceAll rfl rfl rfl rfl rfl rfl rfl rfl ?_
  have r16 := Rd.of_blk (m := 32) (size := 1) (xs := r.map bV) r15 (hcell1 _) (by rw [List.length_map, hr])
  obtain ⟨G22, hl23, S21, r24⟩ := S12.stillRow 0 rfl
  have rs25 : Rds G22 [.slice a5 ((Go.Sha.put (max 0 h).toNat 1).length) c6, .slice (some ⟨b1, 0, none⟩) 32 32] [Go.Sha.put (max 0 h).toNat 1, r] := Rds.cons (Rd.canonB r24) (Rds.cons (Rd.canonB (r16.mono hl23)) (Rds.nil _))
  refine T_litS [.slice a5 ((Go.Sha.put (max 0 h).toNat 1).length) c6, .slice (some ⟨b1, 0, none⟩) 32 32] rfl rfl rfl rfl rfl rfl rfl rfl rfl rfl rfl rfl rfl (by simp [Value.cells]; rfl) rfl fun a17 w18 hB19 ho20 => ?_
  have S26 := S21.own hB19 ho20
  refine ⟨trivial, ?_⟩
  obtain ⟨G28, hl29, S27, r30⟩ := S26.stillRow 0 rfl
  have r31 := RdL.mk r30 (rs25.mono hl29)
  refine T_callS rfl rfl g_aumbry_sha_Text rfl rfl rfl rfl ((text_ok S27.le (hT.mono (hl14.trans (hl23.trans hl29))) r31 (by omega)).mono ?_)
  rintro e w37 ⟨a32, c33, hc34, rfl, ho35, hB36⟩
  have S38 := S27.own hB36 ho35
  refine ⟨_, rfl, trivial, ?_⟩
  refine T_pev rfl rfl rfl rfl ?_
  refine T_nil ?_
  refine W_ret ?_
  refine ⟨_, ⟨_, _, rfl, rfl, rfl⟩, ?_⟩
  exact ⟨_, _, hc34, rfl, S38.row 0 rfl, S38.below⟩


theorem printTR_ok {H : Hp} {w : World} (hH : H.le (hw w)) (h : Int) {r : List UInt8} (hh : h ≤ 4) (hr : r.length = 32) :
    Calls Tryd.prog 56 #[.int .i64 h, hV r] w fun e w' => ∃ a c, (Go.Au.printT h r).length ≤ c ∧ e = .returned (.slice a (Go.Au.printT h r).length c) ∧ rowZ w' w.heap.size 5 1 (.slice a (Go.Au.printT h r).length c) (Go.Au.printT h r).length ((Go.Au.printT h r).map bV) ∧ Below w.heap.size w w' := by
  have htx := printT_bd h hr
  unfold Go.Au.printT at htx
  refine enter2 _ Tryd.func56 rfl Tryd.ntmps56 Tryd.results56 rfl ?_
  have S0 := St.start w hH
  refine W_seq ?_
  refine W_region ?_
  refine T_boxS S0 (fun _ _ => trivial) rfl rfl rfl rfl rfl rfl fun b1 w2 S3 => ?_
  refine T_pev rfl rfl rfl rfl ?_
  refine T_nil ?_
  refine W_seq ?_
  refine W_draw rfl (by kernel_rfl) ?_
  have S4 := S3.drew
  refine T_pev rfl rfl rfl rfl ?_
  refine T_callS rfl rfl g_aumbry_aumbryref01_Put rfl rfl rfl rfl ((putR_ok S4.le h 1 (by omega) (by omega)).mono ?_)
  rintro e w10 ⟨a5, c6, hc7, rfl, ho8, hB9⟩
  have S11 := S4.own hB9 ho8
  refine ⟨_, rfl, trivial, ?_⟩
  obtain ⟨G13, hl14, S12, r15⟩ := S11.stillBlk 1 rfl
  refine T_sliceAll rfl rfl rfl rfl rfl rfl rfl rfl ?_
  have r16 := Rd.of_blk (m := 32) (size := 1) (xs := r.map bV) r15 (hcell1 _) (by rw [List.length_map, hr])
  obtain ⟨G22, hl23, S21, r24⟩ := S12.stillRow 0 rfl
  have rs25 : Rds G22 [.slice a5 ((Go.Sha.put (max 0 h).toNat 1).length) c6, .slice (some ⟨b1, 0, none⟩) 32 32] [Go.Sha.put (max 0 h).toNat 1, r] := Rds.cons (Rd.canonB r24) (Rds.cons (Rd.canonB (r16.mono hl23)) (Rds.nil _))
  refine T_litS [.slice a5 ((Go.Sha.put (max 0 h).toNat 1).length) c6, .slice (some ⟨b1, 0, none⟩) 32 32] rfl rfl rfl rfl rfl rfl rfl rfl rfl rfl rfl rfl rfl (by simp [Value.cells]; rfl) rfl fun a17 w18 hB19 ho20 => ?_
  have S26 := S21.own hB19 ho20
  refine ⟨trivial, ?_⟩
  obtain ⟨G28, hl29, S27, r30⟩ := S26.stillRow 0 rfl
  have r31 := RdL.mk r30 (rs25.mono hl29)
  refine T_callS rfl rfl g_aumbry_aumbryref01_Text rfl rfl rfl rfl ((textR_ok S27.le r31 (by omega)).mono ?_)
  rintro e w37 ⟨a32, c33, hc34, rfl, ho35, hB36⟩
  have S38 := S27.own hB36 ho35
  refine ⟨_, rfl, trivial, ?_⟩
  refine T_pev rfl rfl rfl rfl ?_
  refine T_nil ?_
  refine W_ret ?_
  refine ⟨_, ⟨_, _, rfl, rfl, rfl⟩, ?_⟩
  exact ⟨_, _, hc34, rfl, S38.row 0 rfl, S38.below⟩


theorem printNo_ok {H : Hp} {w : World} (hH : H.le (hw w)) (hT : Tabs H) (h : Int) {seed : List UInt8} (hs : seed.length = 16) (hm : ¬ (0 ≤ h ∧ h ≤ 4)) :
    Calls Tryd.prog 21 #[hV seed, .int .i64 h] w fun e w' => e = .returned (.tuple #[hV (List.replicate 32 0), .int .i64 1]) ∧ Below w.heap.size w w' := by
  refine enter2 _ Tryd.func21 rfl Tryd.ntmps21 Tryd.results21 rfl ?_
  have S0 := St.start w hH
  refine W_seq ?_
  refine W_region ?_
  refine T_boxS S0 (fun _ _ => trivial) rfl rfl rfl rfl rfl rfl fun b1 w2 S3 => ?_
  refine T_allocS S3 (fun _ _ => trivial) rfl rfl rfl rfl rfl rfl rfl fun b4 w5 S6 => ?_
  refine T_pev rfl rfl rfl rfl ?_
  refine T_nil ?_
  refine W_seq ?_
  refine W_seq ?_
  refine W_region ?_
  refine T_pev rfl rfl rfl rfl ?_
  refine T_callS rfl rfl g_aumbry_mss_may rfl rfl rfl rfl ((may_ok S6.le h).mono ?_)
  rintro e w8 ⟨rfl, hB7⟩
  have S9 := S6.call hB7
  refine ⟨_, rfl, trivial, ?_⟩
  refine T_pev rfl rfl rfl rfl ?_
  refine T_nil ?_
  refine W_bool 8 true rfl (may_not hm) ?_
  refine W_cond_true rfl ?_
  refine W_seq ?_
  refine W_region ?_
  refine T_buildA (cells := (hV (List.replicate 32 0)).cells) rfl rfl rfl rfl rfl rfl rfl rfl rfl rfl ?_
  refine T_storeFS 0 S9 (fun _ _ => trivial) rfl rfl rfl rfl rfl rfl rfl rfl rfl (hVs List.length_replicate) (hVs List.length_replicate) (one_hA _) fun w10 S11 => ?_
  refine T_pev rfl rfl rfl rfl ?_
  refine T_nil ?_
  refine W_ret ?_
  refine ⟨_, ⟨_, _, _, rfl, rfl, run_loadVarA rfl rfl (hVs List.length_replicate) (S11.cells 0 rfl), ⟨_, _, rfl, rfl, rfl⟩⟩, ?_⟩
  exact ⟨rfl, S11.below⟩


theorem print_ok {H : Hp} {w : World} (hH : H.le (hw w)) (hT : Tabs H) (h : Int) {seed : List UInt8} (hs : seed.length = 16) (hm : 0 ≤ h ∧ h ≤ 4) :
    Calls Tryd.prog 21 #[hV seed, .int .i64 h] w fun e w' => e = .returned (.tuple #[hV (Go.Au.mprint seed h), .int .i64 0]) ∧ Below w.heap.size w w' := by
  have hp16 := Go.Au.pow16 (h := h) (by omega) (by omega)
  have hml := Go.Au.mleaves_len seed h.toNat
  have hpb := printT_bd h (Go.Au.root_len (Go.Au.mleaves_all seed h.toNat))
  refine enter2 _ Tryd.func21 rfl Tryd.ntmps21 Tryd.results21 rfl ?_
  have S0 := St.start w hH
  refine W_seq ?_
  refine W_region ?_
  refine T_boxS S0 (fun _ _ => trivial) rfl rfl rfl rfl rfl rfl fun b1 w2 S3 => ?_
  refine T_allocS S3 (fun _ _ => trivial) rfl rfl rfl rfl rfl rfl rfl fun b4 w5 S6 => ?_
  refine T_pev rfl rfl rfl rfl ?_
  refine T_nil ?_
  refine W_seq ?_
  refine W_seq ?_
  refine W_region ?_
  refine T_pev rfl rfl rfl rfl ?_
  refine T_callS rfl rfl g_aumbry_mss_may rfl rfl rfl rfl ((may_ok S6.le h).mono ?_)
  rintro e w8 ⟨rfl, hB7⟩
  have S9 := S6.call hB7
  refine ⟨_, rfl, trivial, ?_⟩
  refine T_pev rfl rfl rfl rfl ?_
  refine T_nil ?_
  refine W_bool 8 false rfl (may_is hm) ?_
  refine W_cond_false rfl ?_
  refine W_skip ?_
  refine W_seq ?_
  refine W_region ?_
  refine T_pev rfl rfl rfl rfl ?_
  refine T_loadFS 1 S9 rfl rfl rfl rfl rfl rfl rfl rfl rfl (hVs hs) ?_
  refine T_pev rfl rfl rfl rfl ?_
  refine T_callS rfl rfl g_aumbry_mss_Leaves rfl rfl rfl rfl ((leaves_ok S9.le hT h hs (by omega)).mono ?_)
  rintro e w15 ⟨a10, c11, hc12, rfl, ho13, hB14⟩
  have S16 := S9.own hB14 ho13
  refine ⟨_, rfl, trivial, ?_⟩
  obtain ⟨G18, hl19, S17, r20⟩ := S16.stillRow 0 rfl
  have r21 := RdH.mk (Go.Au.mleaves_all _ _) (by decide) r20
  refine T_callS rfl rfl g_aumbry_tree_Root rfl rfl rfl rfl ((root_ok S17.le (hT.mono hl19) r21 (by omega)).mono ?_)
  rintro e w23 ⟨rfl, hB22⟩
  have S24 := S17.call hB22
  refine ⟨_, rfl, trivial, ?_⟩
  refine T_callS rfl rfl g_aumbry_mss_printed rfl rfl rfl rfl ((printT_ok S24.le (hT.mono hl19) h (by omega) (Go.Au.root_len r21.1)).mono ?_)
  rintro e w30 ⟨a25, c26, hc27, rfl, ho28, hB29⟩
  have S31 := S24.own hB29 ho28
  refine ⟨_, rfl, trivial, ?_⟩
  obtain ⟨G33, hl34, S32, r35⟩ := S31.stillRow 0 rfl
  refine T_callS rfl rfl g_aumbry_sha_Sum rfl rfl rfl rfl ((sumN_ok S32.le r35 (by omega)).mono ?_)
  rintro e w37 ⟨rfl, hB36⟩
  have S38 := S32.call hB36
  refine ⟨_, rfl, trivial, ?_⟩
  refine T_re (v' := hV (Go.Au.mprint seed h)) rfl ?_
  refine T_storeFS 0 S38 (fun _ _ => trivial) rfl rfl rfl rfl rfl rfl rfl rfl rfl (hVs (Go.Au.mprint_len _ _)) (hVs (Go.Au.mprint_len _ _)) (one_hA _) fun w39 S40 => ?_
  refine T_pev rfl rfl rfl rfl ?_
  refine T_nil ?_
  refine W_ret ?_
  refine ⟨_, ⟨_, _, _, rfl, rfl, run_loadVarA rfl rfl (hVs (Go.Au.mprint_len _ _)) (S40.cells 0 rfl), ⟨_, _, rfl, rfl, rfl⟩⟩, ?_⟩
  exact ⟨rfl, S40.below⟩


theorem printR_ok {H : Hp} {w : World} (hH : H.le (hw w)) (h : Int) {seed : List UInt8} (hs : seed.length = 16) (hm : 0 ≤ h ∧ h ≤ 4) :
    Calls Tryd.prog 24 #[hV seed, .int .i64 h] w fun e w' => e = .returned (hV (Go.Au.mprint seed h)) ∧ Below w.heap.size w w' := by
  have hp16 := Go.Au.pow16 (h := h) (by omega) (by omega)
  have hml := Go.Au.mleaves_len seed h.toNat
  have hpb := printT_bd h (Go.Au.root_len (Go.Au.mleaves_all seed h.toNat))
  refine enter2 _ Tryd.func24 rfl Tryd.ntmps24 Tryd.results24 rfl ?_
  have S0 := St.start w hH
  refine W_seq ?_
  refine W_region ?_
  refine T_boxS S0 (fun _ _ => trivial) rfl rfl rfl rfl rfl rfl fun b1 w2 S3 => ?_
  refine T_allocS S3 (fun _ _ => trivial) rfl rfl rfl rfl rfl rfl rfl fun b4 w5 S6 => ?_
  refine T_nil ?_
  refine W_seq ?_
  refine W_region ?_
  refine T_pev rfl rfl rfl rfl ?_
  refine T_loadFS 1 S6 rfl rfl rfl rfl rfl rfl rfl rfl rfl (hVs hs) ?_
  refine T_pev rfl rfl rfl rfl ?_
  refine T_callS rfl rfl g_aumbry_aumbryref07_Leaves rfl rfl rfl rfl ((leavesR_ok S6.le h hs (by omega)).mono ?_)
  rintro e w12 ⟨a7, c8, hc9, rfl, ho10, hB11⟩
  have S13 := S6.own hB11 ho10
  refine ⟨_, rfl, trivial, ?_⟩
  obtain ⟨G15, hl16, S14, r17⟩ := S13.stillRow 0 rfl
  have r18 := RdH.mk (Go.Au.mleaves_all _ _) (by decide) r17
  refine T_callS rfl rfl g_aumbry_aumbryref07_Root rfl rfl rfl rfl ((rootR_ok S14.le r18 (by omega)).mono ?_)
  rintro e w20 ⟨rfl, hB19⟩
  have S21 := S14.call hB19
  refine ⟨_, rfl, trivial, ?_⟩
  refine T_callS rfl rfl g_aumbry_aumbryref07_printText rfl rfl rfl rfl ((printTR_ok S21.le h (by omega) (Go.Au.root_len r18.1)).mono ?_)
  rintro e w27 ⟨a22, c23, hc24, rfl, ho25, hB26⟩
  have S28 := S21.own hB26 ho25
  refine ⟨_, rfl, trivial, ?_⟩
  obtain ⟨G30, hl31, S29, r32⟩ := S28.stillRow 0 rfl
  refine T_callS rfl rfl g_aumbry_aumbryref01_Sum rfl rfl rfl rfl ((sumR_ok S29.le r32 (by omega)).mono ?_)
  rintro e w34 ⟨rfl, hB33⟩
  have S35 := S29.call hB33
  refine ⟨_, rfl, trivial, ?_⟩
  refine T_re (v' := hV (Go.Au.mprint seed h)) rfl ?_
  refine T_storeFS 0 S35 (fun _ _ => trivial) rfl rfl rfl rfl rfl rfl rfl rfl rfl (hVs (Go.Au.mprint_len _ _)) (hVs (Go.Au.mprint_len _ _)) (one_hA _) fun w36 S37 => ?_
  refine T_nil ?_
  refine W_ret ?_
  refine ⟨_, ⟨_, _, _, rfl, rfl, run_loadVarA rfl rfl (hVs (Go.Au.mprint_len _ _)) (S37.cells 0 rfl), rfl⟩, ?_⟩
  exact ⟨rfl, S37.below⟩


theorem mssSignNo_ok {H : Hp} {w : World} (hH : H.le (hw w)) (hT : Tabs H) (h leaf : Int) {seed : List UInt8} (hs : seed.length = 16) {m : List UInt8} {aa3 : Option Addr} {nn3 cc3 : Nat} (hm3 : Rd H (.slice aa3 nn3 cc3) nn3 1 (m.map bV)) (hm : 0 ≤ h ∧ h ≤ 4) (hr : ¬ (0 ≤ leaf ∧ leaf < ((2 ^ h.toNat : Nat) : Int))) :
    Calls Tryd.prog 25 #[hV seed, .int .i64 h, .int .i64 leaf, .slice aa3 nn3 cc3] w fun e w' => e = .returned (.tuple #[.agg #[.int .i64 0, .int .i64 0, .slice none 0 0, .slice none 0 0], .int .i64 1]) ∧ Below w.heap.size w w' := by
  obtain rfl : nn3 = m.length := hm3.lenB
  have hm3cap : m.length ≤ cc3 := hm3.capOf
  have hp16 := Go.Au.pow16 (h := h) (by omega) (by omega)
  refine enter4 _ Tryd.func25 rfl Tryd.ntmps25 Tryd.results25 rfl ?_
  have S0 := St.start w hH
  refine W_seq ?_
  refine W_region ?_
  refine T_boxS S0 (fun _ _ => trivial) rfl rfl rfl rfl rfl rfl fun b1 w2 S3 => ?_
  refine T_allocS S3 (fun _ _ => trivial) rfl rfl rfl rfl rfl rfl rfl fun b4 w5 S6 => ?_
  refine T_pev rfl rfl rfl rfl ?_
  refine T_nil ?_
  refine W_seq ?_
  refine W_seq ?_
  refine W_region ?_
  refine T_pev rfl rfl rfl rfl ?_
  refine T_callS rfl rfl g_aumbry_mss_may rfl rfl rfl rfl ((may_ok S6.le h).mono ?_)
  rintro e w8 ⟨rfl, hB7⟩
  have S9 := S6.call hB7
  refine ⟨_, rfl, trivial, ?_⟩
  refine T_pev rfl rfl rfl rfl ?_
  refine T_pev rfl rfl rfl rfl ?_
  refine T_bool 15 false rfl (may_is hm) ?_
  refine T_yes rfl rfl rfl ?_ rfl
  refine T_pev rfl rfl rfl rfl ?_
  refine T_yes rfl rfl rfl ?_ rfl
  refine T_pev rfl rfl rfl rfl ?_
  refine T_pev rfl rfl rfl rfl ?_
  refine T_pev rfl rfl rfl rfl ?_
  refine T_part (t := 19) rfl (List.cons_ne_nil _ _) (fun h10' => ?_) (fun h10' => ?_)
  · have h10 := of_decide_eq_true h10'
    refine T_no rfl rfl rfl rfl rfl rfl ?_
    refine T_no rfl rfl rfl rfl rfl rfl ?_
    refine T_no rfl rfl rfl rfl rfl rfl ?_
    refine T_no rfl rfl rfl rfl rfl rfl ?_
    refine T_pev rfl rfl rfl rfl ?_
    refine T_nil ?_
    refine W_cond_true rfl ?_
    refine W_seq ?_
    refine W_region ?_
    refine T_buildS (cells := #[.int .i64 0, .int .i64 0, .slice none 0 0, .slice none 0 0]) rfl rfl rfl rfl rfl rfl rfl rfl rfl rfl ?_
    refine T_storeFS 0 S9 (fun _ _ => trivial) rfl rfl rfl rfl rfl rfl rfl rfl rfl (by first | rfl | simp [hVs, *]) (by first | rfl | simp [hVs, *]) (one_all rfl) fun w11 S12 => ?_
    refine T_pev rfl rfl rfl rfl ?_
    refine T_nil ?_
    refine W_ret ?_
    refine ⟨_, ⟨_, _, _, rfl, rfl, run_loadVarA rfl rfl (by first | rfl | simp [hVs, *]) (S12.cells 0 rfl), ⟨_, _, rfl, rfl, rfl⟩⟩, ?_⟩
    exact ⟨rfl, S12.below⟩
  have h10 := of_decide_eq_false h10'
  refine T_yes rfl rfl rfl ?_ rfl
  refine T_pev rfl rfl rfl rfl ?_
  refine T_yes rfl rfl rfl ?_ rfl
  refine T_pev rfl rfl rfl rfl ?_
  refine T_yes rfl rfl rfl ?_ rfl
  refine T_shl rfl rfl rfl rfl rfl rfl (by omega) ?_
  refine T_re (v' := .int .i64 ((2 ^ h.toNat : Nat) : Int)) (congrArg (Value.int .i64) (shlI (by omega) (by omega))) ?_
  refine T_yes rfl rfl rfl ?_ rfl
  refine T_pev rfl rfl rfl rfl ?_
  refine T_pev rfl rfl rfl rfl ?_
  refine T_nil ?_
  refine W_bool 24 true rfl (decide_eq_true (by omega)) ?_
  refine W_cond_true rfl ?_
  refine W_seq ?_
  refine W_region ?_
  refine T_buildS (cells := #[.int .i64 0, .int .i64 0, .slice none 0 0, .slice none 0 0]) rfl rfl rfl rfl rfl rfl rfl rfl rfl rfl ?_
  refine T_storeFS 0 S9 (fun _ _ => trivial) rfl rfl rfl rfl rfl rfl rfl rfl rfl (by first | rfl | simp [hVs, *]) (by first | rfl | simp [hVs, *]) (one_all rfl) fun w13 S14 => ?_
  refine T_pev rfl rfl rfl rfl ?_
  refine T_nil ?_
  refine W_ret ?_
  refine ⟨_, ⟨_, _, _, rfl, rfl, run_loadVarA rfl rfl (by first | rfl | simp [hVs, *]) (S14.cells 0 rfl), ⟨_, _, rfl, rfl, rfl⟩⟩, ?_⟩
  exact ⟨rfl, S14.below⟩


theorem mssSign_ok {H : Hp} {w : World} (hH : H.le (hw w)) (hT : Tabs H) (h leaf : Int) {seed : List UInt8} (hs : seed.length = 16) {m : List UInt8} {aa3 : Option Addr} {nn3 cc3 : Nat} (hm3 : Rd H (.slice aa3 nn3 cc3) nn3 1 (m.map bV)) (hm : 0 ≤ h ∧ h ≤ 4) (hr : 0 ≤ leaf ∧ leaf < ((2 ^ h.toNat : Nat) : Int)) (hml : m.length < 1000) :
    Calls Tryd.prog 25 #[hV seed, .int .i64 h, .int .i64 leaf, .slice aa3 nn3 cc3] w fun e w' => ∃ a1 c1 a2 c2, e = .returned (.tuple #[.agg #[.int .i64 h, .int .i64 leaf, .slice a1 67 c1, .slice a2 (Go.Au.lg (Go.Au.mleaves seed h.toNat).length) c2], .int .i64 0]) ∧ RdH (F.ext H w.heap.size w') (.slice a1 67 c1) 32 (Go.Au.sign seed leaf m 67) ∧ RdH (F.ext H w.heap.size w') (.slice a2 (Go.Au.lg (Go.Au.mleaves seed h.toNat).length) c2) 32 (Go.Au.beside (Go.Au.rowP (Go.Au.mleaves seed h.toNat)) leaf.toNat (Go.Au.lg (Go.Au.mleaves seed h.toNat).length)) ∧ Below w.heap.size w w' := by
  obtain rfl : nn3 = m.length := hm3.lenB
  have hm3cap : m.length ≤ cc3 := hm3.capOf
  have hp16 := Go.Au.pow16 (h := h) (by omega) (by omega)
  have hll := Go.Au.mleaves_len seed h.toNat
  refine enter4 _ Tryd.func25 rfl Tryd.ntmps25 Tryd.results25 rfl ?_
  have S0 := St.start w hH
  refine W_seq ?_
  refine W_region ?_
  refine T_boxS S0 (fun _ _ => trivial) rfl rfl rfl rfl rfl rfl fun b1 w2 S3 => ?_
  refine T_allocS S3 (fun _ _ => trivial) rfl rfl rfl rfl rfl rfl rfl fun b4 w5 S6 => ?_
  refine T_pev rfl rfl rfl rfl ?_
  refine T_nil ?_
  refine W_seq ?_
  refine W_seq ?_
  refine W_region ?_
  refine T_pev rfl rfl rfl rfl ?_
  refine T_callS rfl rfl g_aumbry_mss_may rfl rfl rfl rfl ((may_ok S6.le h).mono ?_)
  rintro e w8 ⟨rfl, hB7⟩
  have S9 := S6.call hB7
  refine ⟨_, rfl, trivial, ?_⟩
  refine T_pev rfl rfl rfl rfl ?_
  refine T_pev rfl rfl rfl rfl ?_
  refine T_bool 15 false rfl (may_is hm) ?_
  refine T_yes rfl rfl rfl ?_ rfl
  refine T_pev rfl rfl rfl rfl ?_
  refine T_yes rfl rfl rfl ?_ rfl
  refine T_pev rfl rfl rfl rfl ?_
  refine T_pev rfl rfl rfl rfl ?_
  refine T_pev rfl rfl rfl rfl ?_
  refine T_bool 19 false rfl (decide_eq_false (by omega)) ?_
  refine T_yes rfl rfl rfl ?_ rfl
  refine T_pev rfl rfl rfl rfl ?_
  refine T_yes rfl rfl rfl ?_ rfl
  refine T_pev rfl rfl rfl rfl ?_
  refine T_yes rfl rfl rfl ?_ rfl
  refine T_shl rfl rfl rfl rfl rfl rfl (by omega) ?_
  refine T_re (v' := .int .i64 ((2 ^ h.toNat : Nat) : Int)) (congrArg (Value.int .i64) (shlI (by omega) (by omega))) ?_
  refine T_yes rfl rfl rfl ?_ rfl
  refine T_pev rfl rfl rfl rfl ?_
  refine T_pev rfl rfl rfl rfl ?_
  refine T_nil ?_
  refine W_bool 24 false rfl (decide_eq_false (by omega)) ?_
  refine W_cond_false rfl ?_
  refine W_skip ?_
  refine W_seq ?_
  refine W_region ?_
  refine T_pev rfl rfl rfl rfl ?_
  refine T_loadFS 1 S9 rfl rfl rfl rfl rfl rfl rfl rfl rfl (hVs hs) ?_
  refine T_pev rfl rfl rfl rfl ?_
  refine T_callS rfl rfl g_aumbry_mss_Leaves rfl rfl rfl rfl ((leaves_ok S9.le hT h hs (by omega)).mono ?_)
  rintro e w15 ⟨a10, c11, hc12, rfl, ho13, hB14⟩
  have S16 := S9.own hB14 ho13
  refine ⟨_, rfl, trivial, ?_⟩
  obtain ⟨G18, hl19, S17, r20⟩ := S16.stillRow 0 rfl
  have r21 := RdH.mk (Go.Au.mleaves_all _ _) (by decide) r20
  refine T_callS rfl rfl g_aumbry_tree_Proof rfl rfl rfl rfl ((proof_ok S17.le (hT.mono hl19) leaf r21 (by omega) (by omega)).mono ?_)
  rintro e w27 ⟨a22, c23, hc24, rfl, ho25, hB26⟩
  have S28 := S17.own hB26 ho25
  refine ⟨_, rfl, trivial, ?_⟩
  refine T_pev rfl rfl rfl rfl ?_
  refine T_pev rfl rfl rfl rfl ?_
  refine T_pev rfl rfl rfl rfl ?_
  refine T_pev rfl rfl rfl rfl ?_
  refine T_pev rfl rfl rfl rfl ?_
  refine T_nil ?_
  refine W_seq ?_
  refine W_region ?_
  refine T_pev rfl rfl rfl rfl ?_
  refine T_pev rfl rfl rfl rfl ?_
  refine T_loadFS 2 S28 rfl rfl rfl rfl rfl rfl rfl rfl rfl (hVs hs) ?_
  refine T_pev rfl rfl rfl rfl ?_
  refine T_pev rfl rfl rfl rfl ?_
  refine T_callS rfl rfl g_aumbry_wots_Sign rfl rfl rfl rfl ((sign_ok S28.le (hT.mono hl19) leaf hs (by omega) (hm3.mono hl19) (by omega)).mono ?_)
  rintro e w34 ⟨a29, c30, hc31, rfl, ho32, hB33⟩
  have S35 := S28.own hB33 ho32
  refine ⟨_, rfl, trivial, ?_⟩
  refine T_pev rfl rfl rfl rfl ?_
  obtain ⟨G37, hl38, S36, r39⟩ := S35.stillRow 0 rfl
  have r40 := RdH.mk (Go.Au.sign_all _ _ _ _) (by decide) r39
  obtain ⟨G42, hl43, S41, r44⟩ := S36.stillRow 0 rfl
  have r45 := RdH.mk (Go.Au.beside_all r21.1 (by omega) (Nat.le_refl _)) (by decide) r44
  refine T_buildS (cells := #[.int .i64 h, .int .i64 leaf, .slice a29 67 c30, .slice a22 (Go.Au.lg (Go.Au.mleaves seed h.toNat).length) c23]) rfl rfl rfl rfl rfl rfl rfl rfl rfl rfl ?_
  refine T_storeFS 0 S41 (fun _ _ => trivial) rfl rfl rfl rfl rfl rfl rfl rfl rfl (by first | rfl | simp [hVs, *]) (by first | rfl | simp [hVs, *]) (one_all rfl) fun w46 S47 => ?_
  refine T_pev rfl rfl rfl rfl ?_
  refine T_nil ?_
  refine W_ret ?_
  refine ⟨_, ⟨_, _, _, rfl, rfl, run_loadVarA rfl rfl (by first | rfl | simp [hVs, *]) (S47.cells 0 rfl), ⟨_, _, rfl, rfl, rfl⟩⟩, ?_⟩
  exact ⟨_, _, _, _, rfl, ((r40.mono hl43)).mono S47.fin, (r45).mono S47.fin, S47.below⟩


theorem mssSignR_ok {H : Hp} {w : World} (hH : H.le (hw w)) (h leaf : Int) {seed : List UInt8} (hs : seed.length = 16) {m : List UInt8} {aa3 : Option Addr} {nn3 cc3 : Nat} (hm3 : Rd H (.slice aa3 nn3 cc3) nn3 1 (m.map bV)) (hm : 0 ≤ h ∧ h ≤ 4) (hr : 0 ≤ leaf ∧ leaf < ((2 ^ h.toNat : Nat) : Int)) (hml : m.length < 1000) :
    Calls Tryd.prog 27 #[hV seed, .int .i64 h, .int .i64 leaf, .slice aa3 nn3 cc3] w fun e w' => ∃ a1 c1 a2 c2, e = .returned (.agg #[.int .i64 h, .int .i64 leaf, .slice a1 67 c1, .slice a2 (Go.Au.lg (Go.Au.mleaves seed h.toNat).length) c2]) ∧ RdH (F.ext H w.heap.size w') (.slice a1 67 c1) 32 (Go.Au.sign seed leaf m 67) ∧ RdH (F.ext H w.heap.size w') (.slice a2 (Go.Au.lg (Go.Au.mleaves seed h.toNat).length) c2) 32 (Go.Au.beside (Go.Au.rowP (Go.Au.mleaves seed h.toNat)) leaf.toNat (Go.Au.lg (Go.Au.mleaves seed h.toNat).length)) ∧ Below w.heap.size w w' := by
  obtain rfl : nn3 = m.length := hm3.lenB
  have hm3cap : m.length ≤ cc3 := hm3.capOf
  have hp16 := Go.Au.pow16 (h := h) (by omega) (by omega)
  have hll := Go.Au.mleaves_len seed h.toNat
  refine enter4 _ Tryd.func27 rfl Tryd.ntmps27 Tryd.results27 rfl ?_
  have S0 := St.start w hH
  refine W_seq ?_
  refine W_region ?_
  refine T_boxS S0 (fun _ _ => trivial) rfl rfl rfl rfl rfl rfl fun b1 w2 S3 => ?_
  refine T_allocS S3 (fun _ _ => trivial) rfl rfl rfl rfl rfl rfl rfl fun b4 w5 S6 => ?_
  refine T_nil ?_
  refine W_seq ?_
  obtain ⟨G8, hl9, S7, r10⟩ := S6.stillBlk 1 rfl
  refine W_plan (planF Tryd.prog G8 [16]) rfl (by kernel_rfl) S7.le ?_
  have S11 := S7.drew
  refine T_pev rfl rfl rfl rfl ?_
  refine T_pev rfl rfl rfl rfl ?_
  refine T_loadGA _ S11 (still_cells r10) rfl rfl rfl rfl rfl rfl rfl rfl (hVs hs) ?_
  refine T_pev rfl rfl rfl rfl ?_
  refine T_pev rfl rfl rfl rfl ?_
  refine T_callS rfl rfl g_aumbry_aumbryref07_SignOne rfl rfl rfl rfl ((signR_ok S11.le leaf hs (by omega) (hm3.mono hl9) (by omega)).mono ?_)
  rintro e w17 ⟨a12, c13, hc14, rfl, ho15, hB16⟩
  have S18 := S11.own hB16 ho15
  refine ⟨_, rfl, (((Hp.le.refl _)).trans S18.le), ?_⟩
  refine T_pev rfl rfl rfl rfl ?_
  refine T_loadGAP _ (fun _ h => h) (still_cells r10) rfl rfl rfl rfl rfl rfl rfl rfl (hVs hs) ?_
  refine T_pev rfl rfl rfl rfl ?_
  refine T_callS rfl rfl g_aumbry_aumbryref07_Leaves rfl rfl rfl rfl ((leavesR_ok S18.le h hs (by omega)).mono ?_)
  rintro e w24 ⟨a19, c20, hc21, rfl, ho22, hB23⟩
  have S25 := S18.own hB23 ho22
  refine ⟨_, rfl, (((Hp.le.refl _)).trans S25.le), ?_⟩
  obtain ⟨G27, hl28, S26, r29⟩ := S25.stillRow 0 rfl
  have r30 := RdH.mk (Go.Au.mleaves_all _ _) (by decide) r29
  refine T_callS rfl rfl g_aumbry_aumbryref07_Proof rfl rfl rfl rfl ((proofR_ok S26.le leaf r30 (by omega) (by omega)).mono ?_)
  rintro e w36 ⟨a31, c32, hc33, rfl, ho34, hB35⟩
  have S37 := S26.own hB35 ho34
  refine ⟨_, rfl, ((hl28).trans S37.le), ?_⟩
  obtain ⟨G39, hl40, S38, r41⟩ := S37.stillRow 1 rfl
  have r42 := RdH.mk (Go.Au.sign_all _ _ _ _) (by decide) r41
  obtain ⟨G44, hl45, S43, r46⟩ := S38.stillRow 0 rfl
  have r47 := RdH.mk (Go.Au.beside_all r30.1 (by omega) (Nat.le_refl _)) (by decide) r46
  refine T_buildS (cells := #[.int .i64 h, .int .i64 leaf, .slice a12 67 c13, .slice a31 (Go.Au.lg (Go.Au.mleaves seed h.toNat).length) c32]) rfl rfl rfl rfl rfl rfl rfl rfl rfl rfl ?_
  refine T_storeFS 0 S43 (fun _ h => ((hl28.trans (hl40.trans hl45))).trans h) rfl rfl rfl rfl rfl rfl rfl rfl rfl (by first | rfl | simp [hVs, *]) (by first | rfl | simp [hVs, *]) (one_all rfl) fun w48 S49 => ?_
  refine T_nil ?_
  refine W_ret ?_
  refine ⟨_, ⟨_, _, _, rfl, rfl, run_loadVarA rfl rfl (by first | rfl | simp [hVs, *]) (S49.cells 0 rfl), rfl⟩, ?_⟩
  exact ⟨_, _, _, _, rfl, ((r42.mono hl45)).mono S49.fin, (r47).mono S49.fin, S49.below⟩


theorem keepSig_ok {H : Hp} {w : World} (hH : H.le (hw w)) (sh sl : Int) {v : List (List UInt8)} {p : List (List UInt8)} {a1 a2 a3 a4 : Option Addr} {n1 n2 n3 n4 c1 c2 c3 c4 : Nat} (h1 : RdH H (.slice a1 n1 c1) 32 v) (h2 : RdH H (.slice a2 n2 c2) 32 p) (h3 : RdH H (.slice a3 n3 c3) 32 v) (h4 : RdH H (.slice a4 n4 c4) 32 p) (hbv : v.length ≤ 1000000) (hbp : p.length ≤ 1000000) :
    Calls Tryd.prog 26 #[.agg #[.int .i64 sh, .int .i64 sl, .slice a1 n1 c1, .slice a2 n2 c2], .agg #[.int .i64 sh, .int .i64 sl, .slice a3 n3 c3, .slice a4 n4 c4]] w fun e w' => e = .returned (.bool true) ∧ Below w.heap.size w w' := by
  obtain rfl : n1 = v.length := h1.len
  obtain rfl : n2 = p.length := h2.len
  obtain rfl : n3 = v.length := h3.len
  obtain rfl : n4 = p.length := h4.len
  refine enter2 _ Tryd.func26 rfl Tryd.ntmps26 Tryd.results26 rfl ?_
  have S0 := St.start w hH
  refine W_seq ?_
  refine W_region ?_
  refine T_boxS S0 (fun _ _ => trivial) rfl rfl rfl rfl rfl rfl fun b1 w2 S3 => ?_
  refine T_boxS S3 (fun _ _ => trivial) rfl rfl rfl rfl rfl rfl fun b4 w5 S6 => ?_
  refine T_pev rfl rfl rfl rfl ?_
  refine T_nil ?_
  refine W_seq ?_
  refine W_region ?_
  refine T_fldm 0 rfl rfl rfl rfl rfl rfl (by decide) rfl rfl rfl ?_
  refine T_loadS 1 0 S6 rfl rfl rfl rfl rfl rfl rfl rfl rfl rfl ?_
  refine T_fldm 0 rfl rfl rfl rfl rfl rfl (by decide) rfl rfl rfl ?_
  refine T_loadS 0 0 S6 rfl rfl rfl rfl rfl rfl rfl rfl rfl rfl ?_
  refine T_pev rfl rfl rfl rfl ?_
  refine T_pev rfl rfl rfl rfl ?_
  refine T_bool 10 true rfl (decide_eq_true rfl) ?_
  refine T_yes rfl rfl rfl ?_ rfl
  refine T_fldm 1 rfl rfl rfl rfl rfl rfl (by decide) rfl rfl rfl ?_
  refine T_yes rfl rfl rfl ?_ rfl
  refine T_loadS 1 1 S6 rfl rfl rfl rfl rfl rfl rfl rfl rfl rfl ?_
  refine T_yes rfl rfl rfl ?_ rfl
  refine T_fldm 1 rfl rfl rfl rfl rfl rfl (by decide) rfl rfl rfl ?_
  refine T_yes rfl rfl rfl ?_ rfl
  refine T_loadS 0 1 S6 rfl rfl rfl rfl rfl rfl rfl rfl rfl rfl ?_
  refine T_yes rfl rfl rfl ?_ rfl
  refine T_pev rfl rfl rfl rfl ?_
  refine T_pev rfl rfl rfl rfl ?_
  refine T_pev rfl rfl rfl rfl ?_
  refine T_bool 17 true rfl (decide_eq_true rfl) ?_
  refine T_yes rfl rfl rfl ?_ rfl
  refine T_fldm 2 rfl rfl rfl rfl rfl rfl (by decide) rfl rfl rfl ?_
  refine T_yes rfl rfl rfl ?_ rfl
  refine T_loadS 1 2 S6 rfl rfl rfl rfl rfl rfl rfl rfl rfl rfl ?_
  refine T_yes rfl rfl rfl ?_ rfl
  refine T_fldm 2 rfl rfl rfl rfl rfl rfl (by decide) rfl rfl rfl ?_
  refine T_yes rfl rfl rfl ?_ rfl
  refine T_loadS 0 2 S6 rfl rfl rfl rfl rfl rfl rfl rfl rfl rfl ?_
  refine T_yes rfl rfl rfl ?_ rfl
  refine T_callS rfl rfl g_aumbry_aumbrykeep_Same_aumbry_api_Hash rfl rfl rfl rfl ((sameH_ok S6.le h1 h3 (by first | omega | (simp; done) | (simp only [List.length_take, List.length_drop]; omega))).mono ?_)
  rintro e w8 ⟨rfl, hB7⟩
  have S9 := S6.call hB7
  refine ⟨_, rfl, trivial, ?_⟩
  refine T_pev rfl rfl rfl rfl ?_
  refine T_pev rfl rfl rfl rfl ?_
  refine T_bool 24 true rfl (decide_eq_true rfl) ?_
  refine T_yes rfl rfl rfl ?_ rfl
  refine T_fldm 3 rfl rfl rfl rfl rfl rfl (by decide) rfl rfl rfl ?_
  refine T_yes rfl rfl rfl ?_ rfl
  refine T_loadS 1 3 S9 rfl rfl rfl rfl rfl rfl rfl rfl rfl rfl ?_
  refine T_yes rfl rfl rfl ?_ rfl
  refine T_fldm 3 rfl rfl rfl rfl rfl rfl (by decide) rfl rfl rfl ?_
  refine T_yes rfl rfl rfl ?_ rfl
  refine T_loadS 0 3 S9 rfl rfl rfl rfl rfl rfl rfl rfl rfl rfl ?_
  refine T_yes rfl rfl rfl ?_ rfl
  refine T_callS rfl rfl g_aumbry_aumbrykeep_Same_aumbry_api_Hash rfl rfl rfl rfl ((sameH_ok S9.le h2 h4 (by first | omega | (simp; done) | (simp only [List.length_take, List.length_drop]; omega))).mono ?_)
  rintro e w11 ⟨rfl, hB10⟩
  have S12 := S9.call hB10
  refine ⟨_, rfl, trivial, ?_⟩
  refine T_pev rfl rfl rfl rfl ?_
  refine T_pev rfl rfl rfl rfl ?_
  refine T_nil ?_
  refine W_ret ?_
  refine ⟨_, ⟨_, _, rfl, rfl, rfl⟩, ?_⟩
  exact ⟨congrArg (fun z => Ending.returned (Value.bool z)) (decide_eq_true rfl), S12.below⟩

end Go.Proofs.YtbkdncmjfhbafaaDoor
