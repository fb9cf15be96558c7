/- Signatures spoilt, walked. -/
import Derived.Test.YtbkdncmjfhbafaaDoorMssB
set_option linter.unusedVariables false
set_option linter.unusedSimpArgs false
set_option maxRecDepth 8192
namespace Go.Proofs.YtbkdncmjfhbafaaDoor
open Go Go.F Go.RowKit

theorem and1 {z : Int} (h : -9223372036854775808 ≤ z ∧ z ≤ 9223372036854775807) : bits .and .i64 z 1 = z % 2 := by
  have e : ((BitVec.ofInt 64 z) &&& (BitVec.ofInt 64 1)).toNat = (z % 2).toNat := by
    rw [BitVec.toNat_and, BitVec.toNat_ofInt, show (BitVec.ofInt 64 1).toNat = 1 from rfl, Nat.and_one_is_mod]
    show (z % 18446744073709551616).toNat % 2 = _
    omega
  show IntKind.i64.wrap ((((BitVec.ofInt 64 z) &&& (BitVec.ofInt 64 1)).toNat : Nat) : Int) = z % 2
  rw [e, wrap64_id (by omega) (by omega)]
  omega
theorem sp5 {w b : Int} {v : List (List UInt8)} (h : w % 8 = 5) (h67 : v.length = 67) : (v.drop 0).take (66 - 0) = Go.Au.spV w b v := by
  rw [← Go.Au.spV_5 h, h67]; rfl
theorem sp_end {W w : World} {H G : Hp} {H' L' H2 L2 : Int} {V' P' V2 P2 : List (List UInt8)} {a1 a2 : Option Addr} {n1 n2 c1 c2 : Nat} (e1 : H' = H2) (e2 : L' = L2) (e3 : V' = V2) (e4 : P' = P2) (r1 : RdH G (.slice a1 n1 c1) 32 V') (r2 : RdH G (.slice a2 n2 c2) 32 P') (hG : G.le (F.ext H W.heap.size w)) (hB : Below W.heap.size W w) :
    ∃ a1' n1' c1' a2' n2' c2', Ending.returned (.agg #[.int .i64 H', .int .i64 L', .slice a1 n1 c1, .slice a2 n2 c2]) = .returned (.agg #[.int .i64 H2, .int .i64 L2, .slice a1' n1' c1', .slice a2' n2' c2']) ∧ RdH (F.ext H W.heap.size w) (.slice a1' n1' c1') 32 V2 ∧ RdH (F.ext H W.heap.size w) (.slice a2' n2' c2') 32 P2 ∧ Below W.heap.size W w := by
  subst e1; subst e2; subst e3; subst e4; exact ⟨a1, n1, c1, a2, n2, c2, rfl, r1.mono hG, r2.mono hG, hB⟩
theorem xorb1 (x : UInt8) : bits .xor .u8 (x.toNat : Int) 1 = ((x ^^^ 1).toNat : Int) := by
  have key : ∀ q : Fin 256, bits .xor .u8 (q.val : Int) 1 = ((UInt8.ofNat q.val ^^^ 1).toNat : Int) := by decide +kernel
  have h := key ⟨x.toNat, x.toNat_lt⟩
  simpa using h
theorem xorb8 (x : UInt8) : bits .xor .u8 (x.toNat : Int) 8 = ((x ^^^ 8).toNat : Int) := by
  have key : ∀ q : Fin 256, bits .xor .u8 (q.val : Int) 8 = ((UInt8.ofNat q.val ^^^ 8).toNat : Int) := by decide +kernel
  have h := key ⟨x.toNat, x.toNat_lt⟩
  simpa using h
set_option maxHeartbeats 2000000 in
theorem spoilt_ok {H : Hp} {w : World} (hH : H.le (hw w)) (sh sl : Int) {v p : List (List UInt8)} {a1 a2 : Option Addr} {n1 n2 c1 c2 : Nat} (h1 : RdH H (.slice a1 n1 c1) 32 v) (h2 : RdH H (.slice a2 n2 c2) 32 p) (w0 b : Int) (h67 : v.length = 67) (hp : p.length ≤ 10) (hsh : 0 ≤ sh ∧ sh ≤ 100) (hsl : 0 ≤ sl ∧ sl ≤ 100) (hb2 : -9223372036854775808 ≤ b ∧ b ≤ 9223372036854775807) :
    Calls Tryd.prog 28 #[.agg #[.int .i64 sh, .int .i64 sl, .slice a1 n1 c1, .slice a2 n2 c2], .int .i64 w0, .int .i64 b] w fun e w' => ∃ a1 n1 c1 a2 n2 c2, e = .returned (.agg #[.int .i64 (Go.Au.spH w0 b sh), .int .i64 (Go.Au.spL w0 b sl), .slice a1 n1 c1, .slice a2 n2 c2]) ∧ RdH (F.ext H w.heap.size w') (.slice a1 n1 c1) 32 (Go.Au.spV w0 b v) ∧ RdH (F.ext H w.heap.size w') (.slice a2 n2 c2) 32 (Go.Au.spP w0 b p) ∧ Below w.heap.size w w' := by
  obtain rfl : n1 = v.length := h1.len
  obtain rfl : n2 = p.length := h2.len
  refine enter3 _ Tryd.func28 rfl Tryd.ntmps28 Tryd.results28 rfl ?_
  have S0 := St.start w hH
  refine W_seq ?_
  refine W_region ?_
  refine T_boxS S0 (fun _ _ => trivial) rfl rfl rfl rfl rfl rfl fun b1 w2 S3 => ?_
  refine T_allocS S3 (fun _ _ => trivial) rfl rfl rfl rfl rfl rfl rfl fun b4 w5 S6 => ?_
  refine T_nil ?_
  refine W_seq ?_
  refine W_tree (plan Tryd.prog) (.step 0 (.step 1 (.step 3 (.fork 2 4 (.step 4 (.step 5 (.step 6 (.step 7 (.step 8 (.step 9 .done)))))) (.step 2 (.step 5 (.step 6 (.step 7 (.step 8 (.step 9 .done)))))))))) rfl (by kernel_rfl) trivial ?_
  have S7 := S6.drew
  refine TT_step rfl ?_
  refine T_fldm 2 rfl rfl rfl rfl rfl rfl (by decide) rfl rfl rfl ?_
  refine T_nil ?_
  refine TT_step rfl ?_
  refine T_loadS 1 2 S7 rfl rfl rfl rfl rfl rfl rfl rfl rfl rfl ?_
  refine T_nil ?_
  refine TT_step rfl ?_
  refine T_fldm 3 rfl rfl rfl rfl rfl rfl (by decide) rfl rfl rfl ?_
  refine T_nil ?_
  refine TT_fork rfl rfl ?_ ?_
  · refine T_callS rfl rfl g_aumbry_aumbrykeep_Copy_aumbry_api_Hash rfl rfl rfl rfl ((copyH_ok S7.le h1 (by omega)).mono ?_)
    rintro e w13 ⟨a8, c9, hc10, rfl, ho11, hB12⟩
    have S14 := S7.own hB12 ho11
    refine ⟨_, rfl, trivial, ?_⟩
    refine T_nil ?_
    refine TT_step rfl ?_
    refine T_loadS 2 3 S14 rfl rfl rfl rfl rfl rfl rfl rfl rfl rfl ?_
    refine T_nil ?_
    refine TT_step rfl ?_
    refine T_callS rfl rfl g_aumbry_aumbrykeep_Copy_aumbry_api_Hash rfl rfl rfl rfl ((copyH_ok S14.le h2 (by omega)).mono ?_)
    rintro e w20 ⟨a15, c16, hc17, rfl, ho18, hB19⟩
    have S21 := S14.own hB19 ho18
    refine ⟨_, rfl, trivial, ?_⟩
    refine T_nil ?_
    refine TT_step rfl ?_
    refine T_fldm 2 rfl rfl rfl rfl rfl rfl (by decide) rfl rfl rfl ?_
    refine T_nil ?_
    refine TT_step rfl ?_
    refine T_store1S 3 2 S21 (fun _ _ => trivial) rfl rfl rfl rfl rfl rfl rfl rfl rfl rfl rfl rfl (show 2 < 4 by decide) fun w22 S23 => ?_
    have hE24 : (.agg #[.int .i64 sh, .int .i64 sl, .slice a1 v.length c1, .slice a2 p.length c2] : Value).cells.setIfInBounds 2 (.slice a8 v.length c9) = (.agg #[.int .i64 sh, .int .i64 sl, .slice a8 v.length c9, .slice a2 p.length c2] : Value).cells := rfl
    rw [hE24] at S23
    refine T_nil ?_
    refine TT_step rfl ?_
    refine T_fldm 3 rfl rfl rfl rfl rfl rfl (by decide) rfl rfl rfl ?_
    refine T_nil ?_
    refine TT_step rfl ?_
    refine T_store1S 3 3 S23 (fun _ _ => trivial) rfl rfl rfl rfl rfl rfl rfl rfl rfl rfl rfl rfl (show 3 < 4 by decide) fun w25 S26 => ?_
    have hE27 : (.agg #[.int .i64 sh, .int .i64 sl, .slice a8 v.length c9, .slice a2 p.length c2] : Value).cells.setIfInBounds 3 (.slice a15 p.length c16) = (.agg #[.int .i64 sh, .int .i64 sl, .slice a8 v.length c9, .slice a15 p.length c16] : Value).cells := rfl
    rw [hE27] at S26
    refine T_nil ?_
    refine TT_done ?_
    refine W_seq ?_
    refine W_seq ?_
    refine W_region ?_
    refine T_pev rfl rfl rfl rfl ?_
    refine T_callS rfl rfl g_aumbry_aumbrykeep_Within rfl rfl rfl rfl ((withinN_ok S26.le w0 (8 : Int) (by omega)).mono ?_)
    rintro e w29 ⟨rfl, hB28⟩
    have S30 := S26.call hB28
    refine ⟨_, rfl, trivial, ?_⟩
    refine T_nil ?_
    refine W_block ?_
    refine W_seq ?_
    refine W_region ?_
    refine T_pev rfl rfl rfl rfl ?_
    refine T_pev rfl rfl rfl rfl ?_
    refine T_nil ?_
    refine W_cond_dec rfl (fun h31 => ?_) (fun h31 => ?_)
    · refine W_region ?_
      refine T_fldm 0 rfl rfl rfl rfl rfl rfl (by decide) rfl rfl rfl ?_
      refine T_loadS 3 0 S30 rfl rfl rfl rfl rfl rfl rfl rfl rfl rfl ?_
      refine T_pev rfl rfl rfl rfl ?_
      refine T_pev rfl rfl rfl rfl ?_
      refine T_re (v' := .int .i64 (b % 2)) (congrArg (Value.int .i64) (and1 hb2)) ?_
      refine T_ari rfl rfl rfl rfl (by omega) ?_
      refine T_ari rfl rfl rfl rfl (by omega) ?_
      refine T_ari rfl rfl rfl rfl (by omega) ?_
      refine T_fldm 0 rfl rfl rfl rfl rfl rfl (by decide) rfl rfl rfl ?_
      refine T_store1S 3 0 S30 (fun _ _ => trivial) rfl rfl rfl rfl rfl rfl rfl rfl rfl rfl rfl rfl (show 0 < 4 by decide) fun w32 S33 => ?_
      have hE34 : (.agg #[.int .i64 sh, .int .i64 sl, .slice a8 v.length c9, .slice a15 p.length c16] : Value).cells.setIfInBounds 0 (.int .i64 (sh + ((1 : Int) - ((2 : Int) * (b % 2))))) = (.agg #[.int .i64 (sh + ((1 : Int) - ((2 : Int) * (b % 2)))), .int .i64 sl, .slice a8 v.length c9, .slice a15 p.length c16] : Value).cells := rfl
      rw [hE34] at S33
      refine T_nil ?_
      refine W_seq ?_
      refine W_region ?_
      refine T_loadFS 3 S33 rfl rfl rfl rfl rfl rfl rfl rfl rfl (by first | rfl | simp [hVs, *]) ?_
      refine T_storeFS 2 S33 (fun _ _ => trivial) rfl rfl rfl rfl rfl rfl rfl rfl rfl (by first | rfl | simp [hVs, *]) (by first | rfl | simp [hVs, *]) (one_all rfl) fun w35 S36 => ?_
      refine T_nil ?_
      refine W_ret ?_
      obtain ⟨G38, hl39, S37, r40⟩ := S36.stillRow 1 rfl
      have r41 := RdH.mk h1.1 (by decide) r40
      obtain ⟨G43, hl44, S42, r45⟩ := S37.stillRow 0 rfl
      have r46 := RdH.mk h2.1 (by decide) r45
      refine ⟨_, ⟨_, _, _, rfl, rfl, run_loadVarA rfl rfl (by first | rfl | simp [hVs, *]) (S42.cells 0 rfl), rfl⟩, ?_⟩
      exact sp_end (if_pos h31).symm (if_neg (by omega)).symm (Go.Au.spV_n (by omega) (by omega)) (Go.Au.spP_n (by omega) (by omega)) (r41.mono hl44) r46 S42.fin S42.below
    refine W_seq ?_
    refine W_region ?_
    refine T_pev rfl rfl rfl rfl ?_
    refine T_pev rfl rfl rfl rfl ?_
    refine T_nil ?_
    refine W_cond_dec rfl (fun h47 => ?_) (fun h47 => ?_)
    · refine W_region ?_
      refine T_fldm 1 rfl rfl rfl rfl rfl rfl (by decide) rfl rfl rfl ?_
      refine T_loadS 3 1 S30 rfl rfl rfl rfl rfl rfl rfl rfl rfl rfl ?_
      refine T_pev rfl rfl rfl rfl ?_
      refine T_pev rfl rfl rfl rfl ?_
      refine T_re (v' := .int .i64 (b % 2)) (congrArg (Value.int .i64) (and1 hb2)) ?_
      refine T_ari rfl rfl rfl rfl (by omega) ?_
      refine T_ari rfl rfl rfl rfl (by omega) ?_
      refine T_ari rfl rfl rfl rfl (by omega) ?_
      refine T_fldm 1 rfl rfl rfl rfl rfl rfl (by decide) rfl rfl rfl ?_
      refine T_store1S 3 1 S30 (fun _ _ => trivial) rfl rfl rfl rfl rfl rfl rfl rfl rfl rfl rfl rfl (show 1 < 4 by decide) fun w48 S49 => ?_
      have hE50 : (.agg #[.int .i64 sh, .int .i64 sl, .slice a8 v.length c9, .slice a15 p.length c16] : Value).cells.setIfInBounds 1 (.int .i64 (sl + ((1 : Int) - ((2 : Int) * (b % 2))))) = (.agg #[.int .i64 sh, .int .i64 (sl + ((1 : Int) - ((2 : Int) * (b % 2)))), .slice a8 v.length c9, .slice a15 p.length c16] : Value).cells := rfl
      rw [hE50] at S49
      refine T_nil ?_
      refine W_seq ?_
      refine W_region ?_
      refine T_loadFS 3 S49 rfl rfl rfl rfl rfl rfl rfl rfl rfl (by first | rfl | simp [hVs, *]) ?_
      refine T_storeFS 2 S49 (fun _ _ => trivial) rfl rfl rfl rfl rfl rfl rfl rfl rfl (by first | rfl | simp [hVs, *]) (by first | rfl | simp [hVs, *]) (one_all rfl) fun w51 S52 => ?_
      refine T_nil ?_
      refine W_ret ?_
      obtain ⟨G54, hl55, S53, r56⟩ := S52.stillRow 1 rfl
      have r57 := RdH.mk h1.1 (by decide) r56
      obtain ⟨G59, hl60, S58, r61⟩ := S53.stillRow 0 rfl
      have r62 := RdH.mk h2.1 (by decide) r61
      refine ⟨_, ⟨_, _, _, rfl, rfl, run_loadVarA rfl rfl (by first | rfl | simp [hVs, *]) (S58.cells 0 rfl), rfl⟩, ?_⟩
      exact sp_end (if_neg (by omega)).symm (if_pos h47).symm (Go.Au.spV_n (by omega) (by omega)) (Go.Au.spP_n (by omega) (by omega)) (r57.mono hl60) r62 S58.fin S58.below
    refine W_seq ?_
    refine W_region ?_
    refine T_pev rfl rfl rfl rfl ?_
    refine T_pev rfl rfl rfl rfl ?_
    refine T_nil ?_
    refine W_cond_dec rfl (fun h63 => ?_) (fun h63 => ?_)
    · have hq1y := Int.emod_nonneg b (show ((v.length : Nat) : Int) ≠ 0 by omega)
      have hq2y := Int.emod_lt_of_pos b (show 0 < ((v.length : Nat) : Int) by omega)
      obtain ⟨y, hyv⟩ : ∃ zz : Nat, b % ((v.length : Nat) : Int) = (zz : Int) := ⟨(b % ((v.length : Nat) : Int)).toNat, by omega⟩
      obtain ⟨c, hc32⟩ : ∃ c : Nat, b % 32 = (c : Int) := ⟨(b % 32).toNat, by omega⟩
      refine W_tree (plan Tryd.prog) (.step 0 (.step 2 (.step 3 (.step 4 (.step 5 (.step 7 (.fork 1 6 (.step 6 (.step 8 (.step 9 (.step 10 (.step 11 (.step 12 (.step 13 (.step 14 (.step 15 .done))))))))) (.fork 1 8 (.step 8 (.step 9 (.step 10 (.step 11 (.step 12 (.step 13 (.step 14 (.step 15 .done)))))))) (.step 1 (.step 9 (.step 10 (.step 11 (.step 12 (.step 13 (.step 14 (.step 15 .done)))))))))))))))) rfl (by kernel_rfl) trivial ?_
      have S64 := S30.drew
      refine TT_step rfl ?_
      refine T_fldm 2 rfl rfl rfl rfl rfl rfl (by decide) rfl rfl rfl ?_
      refine T_nil ?_
      refine TT_step rfl ?_
      refine T_pev rfl rfl rfl rfl ?_
      refine T_nil ?_
      refine TT_step rfl ?_
      refine T_fldm 2 rfl rfl rfl rfl rfl rfl (by decide) rfl rfl rfl ?_
      refine T_nil ?_
      refine TT_step rfl ?_
      refine T_loadS 3 2 S64 rfl rfl rfl rfl rfl rfl rfl rfl rfl rfl ?_
      refine T_nil ?_
      refine TT_step rfl ?_
      refine T_pev rfl rfl rfl rfl ?_
      refine T_nil ?_
      refine TT_step rfl ?_
      refine T_pev rfl rfl rfl rfl ?_
      refine T_nil ?_
      refine TT_fork rfl rfl ?_ ?_
      · refine T_loadS 3 2 S64 rfl rfl rfl rfl rfl rfl rfl rfl rfl rfl ?_
        refine T_nil ?_
        refine TT_step rfl ?_
        refine T_callS rfl rfl g_aumbry_aumbrykeep_Within rfl rfl rfl rfl ((withinN_ok S64.le b ((v.length : Nat) : Int) (by omega)).mono ?_)
        rintro e w66 ⟨rfl, hB65⟩
        have S67 := S64.call hB65
        refine ⟨_, rfl, trivial, ?_⟩
        refine T_re (v' := .int .i64 ((y : Nat) : Int)) (congrArg (Value.int .i64) hyv) ?_
        refine T_nil ?_
        refine TT_step rfl ?_
        refine T_callS rfl rfl g_aumbry_aumbrykeep_Within rfl rfl rfl rfl ((withinN_ok S67.le b (32 : Int) (by omega)).mono ?_)
        rintro e w69 ⟨rfl, hB68⟩
        have S70 := S67.call hB68
        refine ⟨_, rfl, trivial, ?_⟩
        refine T_re (v' := .int .i64 ((c : Nat) : Int)) (congrArg (Value.int .i64) hc32) ?_
        refine T_nil ?_
        refine TT_step rfl ?_
        obtain ⟨g71, rfl⟩ := S70.rowAt 1 rfl (by omega)
        refine T_idxm (y * 32) rfl rfl rfl rfl rfl rfl rfl rfl (by omega) (by show 0 + Int.toNat _ * 32 = _; omega) ?_
        refine T_nil ?_
        refine TT_step rfl ?_
        refine T_idxAm (y * 32 + c) rfl rfl rfl rfl rfl rfl rfl rfl (by omega) (by show _ + Int.toNat _ * 1 = _; omega) ?_
        refine T_nil ?_
        refine TT_step rfl ?_
        refine T_load rfl rfl rfl rfl rfl rfl rfl (S70.rowCell 1 rfl (hcells_at1 h1.1 (by omega) (by omega))) ?_
        refine T_nil ?_
        refine TT_step rfl ?_
        refine T_pev rfl rfl rfl rfl ?_
        refine T_re (v' := bV ((v.getD y []).getD c 0 ^^^ 1)) (congrArg (Value.int .u8) (xorb1 _)) ?_
        refine T_nil ?_
        refine TT_step rfl ?_
        refine T_idxm (y * 32) rfl rfl rfl rfl rfl rfl rfl rfl (by omega) (by show 0 + Int.toNat _ * 32 = _; omega) ?_
        refine T_nil ?_
        refine TT_step rfl ?_
        refine T_idxAm (y * 32 + c) rfl rfl rfl rfl rfl rfl rfl rfl (by omega) (by show _ + Int.toNat _ * 1 = _; omega) ?_
        refine T_nil ?_
        refine TT_step rfl ?_
        refine T_storeRow 1 (hcells (v.set y ((v.getD y []).set c ((v.getD y []).getD c 0 ^^^ 1)))) S70 (fun _ _ => trivial) rfl rfl rfl rfl rfl rfl rfl rfl rfl (by show _ + 1 ≤ _ * 32; omega) one_bV1 (hcells_set1 h1.1 (by omega) (by omega)) fun w72 S73 => ?_
        refine T_nil ?_
        refine TT_done ?_
        refine W_seq ?_
        refine W_region ?_
        refine T_loadFS 3 S73 rfl rfl rfl rfl rfl rfl rfl rfl rfl (by first | rfl | simp [hVs, *]) ?_
        refine T_storeFS 2 S73 (fun _ _ => trivial) rfl rfl rfl rfl rfl rfl rfl rfl rfl (by first | rfl | simp [hVs, *]) (by first | rfl | simp [hVs, *]) (one_all rfl) fun w74 S75 => ?_
        refine T_nil ?_
        refine W_ret ?_
        obtain ⟨G77, hl78, S76, r79⟩ := S75.stillRow 1 rfl
        have r80 := RdH.mk (set_all (h := (v.getD y []).set c ((v.getD y []).getD c 0 ^^^ 1)) h1.1 y (by rw [List.length_set]; exact len_h h1.1 y (by omega))) (by decide) r79
        obtain ⟨G82, hl83, S81, r84⟩ := S76.stillRow 0 rfl
        have r85 := RdH.mk h2.1 (by decide) r84
        refine ⟨_, ⟨_, _, _, rfl, rfl, run_loadVarA rfl rfl (by first | rfl | simp [hVs, *]) (S81.cells 0 rfl), rfl⟩, ?_⟩
        exact sp_end (if_neg (by omega)).symm (if_neg (by omega)).symm (Go.Au.spV_3 (by omega) hyv hc32) (Go.Au.spP_n (by omega) (by omega)) (r80.mono hl83) r85 S81.fin S81.below
      refine T_callS rfl rfl g_aumbry_aumbrykeep_Within rfl rfl rfl rfl ((withinN_ok S64.le b ((v.length : Nat) : Int) (by omega)).mono ?_)
      rintro e w87 ⟨rfl, hB86⟩
      have S88 := S64.call hB86
      refine ⟨_, rfl, trivial, ?_⟩
      refine T_re (v' := .int .i64 ((y : Nat) : Int)) (congrArg (Value.int .i64) hyv) ?_
      refine T_nil ?_
      refine TT_fork rfl rfl ?_ ?_
      · refine T_loadS 3 2 S88 rfl rfl rfl rfl rfl rfl rfl rfl rfl rfl ?_
        refine T_nil ?_
        refine TT_step rfl ?_
        refine T_callS rfl rfl g_aumbry_aumbrykeep_Within rfl rfl rfl rfl ((withinN_ok S88.le b (32 : Int) (by omega)).mono ?_)
        rintro e w90 ⟨rfl, hB89⟩
        have S91 := S88.call hB89
        refine ⟨_, rfl, trivial, ?_⟩
        refine T_re (v' := .int .i64 ((c : Nat) : Int)) (congrArg (Value.int .i64) hc32) ?_
        refine T_nil ?_
        refine TT_step rfl ?_
        obtain ⟨g92, rfl⟩ := S91.rowAt 1 rfl (by omega)
        refine T_idxm (y * 32) rfl rfl rfl rfl rfl rfl rfl rfl (by omega) (by show 0 + Int.toNat _ * 32 = _; omega) ?_
        refine T_nil ?_
        refine TT_step rfl ?_
        refine T_idxAm (y * 32 + c) rfl rfl rfl rfl rfl rfl rfl rfl (by omega) (by show _ + Int.toNat _ * 1 = _; omega) ?_
        refine T_nil ?_
        refine TT_step rfl ?_
        refine T_load rfl rfl rfl rfl rfl rfl rfl (S91.rowCell 1 rfl (hcells_at1 h1.1 (by omega) (by omega))) ?_
        refine T_nil ?_
        refine TT_step rfl ?_
        refine T_pev rfl rfl rfl rfl ?_
        refine T_re (v' := bV ((v.getD y []).getD c 0 ^^^ 1)) (congrArg (Value.int .u8) (xorb1 _)) ?_
        refine T_nil ?_
        refine TT_step rfl ?_
        refine T_idxm (y * 32) rfl rfl rfl rfl rfl rfl rfl rfl (by omega) (by show 0 + Int.toNat _ * 32 = _; omega) ?_
        refine T_nil ?_
        refine TT_step rfl ?_
        refine T_idxAm (y * 32 + c) rfl rfl rfl rfl rfl rfl rfl rfl (by omega) (by show _ + Int.toNat _ * 1 = _; omega) ?_
        refine T_nil ?_
        refine TT_step rfl ?_
        refine T_storeRow 1 (hcells (v.set y ((v.getD y []).set c ((v.getD y []).getD c 0 ^^^ 1)))) S91 (fun _ _ => trivial) rfl rfl rfl rfl rfl rfl rfl rfl rfl (by show _ + 1 ≤ _ * 32; omega) one_bV1 (hcells_set1 h1.1 (by omega) (by omega)) fun w93 S94 => ?_
        refine T_nil ?_
        refine TT_done ?_
        refine W_seq ?_
        refine W_region ?_
        refine T_loadFS 3 S94 rfl rfl rfl rfl rfl rfl rfl rfl rfl (by first | rfl | simp [hVs, *]) ?_
        refine T_storeFS 2 S94 (fun _ _ => trivial) rfl rfl rfl rfl rfl rfl rfl rfl rfl (by first | rfl | simp [hVs, *]) (by first | rfl | simp [hVs, *]) (one_all rfl) fun w95 S96 => ?_
        refine T_nil ?_
        refine W_ret ?_
        obtain ⟨G98, hl99, S97, r100⟩ := S96.stillRow 1 rfl
        have r101 := RdH.mk (set_all (h := (v.getD y []).set c ((v.getD y []).getD c 0 ^^^ 1)) h1.1 y (by rw [List.length_set]; exact len_h h1.1 y (by omega))) (by decide) r100
        obtain ⟨G103, hl104, S102, r105⟩ := S97.stillRow 0 rfl
        have r106 := RdH.mk h2.1 (by decide) r105
        refine ⟨_, ⟨_, _, _, rfl, rfl, run_loadVarA rfl rfl (by first | rfl | simp [hVs, *]) (S102.cells 0 rfl), rfl⟩, ?_⟩
        exact sp_end (if_neg (by omega)).symm (if_neg (by omega)).symm (Go.Au.spV_3 (by omega) hyv hc32) (Go.Au.spP_n (by omega) (by omega)) (r101.mono hl104) r106 S102.fin S102.below
      refine T_callS rfl rfl g_aumbry_aumbrykeep_Within rfl rfl rfl rfl ((withinN_ok S88.le b (32 : Int) (by omega)).mono ?_)
      rintro e w108 ⟨rfl, hB107⟩
      have S109 := S88.call hB107
      refine ⟨_, rfl, trivial, ?_⟩
      refine T_re (v' := .int .i64 ((c : Nat) : Int)) (congrArg (Value.int .i64) hc32) ?_
      refine T_nil ?_
      refine TT_step rfl ?_
      refine T_loadS 3 2 S109 rfl rfl rfl rfl rfl rfl rfl rfl rfl rfl ?_
      refine T_nil ?_
      refine TT_step rfl ?_
      obtain ⟨g110, rfl⟩ := S109.rowAt 1 rfl (by omega)
      refine T_idxm (y * 32) rfl rfl rfl rfl rfl rfl rfl rfl (by omega) (by show 0 + Int.toNat _ * 32 = _; omega) ?_
      refine T_nil ?_
      refine TT_step rfl ?_
      refine T_idxAm (y * 32 + c) rfl rfl rfl rfl rfl rfl rfl rfl (by omega) (by show _ + Int.toNat _ * 1 = _; omega) ?_
      refine T_nil ?_
      refine TT_step rfl ?_
      refine T_load rfl rfl rfl rfl rfl rfl rfl (S109.rowCell 1 rfl (hcells_at1 h1.1 (by omega) (by omega))) ?_
      refine T_nil ?_
      refine TT_step rfl ?_
      refine T_pev rfl rfl rfl rfl ?_
      refine T_re (v' := bV ((v.getD y []).getD c 0 ^^^ 1)) (congrArg (Value.int .u8) (xorb1 _)) ?_
      refine T_nil ?_
      refine TT_step rfl ?_
      refine T_idxm (y * 32) rfl rfl rfl rfl rfl rfl rfl rfl (by omega) (by show 0 + Int.toNat _ * 32 = _; omega) ?_
      refine T_nil ?_
      refine TT_step rfl ?_
      refine T_idxAm (y * 32 + c) rfl rfl rfl rfl rfl rfl rfl rfl (by omega) (by show _ + Int.toNat _ * 1 = _; omega) ?_
      refine T_nil ?_
      refine TT_step rfl ?_
      refine T_storeRow 1 (hcells (v.set y ((v.getD y []).set c ((v.getD y []).getD c 0 ^^^ 1)))) S109 (fun _ _ => trivial) rfl rfl rfl rfl rfl rfl rfl rfl rfl (by show _ + 1 ≤ _ * 32; omega) one_bV1 (hcells_set1 h1.1 (by omega) (by omega)) fun w111 S112 => ?_
      refine T_nil ?_
      refine TT_done ?_
      refine W_seq ?_
      refine W_region ?_
      refine T_loadFS 3 S112 rfl rfl rfl rfl rfl rfl rfl rfl rfl (by first | rfl | simp [hVs, *]) ?_
      refine T_storeFS 2 S112 (fun _ _ => trivial) rfl rfl rfl rfl rfl rfl rfl rfl rfl (by first | rfl | simp [hVs, *]) (by first | rfl | simp [hVs, *]) (one_all rfl) fun w113 S114 => ?_
      refine T_nil ?_
      refine W_ret ?_
      obtain ⟨G116, hl117, S115, r118⟩ := S114.stillRow 1 rfl
      have r119 := RdH.mk (set_all (h := (v.getD y []).set c ((v.getD y []).getD c 0 ^^^ 1)) h1.1 y (by rw [List.length_set]; exact len_h h1.1 y (by omega))) (by decide) r118
      obtain ⟨G121, hl122, S120, r123⟩ := S115.stillRow 0 rfl
      have r124 := RdH.mk h2.1 (by decide) r123
      refine ⟨_, ⟨_, _, _, rfl, rfl, run_loadVarA rfl rfl (by first | rfl | simp [hVs, *]) (S120.cells 0 rfl), rfl⟩, ?_⟩
      exact sp_end (if_neg (by omega)).symm (if_neg (by omega)).symm (Go.Au.spV_3 (by omega) hyv hc32) (Go.Au.spP_n (by omega) (by omega)) (r119.mono hl122) r124 S120.fin S120.below
    refine W_seq ?_
    refine W_region ?_
    refine T_pev rfl rfl rfl rfl ?_
    refine T_pev rfl rfl rfl rfl ?_
    refine T_nil ?_
    refine W_cond_dec rfl (fun h125 => ?_) (fun h125 => ?_)
    · refine W_seq ?_
      refine W_region ?_
      refine T_fldm 3 rfl rfl rfl rfl rfl rfl (by decide) rfl rfl rfl ?_
      refine T_loadS 3 3 S30 rfl rfl rfl rfl rfl rfl rfl rfl rfl rfl ?_
      refine T_pev rfl rfl rfl rfl ?_
      refine T_pev rfl rfl rfl rfl ?_
      refine T_nil ?_
      refine W_cond_dec rfl (fun h126 => ?_) (fun h126 => ?_)
      · have hq1y := Int.emod_nonneg b (show ((p.length : Nat) : Int) ≠ 0 by omega)
        have hq2y := Int.emod_lt_of_pos b (show 0 < ((p.length : Nat) : Int) by omega)
        obtain ⟨y, hyp⟩ : ∃ zz : Nat, b % ((p.length : Nat) : Int) = (zz : Int) := ⟨(b % ((p.length : Nat) : Int)).toNat, by omega⟩
        refine W_tree (plan Tryd.prog) (.step 0 (.step 2 (.step 3 (.step 4 (.step 5 (.fork 1 6 (.step 6 (.step 7 (.step 8 (.step 9 (.step 10 (.step 11 (.step 12 (.step 13 .done)))))))) (.step 1 (.step 7 (.step 8 (.step 9 (.step 10 (.step 11 (.step 12 (.step 13 .done)))))))))))))) rfl (by kernel_rfl) trivial ?_
        have S127 := S30.drew
        refine TT_step rfl ?_
        refine T_fldm 3 rfl rfl rfl rfl rfl rfl (by decide) rfl rfl rfl ?_
        refine T_nil ?_
        refine TT_step rfl ?_
        refine T_pev rfl rfl rfl rfl ?_
        refine T_nil ?_
        refine TT_step rfl ?_
        refine T_fldm 3 rfl rfl rfl rfl rfl rfl (by decide) rfl rfl rfl ?_
        refine T_nil ?_
        refine TT_step rfl ?_
        refine T_loadS 3 3 S127 rfl rfl rfl rfl rfl rfl rfl rfl rfl rfl ?_
        refine T_nil ?_
        refine TT_step rfl ?_
        refine T_pev rfl rfl rfl rfl ?_
        refine T_nil ?_
        refine TT_fork rfl rfl ?_ ?_
        · refine T_loadS 3 3 S127 rfl rfl rfl rfl rfl rfl rfl rfl rfl rfl ?_
          refine T_nil ?_
          refine TT_step rfl ?_
          refine T_callS rfl rfl g_aumbry_aumbrykeep_Within rfl rfl rfl rfl ((withinN_ok S127.le b ((p.length : Nat) : Int) (by omega)).mono ?_)
          rintro e w129 ⟨rfl, hB128⟩
          have S130 := S127.call hB128
          refine ⟨_, rfl, trivial, ?_⟩
          refine T_re (v' := .int .i64 ((y : Nat) : Int)) (congrArg (Value.int .i64) hyp) ?_
          refine T_nil ?_
          refine TT_step rfl ?_
          obtain ⟨g131, rfl⟩ := S130.rowAt 0 rfl (by omega)
          refine T_idxm (y * 32) rfl rfl rfl rfl rfl rfl rfl rfl (by omega) (by show 0 + Int.toNat _ * 32 = _; omega) ?_
          refine T_nil ?_
          refine TT_step rfl ?_
          refine T_idxAm (y * 32 + 3) rfl rfl rfl rfl rfl rfl rfl rfl (by omega) (by show _ + Int.toNat _ * 1 = _; omega) ?_
          refine T_nil ?_
          refine TT_step rfl ?_
          refine T_load rfl rfl rfl rfl rfl rfl rfl (S130.rowCell 0 rfl (hcells_at1 h2.1 (by omega) (by omega))) ?_
          refine T_nil ?_
          refine TT_step rfl ?_
          refine T_pev rfl rfl rfl rfl ?_
          refine T_re (v' := bV ((p.getD y []).getD 3 0 ^^^ 8)) (congrArg (Value.int .u8) (xorb8 _)) ?_
          refine T_nil ?_
          refine TT_step rfl ?_
          refine T_idxm (y * 32) rfl rfl rfl rfl rfl rfl rfl rfl (by omega) (by show 0 + Int.toNat _ * 32 = _; omega) ?_
          refine T_nil ?_
          refine TT_step rfl ?_
          refine T_idxAm (y * 32 + 3) rfl rfl rfl rfl rfl rfl rfl rfl (by omega) (by show _ + Int.toNat _ * 1 = _; omega) ?_
          refine T_nil ?_
          refine TT_step rfl ?_
          refine T_storeRow 0 (hcells (p.set y ((p.getD y []).set 3 ((p.getD y []).getD 3 0 ^^^ 8)))) S130 (fun _ _ => trivial) rfl rfl rfl rfl rfl rfl rfl rfl rfl (by show _ + 1 ≤ _ * 32; omega) one_bV1 (hcells_set1 h2.1 (by omega) (by omega)) fun w132 S133 => ?_
          refine T_nil ?_
          refine TT_done ?_
          refine W_seq ?_
          refine W_region ?_
          refine T_loadFS 3 S133 rfl rfl rfl rfl rfl rfl rfl rfl rfl (by first | rfl | simp [hVs, *]) ?_
          refine T_storeFS 2 S133 (fun _ _ => trivial) rfl rfl rfl rfl rfl rfl rfl rfl rfl (by first | rfl | simp [hVs, *]) (by first | rfl | simp [hVs, *]) (one_all rfl) fun w134 S135 => ?_
          refine T_nil ?_
          refine W_ret ?_
          obtain ⟨G137, hl138, S136, r139⟩ := S135.stillRow 1 rfl
          have r140 := RdH.mk h1.1 (by decide) r139
          obtain ⟨G142, hl143, S141, r144⟩ := S136.stillRow 0 rfl
          have r145 := RdH.mk (set_all (h := (p.getD y []).set 3 ((p.getD y []).getD 3 0 ^^^ 8)) h2.1 y (by rw [List.length_set]; exact len_h h2.1 y (by omega))) (by decide) r144
          refine ⟨_, ⟨_, _, _, rfl, rfl, run_loadVarA rfl rfl (by first | rfl | simp [hVs, *]) (S141.cells 0 rfl), rfl⟩, ?_⟩
          exact sp_end (if_neg (by omega)).symm (if_neg (by omega)).symm (Go.Au.spV_n (by omega) (by omega)) (Go.Au.spP_4 (by omega) (by omega) hyp) (r140.mono hl143) r145 S141.fin S141.below
        refine T_callS rfl rfl g_aumbry_aumbrykeep_Within rfl rfl rfl rfl ((withinN_ok S127.le b ((p.length : Nat) : Int) (by omega)).mono ?_)
        rintro e w147 ⟨rfl, hB146⟩
        have S148 := S127.call hB146
        refine ⟨_, rfl, trivial, ?_⟩
        refine T_re (v' := .int .i64 ((y : Nat) : Int)) (congrArg (Value.int .i64) hyp) ?_
        refine T_nil ?_
        refine TT_step rfl ?_
        refine T_loadS 3 3 S148 rfl rfl rfl rfl rfl rfl rfl rfl rfl rfl ?_
        refine T_nil ?_
        refine TT_step rfl ?_
        obtain ⟨g149, rfl⟩ := S148.rowAt 0 rfl (by omega)
        refine T_idxm (y * 32) rfl rfl rfl rfl rfl rfl rfl rfl (by omega) (by show 0 + Int.toNat _ * 32 = _; omega) ?_
        refine T_nil ?_
        refine TT_step rfl ?_
        refine T_idxAm (y * 32 + 3) rfl rfl rfl rfl rfl rfl rfl rfl (by omega) (by show _ + Int.toNat _ * 1 = _; omega) ?_
        refine T_nil ?_
        refine TT_step rfl ?_
        refine T_load rfl rfl rfl rfl rfl rfl rfl (S148.rowCell 0 rfl (hcells_at1 h2.1 (by omega) (by omega))) ?_
        refine T_nil ?_
        refine TT_step rfl ?_
        refine T_pev rfl rfl rfl rfl ?_
        refine T_re (v' := bV ((p.getD y []).getD 3 0 ^^^ 8)) (congrArg (Value.int .u8) (xorb8 _)) ?_
        refine T_nil ?_
        refine TT_step rfl ?_
        refine T_idxm (y * 32) rfl rfl rfl rfl rfl rfl rfl rfl (by omega) (by show 0 + Int.toNat _ * 32 = _; omega) ?_
        refine T_nil ?_
        refine TT_step rfl ?_
        refine T_idxAm (y * 32 + 3) rfl rfl rfl rfl rfl rfl rfl rfl (by omega) (by show _ + Int.toNat _ * 1 = _; omega) ?_
        refine T_nil ?_
        refine TT_step rfl ?_
        refine T_storeRow 0 (hcells (p.set y ((p.getD y []).set 3 ((p.getD y []).getD 3 0 ^^^ 8)))) S148 (fun _ _ => trivial) rfl rfl rfl rfl rfl rfl rfl rfl rfl (by show _ + 1 ≤ _ * 32; omega) one_bV1 (hcells_set1 h2.1 (by omega) (by omega)) fun w150 S151 => ?_
        refine T_nil ?_
        refine TT_done ?_
        refine W_seq ?_
        refine W_region ?_
        refine T_loadFS 3 S151 rfl rfl rfl rfl rfl rfl rfl rfl rfl (by first | rfl | simp [hVs, *]) ?_
        refine T_storeFS 2 S151 (fun _ _ => trivial) rfl rfl rfl rfl rfl rfl rfl rfl rfl (by first | rfl | simp [hVs, *]) (by first | rfl | simp [hVs, *]) (one_all rfl) fun w152 S153 => ?_
        refine T_nil ?_
        refine W_ret ?_
        obtain ⟨G155, hl156, S154, r157⟩ := S153.stillRow 1 rfl
        have r158 := RdH.mk h1.1 (by decide) r157
        obtain ⟨G160, hl161, S159, r162⟩ := S154.stillRow 0 rfl
        have r163 := RdH.mk (set_all (h := (p.getD y []).set 3 ((p.getD y []).getD 3 0 ^^^ 8)) h2.1 y (by rw [List.length_set]; exact len_h h2.1 y (by omega))) (by decide) r162
        refine ⟨_, ⟨_, _, _, rfl, rfl, run_loadVarA rfl rfl (by first | rfl | simp [hVs, *]) (S159.cells 0 rfl), rfl⟩, ?_⟩
        exact sp_end (if_neg (by omega)).symm (if_neg (by omega)).symm (Go.Au.spV_n (by omega) (by omega)) (Go.Au.spP_4 (by omega) (by omega) hyp) (r158.mono hl161) r163 S159.fin S159.below
      refine W_skip ?_
      refine W_seq ?_
      refine W_region ?_
      refine T_loadFS 3 S30 rfl rfl rfl rfl rfl rfl rfl rfl rfl (by first | rfl | simp [hVs, *]) ?_
      refine T_storeFS 2 S30 (fun _ _ => trivial) rfl rfl rfl rfl rfl rfl rfl rfl rfl (by first | rfl | simp [hVs, *]) (by first | rfl | simp [hVs, *]) (one_all rfl) fun w164 S165 => ?_
      refine T_nil ?_
      refine W_ret ?_
      obtain ⟨G167, hl168, S166, r169⟩ := S165.stillRow 1 rfl
      have r170 := RdH.mk h1.1 (by decide) r169
      obtain ⟨G172, hl173, S171, r174⟩ := S166.stillRow 0 rfl
      have r175 := RdH.mk h2.1 (by decide) r174
      refine ⟨_, ⟨_, _, _, rfl, rfl, run_loadVarA rfl rfl (by first | rfl | simp [hVs, *]) (S171.cells 0 rfl), rfl⟩, ?_⟩
      exact sp_end (if_neg (by omega)).symm (if_neg (by omega)).symm (Go.Au.spV_n (by omega) (by omega)) (Go.Au.spP_n (by omega) (by omega)) (r170.mono hl173) r175 S171.fin S171.below
    refine W_seq ?_
    refine W_region ?_
    refine T_pev rfl rfl rfl rfl ?_
    refine T_pev rfl rfl rfl rfl ?_
    refine T_nil ?_
    refine W_cond_dec rfl (fun h176 => ?_) (fun h176 => ?_)
    · refine W_region ?_
      refine T_fldm 2 rfl rfl rfl rfl rfl rfl (by decide) rfl rfl rfl ?_
      refine T_loadS 3 2 S30 rfl rfl rfl rfl rfl rfl rfl rfl rfl rfl ?_
      refine T_fldm 2 rfl rfl rfl rfl rfl rfl (by decide) rfl rfl rfl ?_
      refine T_loadS 3 2 S30 rfl rfl rfl rfl rfl rfl rfl rfl rfl rfl ?_
      refine T_pev rfl rfl rfl rfl ?_
      refine T_ari rfl rfl rfl rfl (by omega) ?_
      refine T_re (v' := .int .i64 ((66 : Nat) : Int)) (congrArg (Value.int .i64) (by omega)) ?_
      obtain ⟨G178, hl179, S177, r180⟩ := S30.stillRow 1 rfl
      have r181 := RdH.mk h1.1 (by decide) r180
      refine T_sliceR 0 66 r181.2 rfl rfl rfl rfl rfl rfl rfl rfl rfl rfl (bound_of (by omega)) rfl (by omega) (by omega) fun a182 c183 hc184 r185 => ?_
      have r186 := RdH.cut (lo := 0) r181.1 (by first | (simp only [List.length_take, List.length_drop]; omega) | (have hcl := List.length_take (i := (66 - 0)) (l := v.drop 0); rw [List.length_drop] at hcl; omega)) r185
      refine T_fldm 2 rfl rfl rfl rfl rfl rfl (by decide) rfl rfl rfl ?_
      refine T_store1S 2 2 S177 (fun _ _ => trivial) rfl rfl rfl rfl rfl rfl rfl rfl rfl rfl rfl rfl (show 2 < 4 by decide) fun w187 S188 => ?_
      have hE189 : (.agg #[.int .i64 sh, .int .i64 sl, .slice a8 v.length c9, .slice a15 p.length c16] : Value).cells.setIfInBounds 2 (.slice a182 (66 - 0) c183) = (.agg #[.int .i64 sh, .int .i64 sl, .slice a182 (66 - 0) c183, .slice a15 p.length c16] : Value).cells := rfl
      rw [hE189] at S188
      refine T_nil ?_
      refine W_seq ?_
      refine W_region ?_
      refine T_loadFS 2 S188 rfl rfl rfl rfl rfl rfl rfl rfl rfl (by first | rfl | simp [hVs, *]) ?_
      refine T_storeFS 1 S188 (fun _ _ => trivial) rfl rfl rfl rfl rfl rfl rfl rfl rfl (by first | rfl | simp [hVs, *]) (by first | rfl | simp [hVs, *]) (one_all rfl) fun w190 S191 => ?_
      refine T_nil ?_
      refine W_ret ?_
      obtain ⟨G193, hl194, S192, r195⟩ := S191.stillRow 0 rfl
      have r196 := RdH.mk h2.1 (by decide) r195
      refine ⟨_, ⟨_, _, _, rfl, rfl, run_loadVarA rfl rfl (by first | rfl | simp [hVs, *]) (S192.cells 0 rfl), rfl⟩, ?_⟩
      exact sp_end (if_neg (by omega)).symm (if_neg (by omega)).symm (sp5 (by omega) h67) (Go.Au.spP_n (by omega) (by omega)) (r186.mono hl194) r196 S192.fin S192.below
    refine W_seq ?_
    refine W_region ?_
    refine T_pev rfl rfl rfl rfl ?_
    refine T_pev rfl rfl rfl rfl ?_
    refine T_nil ?_
    refine W_cond_dec rfl (fun h197 => ?_) (fun h197 => ?_)
    · refine W_region ?_
      refine T_fldm 3 rfl rfl rfl rfl rfl rfl (by decide) rfl rfl rfl ?_
      refine T_loadS 3 3 S30 rfl rfl rfl rfl rfl rfl rfl rfl rfl rfl ?_
      refine T_buildA (cells := (hV (List.replicate 32 0)).cells) rfl rfl rfl rfl rfl rfl rfl rfl rfl rfl ?_
      refine T_litS (hcells [(List.replicate 32 0)]) rfl rfl rfl rfl rfl rfl rfl rfl rfl rfl rfl rfl rfl (one_h List.length_replicate) (by simp [hcells, hV, Value.cells]) fun a198 w199 hB200 ho201 => ?_
      have S202 := S30.own hB200 ho201
      refine ⟨trivial, ?_⟩
      refine T_appendS 1 ((p ++ [(List.replicate 32 0)]).length) (hcells (p ++ [(List.replicate 32 0)])) S202 (fun _ _ => trivial) rfl rfl rfl rfl rfl rfl rfl rfl rfl rfl rfl rfl rfl rfl (S202.rd 0 rfl) (one_hcells _) (by first | rfl | (simp; done) | (simp; omega) | omega) (by simp [hcells_append, hcells]) (by unfold maxLen; simp only [List.length_append, List.length_cons, List.length_nil]; omega) (by show _ * 32 ≤ _; simp only [List.length_append, List.length_cons, List.length_nil]; omega) fun a203 c204 w205 hc206 S207 => ?_
      refine T_fldm 3 rfl rfl rfl rfl rfl rfl (by decide) rfl rfl rfl ?_
      refine T_store1S 4 3 S207 (fun _ _ => trivial) rfl rfl rfl rfl rfl rfl rfl rfl rfl rfl rfl rfl (show 3 < 4 by decide) fun w208 S209 => ?_
      have hE210 : (.agg #[.int .i64 sh, .int .i64 sl, .slice a8 v.length c9, .slice a15 p.length c16] : Value).cells.setIfInBounds 3 (.slice a203 ((p ++ [(List.replicate 32 0)]).length) c204) = (.agg #[.int .i64 sh, .int .i64 sl, .slice a8 v.length c9, .slice a203 ((p ++ [(List.replicate 32 0)]).length) c204] : Value).cells := rfl
      rw [hE210] at S209
      refine T_nil ?_
      refine W_seq ?_
      refine W_region ?_
      refine T_loadFS 4 S209 rfl rfl rfl rfl rfl rfl rfl rfl rfl (by first | rfl | simp [hVs, *]) ?_
      refine T_storeFS 3 S209 (fun _ _ => trivial) rfl rfl rfl rfl rfl rfl rfl rfl rfl (by first | rfl | simp [hVs, *]) (by first | rfl | simp [hVs, *]) (one_all rfl) fun w211 S212 => ?_
      refine T_nil ?_
      refine W_ret ?_
      obtain ⟨G214, hl215, S213, r216⟩ := S212.stillRow 2 rfl
      have r217 := RdH.mk h1.1 (by decide) r216
      obtain ⟨G219, hl220, S218, r221⟩ := S213.stillRow 1 rfl
      have r222 := RdH.mk (all_app h2.1 (all_h1 List.length_replicate)) (by decide) r221
      refine ⟨_, ⟨_, _, _, rfl, rfl, run_loadVarA rfl rfl (by first | rfl | simp [hVs, *]) (S218.cells 1 rfl), rfl⟩, ?_⟩
      exact sp_end (if_neg (by omega)).symm (if_neg (by omega)).symm (Go.Au.spV_n (by omega) (by omega)) (Go.Au.spP_6 (by omega)) (r217.mono hl220) r222 S218.fin S218.below
    refine W_skip ?_
    refine W_seq ?_
    refine W_region ?_
    refine T_loadFS 3 S30 rfl rfl rfl rfl rfl rfl rfl rfl rfl (by first | rfl | simp [hVs, *]) ?_
    refine T_storeFS 2 S30 (fun _ _ => trivial) rfl rfl rfl rfl rfl rfl rfl rfl rfl (by first | rfl | simp [hVs, *]) (by first | rfl | simp [hVs, *]) (one_all rfl) fun w223 S224 => ?_
    refine T_nil ?_
    refine W_ret ?_
    obtain ⟨G226, hl227, S225, r228⟩ := S224.stillRow 1 rfl
    have r229 := RdH.mk h1.1 (by decide) r228
    obtain ⟨G231, hl232, S230, r233⟩ := S225.stillRow 0 rfl
    have r234 := RdH.mk h2.1 (by decide) r233
    refine ⟨_, ⟨_, _, _, rfl, rfl, run_loadVarA rfl rfl (by first | rfl | simp [hVs, *]) (S230.cells 0 rfl), rfl⟩, ?_⟩
    exact sp_end (if_neg (by omega)).symm (if_neg (by omega)).symm (Go.Au.spV_n (by omega) (by omega)) (Go.Au.spP_n (by omega) (by omega)) (r229.mono hl232) r234 S230.fin S230.below
  refine T_loadS 1 3 S7 rfl rfl rfl rfl rfl rfl rfl rfl rfl rfl ?_
  refine T_nil ?_
  refine TT_step rfl ?_
  refine T_callS rfl rfl g_aumbry_aumbrykeep_Copy_aumbry_api_Hash rfl rfl rfl rfl ((copyH_ok S7.le h1 (by omega)).mono ?_)
  rintro e w240 ⟨a235, c236, hc237, rfl, ho238, hB239⟩
  have S241 := S7.own hB239 ho238
  refine ⟨_, rfl, trivial, ?_⟩
  refine T_nil ?_
  refine TT_step rfl ?_
  refine T_callS rfl rfl g_aumbry_aumbrykeep_Copy_aumbry_api_Hash rfl rfl rfl rfl ((copyH_ok S241.le h2 (by omega)).mono ?_)
  rintro e w247 ⟨a242, c243, hc244, rfl, ho245, hB246⟩
  have S248 := S241.own hB246 ho245
  refine ⟨_, rfl, trivial, ?_⟩
  refine T_nil ?_
  refine TT_step rfl ?_
  refine T_fldm 2 rfl rfl rfl rfl rfl rfl (by decide) rfl rfl rfl ?_
  refine T_nil ?_
  refine TT_step rfl ?_
  refine T_store1S 3 2 S248 (fun _ _ => trivial) rfl rfl rfl rfl rfl rfl rfl rfl rfl rfl rfl rfl (show 2 < 4 by decide) fun w249 S250 => ?_
  have hE251 : (.agg #[.int .i64 sh, .int .i64 sl, .slice a1 v.length c1, .slice a2 p.length c2] : Value).cells.setIfInBounds 2 (.slice a235 v.length c236) = (.agg #[.int .i64 sh, .int .i64 sl, .slice a235 v.length c236, .slice a2 p.length c2] : Value).cells := rfl
  rw [hE251] at S250
  refine T_nil ?_
  refine TT_step rfl ?_
  refine T_fldm 3 rfl rfl rfl rfl rfl rfl (by decide) rfl rfl rfl ?_
  refine T_nil ?_
  refine TT_step rfl ?_
  refine T_store1S 3 3 S250 (fun _ _ => trivial) rfl rfl rfl rfl rfl rfl rfl rfl rfl rfl rfl rfl (show 3 < 4 by decide) fun w252 S253 => ?_
  have hE254 : (.agg #[.int .i64 sh, .int .i64 sl, .slice a235 v.length c236, .slice a2 p.length c2] : Value).cells.setIfInBounds 3 (.slice a242 p.length c243) = (.agg #[.int .i64 sh, .int .i64 sl, .slice a235 v.length c236, .slice a242 p.length c243] : Value).cells := rfl
  rw [hE254] at S253
  refine T_nil ?_
  refine TT_done ?_
  refine W_seq ?_
  refine W_seq ?_
  refine W_region ?_
  refine T_pev rfl rfl rfl rfl ?_
  refine T_callS rfl rfl g_aumbry_aumbrykeep_Within rfl rfl rfl rfl ((withinN_ok S253.le w0 (8 : Int) (by omega)).mono ?_)
  rintro e w256 ⟨rfl, hB255⟩
  have S257 := S253.call hB255
  refine ⟨_, rfl, trivial, ?_⟩
  refine T_nil ?_
  refine W_block ?_
  refine W_seq ?_
  refine W_region ?_
  refine T_pev rfl rfl rfl rfl ?_
  refine T_pev rfl rfl rfl rfl ?_
  refine T_nil ?_
  refine W_cond_dec rfl (fun h258 => ?_) (fun h258 => ?_)
  · refine W_region ?_
    refine T_fldm 0 rfl rfl rfl rfl rfl rfl (by decide) rfl rfl rfl ?_
    refine T_loadS 3 0 S257 rfl rfl rfl rfl rfl rfl rfl rfl rfl rfl ?_
    refine T_pev rfl rfl rfl rfl ?_
    refine T_pev rfl rfl rfl rfl ?_
    refine T_re (v' := .int .i64 (b % 2)) (congrArg (Value.int .i64) (and1 hb2)) ?_
    refine T_ari rfl rfl rfl rfl (by omega) ?_
    refine T_ari rfl rfl rfl rfl (by omega) ?_
    refine T_ari rfl rfl rfl rfl (by omega) ?_
    refine T_fldm 0 rfl rfl rfl rfl rfl rfl (by decide) rfl rfl rfl ?_
    refine T_store1S 3 0 S257 (fun _ _ => trivial) rfl rfl rfl rfl rfl rfl rfl rfl rfl rfl rfl rfl (show 0 < 4 by decide) fun w259 S260 => ?_
    have hE261 : (.agg #[.int .i64 sh, .int .i64 sl, .slice a235 v.length c236, .slice a242 p.length c243] : Value).cells.setIfInBounds 0 (.int .i64 (sh + ((1 : Int) - ((2 : Int) * (b % 2))))) = (.agg #[.int .i64 (sh + ((1 : Int) - ((2 : Int) * (b % 2)))), .int .i64 sl, .slice a235 v.length c236, .slice a242 p.length c243] : Value).cells := rfl
    rw [hE261] at S260
    refine T_nil ?_
    refine W_seq ?_
    refine W_region ?_
    refine T_loadFS 3 S260 rfl rfl rfl rfl rfl rfl rfl rfl rfl (by first | rfl | simp [hVs, *]) ?_
    refine T_storeFS 2 S260 (fun _ _ => trivial) rfl rfl rfl rfl rfl rfl rfl rfl rfl (by first | rfl | simp [hVs, *]) (by first | rfl | simp [hVs, *]) (one_all rfl) fun w262 S263 => ?_
    refine T_nil ?_
    refine W_ret ?_
    obtain ⟨G265, hl266, S264, r267⟩ := S263.stillRow 1 rfl
    have r268 := RdH.mk h1.1 (by decide) r267
    obtain ⟨G270, hl271, S269, r272⟩ := S264.stillRow 0 rfl
    have r273 := RdH.mk h2.1 (by decide) r272
    refine ⟨_, ⟨_, _, _, rfl, rfl, run_loadVarA rfl rfl (by first | rfl | simp [hVs, *]) (S269.cells 0 rfl), rfl⟩, ?_⟩
    exact sp_end (if_pos h258).symm (if_neg (by omega)).symm (Go.Au.spV_n (by omega) (by omega)) (Go.Au.spP_n (by omega) (by omega)) (r268.mono hl271) r273 S269.fin S269.below
  refine W_seq ?_
  refine W_region ?_
  refine T_pev rfl rfl rfl rfl ?_
  refine T_pev rfl rfl rfl rfl ?_
  refine T_nil ?_
  refine W_cond_dec rfl (fun h274 => ?_) (fun h274 => ?_)
  · refine W_region ?_
    refine T_fldm 1 rfl rfl rfl rfl rfl rfl (by decide) rfl rfl rfl ?_
    refine T_loadS 3 1 S257 rfl rfl rfl rfl rfl rfl rfl rfl rfl rfl ?_
    refine T_pev rfl rfl rfl rfl ?_
    refine T_pev rfl rfl rfl rfl ?_
    refine T_re (v' := .int .i64 (b % 2)) (congrArg (Value.int .i64) (and1 hb2)) ?_
    refine T_ari rfl rfl rfl rfl (by omega) ?_
    refine T_ari rfl rfl rfl rfl (by omega) ?_
    refine T_ari rfl rfl rfl rfl (by omega) ?_
    refine T_fldm 1 rfl rfl rfl rfl rfl rfl (by decide) rfl rfl rfl ?_
    refine T_store1S 3 1 S257 (fun _ _ => trivial) rfl rfl rfl rfl rfl rfl rfl rfl rfl rfl rfl rfl (show 1 < 4 by decide) fun w275 S276 => ?_
    have hE277 : (.agg #[.int .i64 sh, .int .i64 sl, .slice a235 v.length c236, .slice a242 p.length c243] : Value).cells.setIfInBounds 1 (.int .i64 (sl + ((1 : Int) - ((2 : Int) * (b % 2))))) = (.agg #[.int .i64 sh, .int .i64 (sl + ((1 : Int) - ((2 : Int) * (b % 2)))), .slice a235 v.length c236, .slice a242 p.length c243] : Value).cells := rfl
    rw [hE277] at S276
    refine T_nil ?_
    refine W_seq ?_
    refine W_region ?_
    refine T_loadFS 3 S276 rfl rfl rfl rfl rfl rfl rfl rfl rfl (by first | rfl | simp [hVs, *]) ?_
    refine T_storeFS 2 S276 (fun _ _ => trivial) rfl rfl rfl rfl rfl rfl rfl rfl rfl (by first | rfl | simp [hVs, *]) (by first | rfl | simp [hVs, *]) (one_all rfl) fun w278 S279 => ?_
    refine T_nil ?_
    refine W_ret ?_
    obtain ⟨G281, hl282, S280, r283⟩ := S279.stillRow 1 rfl
    have r284 := RdH.mk h1.1 (by decide) r283
    obtain ⟨G286, hl287, S285, r288⟩ := S280.stillRow 0 rfl
    have r289 := RdH.mk h2.1 (by decide) r288
    refine ⟨_, ⟨_, _, _, rfl, rfl, run_loadVarA rfl rfl (by first | rfl | simp [hVs, *]) (S285.cells 0 rfl), rfl⟩, ?_⟩
    exact sp_end (if_neg (by omega)).symm (if_pos h274).symm (Go.Au.spV_n (by omega) (by omega)) (Go.Au.spP_n (by omega) (by omega)) (r284.mono hl287) r289 S285.fin S285.below
  refine W_seq ?_
  refine W_region ?_
  refine T_pev rfl rfl rfl rfl ?_
  refine T_pev rfl rfl rfl rfl ?_
  refine T_nil ?_
  refine W_cond_dec rfl (fun h290 => ?_) (fun h290 => ?_)
  · have hq1y := Int.emod_nonneg b (show ((v.length : Nat) : Int) ≠ 0 by omega)
    have hq2y := Int.emod_lt_of_pos b (show 0 < ((v.length : Nat) : Int) by omega)
    obtain ⟨y, hyv⟩ : ∃ zz : Nat, b % ((v.length : Nat) : Int) = (zz : Int) := ⟨(b % ((v.length : Nat) : Int)).toNat, by omega⟩
    obtain ⟨c, hc32⟩ : ∃ c : Nat, b % 32 = (c : Int) := ⟨(b % 32).toNat, by omega⟩
    refine W_tree (plan Tryd.prog) (.step 0 (.step 2 (.step 3 (.step 4 (.step 5 (.step 7 (.fork 1 6 (.step 6 (.step 8 (.step 9 (.step 10 (.step 11 (.step 12 (.step 13 (.step 14 (.step 15 .done))))))))) (.fork 1 8 (.step 8 (.step 9 (.step 10 (.step 11 (.step 12 (.step 13 (.step 14 (.step 15 .done)))))))) (.step 1 (.step 9 (.step 10 (.step 11 (.step 12 (.step 13 (.step 14 (.step 15 .done)))))))))))))))) rfl (by kernel_rfl) trivial ?_
    have S291 := S257.drew
    refine TT_step rfl ?_
    refine T_fldm 2 rfl rfl rfl rfl rfl rfl (by decide) rfl rfl rfl ?_
    refine T_nil ?_
    refine TT_step rfl ?_
    refine T_pev rfl rfl rfl rfl ?_
    refine T_nil ?_
    refine TT_step rfl ?_
    refine T_fldm 2 rfl rfl rfl rfl rfl rfl (by decide) rfl rfl rfl ?_
    refine T_nil ?_
    refine TT_step rfl ?_
    refine T_loadS 3 2 S291 rfl rfl rfl rfl rfl rfl rfl rfl rfl rfl ?_
    refine T_nil ?_
    refine TT_step rfl ?_
    refine T_pev rfl rfl rfl rfl ?_
    refine T_nil ?_
    refine TT_step rfl ?_
    refine T_pev rfl rfl rfl rfl ?_
    refine T_nil ?_
    refine TT_fork rfl rfl ?_ ?_
    · refine T_loadS 3 2 S291 rfl rfl rfl rfl rfl rfl rfl rfl rfl rfl ?_
      refine T_nil ?_
      refine TT_step rfl ?_
      refine T_callS rfl rfl g_aumbry_aumbrykeep_Within rfl rfl rfl rfl ((withinN_ok S291.le b ((v.length : Nat) : Int) (by omega)).mono ?_)
      rintro e w293 ⟨rfl, hB292⟩
      have S294 := S291.call hB292
      refine ⟨_, rfl, trivial, ?_⟩
      refine T_re (v' := .int .i64 ((y : Nat) : Int)) (congrArg (Value.int .i64) hyv) ?_
      refine T_nil ?_
      refine TT_step rfl ?_
      refine T_callS rfl rfl g_aumbry_aumbrykeep_Within rfl rfl rfl rfl ((withinN_ok S294.le b (32 : Int) (by omega)).mono ?_)
      rintro e w296 ⟨rfl, hB295⟩
      have S297 := S294.call hB295
      refine ⟨_, rfl, trivial, ?_⟩
      refine T_re (v' := .int .i64 ((c : Nat) : Int)) (congrArg (Value.int .i64) hc32) ?_
      refine T_nil ?_
      refine TT_step rfl ?_
      obtain ⟨g298, rfl⟩ := S297.rowAt 1 rfl (by omega)
      refine T_idxm (y * 32) rfl rfl rfl rfl rfl rfl rfl rfl (by omega) (by show 0 + Int.toNat _ * 32 = _; omega) ?_
      refine T_nil ?_
      refine TT_step rfl ?_
      refine T_idxAm (y * 32 + c) rfl rfl rfl rfl rfl rfl rfl rfl (by omega) (by show _ + Int.toNat _ * 1 = _; omega) ?_
      refine T_nil ?_
      refine TT_step rfl ?_
      refine T_load rfl rfl rfl rfl rfl rfl rfl (S297.rowCell 1 rfl (hcells_at1 h1.1 (by omega) (by omega))) ?_
      refine T_nil ?_
      refine TT_step rfl ?_
      refine T_pev rfl rfl rfl rfl ?_
      refine T_re (v' := bV ((v.getD y []).getD c 0 ^^^ 1)) (congrArg (Value.int .u8) (xorb1 _)) ?_
      refine T_nil ?_
      refine TT_step rfl ?_
      refine T_idxm (y * 32) rfl rfl rfl rfl rfl rfl rfl rfl (by omega) (by show 0 + Int.toNat _ * 32 = _; omega) ?_
      refine T_nil ?_
      refine TT_step rfl ?_
      refine T_idxAm (y * 32 + c) rfl rfl rfl rfl rfl rfl rfl rfl (by omega) (by show _ + Int.toNat _ * 1 = _; omega) ?_
      refine T_nil ?_
      refine TT_step rfl ?_
      refine T_storeRow 1 (hcells (v.set y ((v.getD y []).set c ((v.getD y []).getD c 0 ^^^ 1)))) S297 (fun _ _ => trivial) rfl rfl rfl rfl rfl rfl rfl rfl rfl (by show _ + 1 ≤ _ * 32; omega) one_bV1 (hcells_set1 h1.1 (by omega) (by omega)) fun w299 S300 => ?_
      refine T_nil ?_
      refine TT_done ?_
      refine W_seq ?_
      refine W_region ?_
      refine T_loadFS 3 S300 rfl rfl rfl rfl rfl rfl rfl rfl rfl (by first | rfl | simp [hVs, *]) ?_
      refine T_storeFS 2 S300 (fun _ _ => trivial) rfl rfl rfl rfl rfl rfl rfl rfl rfl (by first | rfl | simp [hVs, *]) (by first | rfl | simp [hVs, *]) (one_all rfl) fun w301 S302 => ?_
      refine T_nil ?_
      refine W_ret ?_
      obtain ⟨G304, hl305, S303, r306⟩ := S302.stillRow 1 rfl
      have r307 := RdH.mk (set_all (h := (v.getD y []).set c ((v.getD y []).getD c 0 ^^^ 1)) h1.1 y (by rw [List.length_set]; exact len_h h1.1 y (by omega))) (by decide) r306
      obtain ⟨G309, hl310, S308, r311⟩ := S303.stillRow 0 rfl
      have r312 := RdH.mk h2.1 (by decide) r311
      refine ⟨_, ⟨_, _, _, rfl, rfl, run_loadVarA rfl rfl (by first | rfl | simp [hVs, *]) (S308.cells 0 rfl), rfl⟩, ?_⟩
      exact sp_end (if_neg (by omega)).symm (if_neg (by omega)).symm (Go.Au.spV_3 (by omega) hyv hc32) (Go.Au.spP_n (by omega) (by omega)) (r307.mono hl310) r312 S308.fin S308.below
    refine T_callS rfl rfl g_aumbry_aumbrykeep_Within rfl rfl rfl rfl ((withinN_ok S291.le b ((v.length : Nat) : Int) (by omega)).mono ?_)
    rintro e w314 ⟨rfl, hB313⟩
    have S315 := S291.call hB313
    refine ⟨_, rfl, trivial, ?_⟩
    refine T_re (v' := .int .i64 ((y : Nat) : Int)) (congrArg (Value.int .i64) hyv) ?_
    refine T_nil ?_
    refine TT_fork rfl rfl ?_ ?_
    · refine T_loadS 3 2 S315 rfl rfl rfl rfl rfl rfl rfl rfl rfl rfl ?_
      refine T_nil ?_
      refine TT_step rfl ?_
      refine T_callS rfl rfl g_aumbry_aumbrykeep_Within rfl rfl rfl rfl ((withinN_ok S315.le b (32 : Int) (by omega)).mono ?_)
      rintro e w317 ⟨rfl, hB316⟩
      have S318 := S315.call hB316
      refine ⟨_, rfl, trivial, ?_⟩
      refine T_re (v' := .int .i64 ((c : Nat) : Int)) (congrArg (Value.int .i64) hc32) ?_
      refine T_nil ?_
      refine TT_step rfl ?_
      obtain ⟨g319, rfl⟩ := S318.rowAt 1 rfl (by omega)
      refine T_idxm (y * 32) rfl rfl rfl rfl rfl rfl rfl rfl (by omega) (by show 0 + Int.toNat _ * 32 = _; omega) ?_
      refine T_nil ?_
      refine TT_step rfl ?_
      refine T_idxAm (y * 32 + c) rfl rfl rfl rfl rfl rfl rfl rfl (by omega) (by show _ + Int.toNat _ * 1 = _; omega) ?_
      refine T_nil ?_
      refine TT_step rfl ?_
      refine T_load rfl rfl rfl rfl rfl rfl rfl (S318.rowCell 1 rfl (hcells_at1 h1.1 (by omega) (by omega))) ?_
      refine T_nil ?_
      refine TT_step rfl ?_
      refine T_pev rfl rfl rfl rfl ?_
      refine T_re (v' := bV ((v.getD y []).getD c 0 ^^^ 1)) (congrArg (Value.int .u8) (xorb1 _)) ?_
      refine T_nil ?_
      refine TT_step rfl ?_
      refine T_idxm (y * 32) rfl rfl rfl rfl rfl rfl rfl rfl (by omega) (by show 0 + Int.toNat _ * 32 = _; omega) ?_
      refine T_nil ?_
      refine TT_step rfl ?_
      refine T_idxAm (y * 32 + c) rfl rfl rfl rfl rfl rfl rfl rfl (by omega) (by show _ + Int.toNat _ * 1 = _; omega) ?_
      refine T_nil ?_
      refine TT_step rfl ?_
      refine T_storeRow 1 (hcells (v.set y ((v.getD y []).set c ((v.getD y []).getD c 0 ^^^ 1)))) S318 (fun _ _ => trivial) rfl rfl rfl rfl rfl rfl rfl rfl rfl (by show _ + 1 ≤ _ * 32; omega) one_bV1 (hcells_set1 h1.1 (by omega) (by omega)) fun w320 S321 => ?_
      refine T_nil ?_
      refine TT_done ?_
      refine W_seq ?_
      refine W_region ?_
      refine T_loadFS 3 S321 rfl rfl rfl rfl rfl rfl rfl rfl rfl (by first | rfl | simp [hVs, *]) ?_
      refine T_storeFS 2 S321 (fun _ _ => trivial) rfl rfl rfl rfl rfl rfl rfl rfl rfl (by first | rfl | simp [hVs, *]) (by first | rfl | simp [hVs, *]) (one_all rfl) fun w322 S323 => ?_
      refine T_nil ?_
      refine W_ret ?_
      obtain ⟨G325, hl326, S324, r327⟩ := S323.stillRow 1 rfl
      have r328 := RdH.mk (set_all (h := (v.getD y []).set c ((v.getD y []).getD c 0 ^^^ 1)) h1.1 y (by rw [List.length_set]; exact len_h h1.1 y (by omega))) (by decide) r327
      obtain ⟨G330, hl331, S329, r332⟩ := S324.stillRow 0 rfl
      have r333 := RdH.mk h2.1 (by decide) r332
      refine ⟨_, ⟨_, _, _, rfl, rfl, run_loadVarA rfl rfl (by first | rfl | simp [hVs, *]) (S329.cells 0 rfl), rfl⟩, ?_⟩
      exact sp_end (if_neg (by omega)).symm (if_neg (by omega)).symm (Go.Au.spV_3 (by omega) hyv hc32) (Go.Au.spP_n (by omega) (by omega)) (r328.mono hl331) r333 S329.fin S329.below
    refine T_callS rfl rfl g_aumbry_aumbrykeep_Within rfl rfl rfl rfl ((withinN_ok S315.le b (32 : Int) (by omega)).mono ?_)
    rintro e w335 ⟨rfl, hB334⟩
    have S336 := S315.call hB334
    refine ⟨_, rfl, trivial, ?_⟩
    refine T_re (v' := .int .i64 ((c : Nat) : Int)) (congrArg (Value.int .i64) hc32) ?_
    refine T_nil ?_
    refine TT_step rfl ?_
    refine T_loadS 3 2 S336 rfl rfl rfl rfl rfl rfl rfl rfl rfl rfl ?_
    refine T_nil ?_
    refine TT_step rfl ?_
    obtain ⟨g337, rfl⟩ := S336.rowAt 1 rfl (by omega)
    refine T_idxm (y * 32) rfl rfl rfl rfl rfl rfl rfl rfl (by omega) (by show 0 + Int.toNat _ * 32 = _; omega) ?_
    refine T_nil ?_
    refine TT_step rfl ?_
    refine T_idxAm (y * 32 + c) rfl rfl rfl rfl rfl rfl rfl rfl (by omega) (by show _ + Int.toNat _ * 1 = _; omega) ?_
    refine T_nil ?_
    refine TT_step rfl ?_
    refine T_load rfl rfl rfl rfl rfl rfl rfl (S336.rowCell 1 rfl (hcells_at1 h1.1 (by omega) (by omega))) ?_
    refine T_nil ?_
    refine TT_step rfl ?_
    refine T_pev rfl rfl rfl rfl ?_
    refine T_re (v' := bV ((v.getD y []).getD c 0 ^^^ 1)) (congrArg (Value.int .u8) (xorb1 _)) ?_
    refine T_nil ?_
    refine TT_step rfl ?_
    refine T_idxm (y * 32) rfl rfl rfl rfl rfl rfl rfl rfl (by omega) (by show 0 + Int.toNat _ * 32 = _; omega) ?_
    refine T_nil ?_
    refine TT_step rfl ?_
    refine T_idxAm (y * 32 + c) rfl rfl rfl rfl rfl rfl rfl rfl (by omega) (by show _ + Int.toNat _ * 1 = _; omega) ?_
    refine T_nil ?_
    refine TT_step rfl ?_
    refine T_storeRow 1 (hcells (v.set y ((v.getD y []).set c ((v.getD y []).getD c 0 ^^^ 1)))) S336 (fun _ _ => trivial) rfl rfl rfl rfl rfl rfl rfl rfl rfl (by show _ + 1 ≤ _ * 32; omega) one_bV1 (hcells_set1 h1.1 (by omega) (by omega)) fun w338 S339 => ?_
    refine T_nil ?_
    refine TT_done ?_
    refine W_seq ?_
    refine W_region ?_
    refine T_loadFS 3 S339 rfl rfl rfl rfl rfl rfl rfl rfl rfl (by first | rfl | simp [hVs, *]) ?_
    refine T_storeFS 2 S339 (fun _ _ => trivial) rfl rfl rfl rfl rfl rfl rfl rfl rfl (by first | rfl | simp [hVs, *]) (by first | rfl | simp [hVs, *]) (one_all rfl) fun w340 S341 => ?_
    refine T_nil ?_
    refine W_ret ?_
    obtain ⟨G343, hl344, S342, r345⟩ := S341.stillRow 1 rfl
    have r346 := RdH.mk (set_all (h := (v.getD y []).set c ((v.getD y []).getD c 0 ^^^ 1)) h1.1 y (by rw [List.length_set]; exact len_h h1.1 y (by omega))) (by decide) r345
    obtain ⟨G348, hl349, S347, r350⟩ := S342.stillRow 0 rfl
    have r351 := RdH.mk h2.1 (by decide) r350
    refine ⟨_, ⟨_, _, _, rfl, rfl, run_loadVarA rfl rfl (by first | rfl | simp [hVs, *]) (S347.cells 0 rfl), rfl⟩, ?_⟩
    exact sp_end (if_neg (by omega)).symm (if_neg (by omega)).symm (Go.Au.spV_3 (by omega) hyv hc32) (Go.Au.spP_n (by omega) (by omega)) (r346.mono hl349) r351 S347.fin S347.below
  refine W_seq ?_
  refine W_region ?_
  refine T_pev rfl rfl rfl rfl ?_
  refine T_pev rfl rfl rfl rfl ?_
  refine T_nil ?_
  refine W_cond_dec rfl (fun h352 => ?_) (fun h352 => ?_)
  · refine W_seq ?_
    refine W_region ?_
    refine T_fldm 3 rfl rfl rfl rfl rfl rfl (by decide) rfl rfl rfl ?_
    refine T_loadS 3 3 S257 rfl rfl rfl rfl rfl rfl rfl rfl rfl rfl ?_
    refine T_pev rfl rfl rfl rfl ?_
    refine T_pev rfl rfl rfl rfl ?_
    refine T_nil ?_
    refine W_cond_dec rfl (fun h353 => ?_) (fun h353 => ?_)
    · have hq1y := Int.emod_nonneg b (show ((p.length : Nat) : Int) ≠ 0 by omega)
      have hq2y := Int.emod_lt_of_pos b (show 0 < ((p.length : Nat) : Int) by omega)
      obtain ⟨y, hyp⟩ : ∃ zz : Nat, b % ((p.length : Nat) : Int) = (zz : Int) := ⟨(b % ((p.length : Nat) : Int)).toNat, by omega⟩
      refine W_tree (plan Tryd.prog) (.step 0 (.step 2 (.step 3 (.step 4 (.step 5 (.fork 1 6 (.step 6 (.step 7 (.step 8 (.step 9 (.step 10 (.step 11 (.step 12 (.step 13 .done)))))))) (.step 1 (.step 7 (.step 8 (.step 9 (.step 10 (.step 11 (.step 12 (.step 13 .done)))))))))))))) rfl (by kernel_rfl) trivial ?_
      have S354 := S257.drew
      refine TT_step rfl ?_
      refine T_fldm 3 rfl rfl rfl rfl rfl rfl (by decide) rfl rfl rfl ?_
      refine T_nil ?_
      refine TT_step rfl ?_
      refine T_pev rfl rfl rfl rfl ?_
      refine T_nil ?_
      refine TT_step rfl ?_
      refine T_fldm 3 rfl rfl rfl rfl rfl rfl (by decide) rfl rfl rfl ?_
      refine T_nil ?_
      refine TT_step rfl ?_
      refine T_loadS 3 3 S354 rfl rfl rfl rfl rfl rfl rfl rfl rfl rfl ?_
      refine T_nil ?_
      refine TT_step rfl ?_
      refine T_pev rfl rfl rfl rfl ?_
      refine T_nil ?_
      refine TT_fork rfl rfl ?_ ?_
      · refine T_loadS 3 3 S354 rfl rfl rfl rfl rfl rfl rfl rfl rfl rfl ?_
        refine T_nil ?_
        refine TT_step rfl ?_
        refine T_callS rfl rfl g_aumbry_aumbrykeep_Within rfl rfl rfl rfl ((withinN_ok S354.le b ((p.length : Nat) : Int) (by omega)).mono ?_)
        rintro e w356 ⟨rfl, hB355⟩
        have S357 := S354.call hB355
        refine ⟨_, rfl, trivial, ?_⟩
        refine T_re (v' := .int .i64 ((y : Nat) : Int)) (congrArg (Value.int .i64) hyp) ?_
        refine T_nil ?_
        refine TT_step rfl ?_
        obtain ⟨g358, rfl⟩ := S357.rowAt 0 rfl (by omega)
        refine T_idxm (y * 32) rfl rfl rfl rfl rfl rfl rfl rfl (by omega) (by show 0 + Int.toNat _ * 32 = _; omega) ?_
        refine T_nil ?_
        refine TT_step rfl ?_
        refine T_idxAm (y * 32 + 3) rfl rfl rfl rfl rfl rfl rfl rfl (by omega) (by show _ + Int.toNat _ * 1 = _; omega) ?_
        refine T_nil ?_
        refine TT_step rfl ?_
        refine T_load rfl rfl rfl rfl rfl rfl rfl (S357.rowCell 0 rfl (hcells_at1 h2.1 (by omega) (by omega))) ?_
        refine T_nil ?_
        refine TT_step rfl ?_
        refine T_pev rfl rfl rfl rfl ?_
        refine T_re (v' := bV ((p.getD y []).getD 3 0 ^^^ 8)) (congrArg (Value.int .u8) (xorb8 _)) ?_
        refine T_nil ?_
        refine TT_step rfl ?_
        refine T_idxm (y * 32) rfl rfl rfl rfl rfl rfl rfl rfl (by omega) (by show 0 + Int.toNat _ * 32 = _; omega) ?_
        refine T_nil ?_
        refine TT_step rfl ?_
        refine T_idxAm (y * 32 + 3) rfl rfl rfl rfl rfl rfl rfl rfl (by omega) (by show _ + Int.toNat _ * 1 = _; omega) ?_
        refine T_nil ?_
        refine TT_step rfl ?_
        refine T_storeRow 0 (hcells (p.set y ((p.getD y []).set 3 ((p.getD y []).getD 3 0 ^^^ 8)))) S357 (fun _ _ => trivial) rfl rfl rfl rfl rfl rfl rfl rfl rfl (by show _ + 1 ≤ _ * 32; omega) one_bV1 (hcells_set1 h2.1 (by omega) (by omega)) fun w359 S360 => ?_
        refine T_nil ?_
        refine TT_done ?_
        refine W_seq ?_
        refine W_region ?_
        refine T_loadFS 3 S360 rfl rfl rfl rfl rfl rfl rfl rfl rfl (by first | rfl | simp [hVs, *]) ?_
        refine T_storeFS 2 S360 (fun _ _ => trivial) rfl rfl rfl rfl rfl rfl rfl rfl rfl (by first | rfl | simp [hVs, *]) (by first | rfl | simp [hVs, *]) (one_all rfl) fun w361 S362 => ?_
        refine T_nil ?_
        refine W_ret ?_
        obtain ⟨G364, hl365, S363, r366⟩ := S362.stillRow 1 rfl
        have r367 := RdH.mk h1.1 (by decide) r366
        obtain ⟨G369, hl370, S368, r371⟩ := S363.stillRow 0 rfl
        have r372 := RdH.mk (set_all (h := (p.getD y []).set 3 ((p.getD y []).getD 3 0 ^^^ 8)) h2.1 y (by rw [List.length_set]; exact len_h h2.1 y (by omega))) (by decide) r371
        refine ⟨_, ⟨_, _, _, rfl, rfl, run_loadVarA rfl rfl (by first | rfl | simp [hVs, *]) (S368.cells 0 rfl), rfl⟩, ?_⟩
        exact sp_end (if_neg (by omega)).symm (if_neg (by omega)).symm (Go.Au.spV_n (by omega) (by omega)) (Go.Au.spP_4 (by omega) (by omega) hyp) (r367.mono hl370) r372 S368.fin S368.below
      refine T_callS rfl rfl g_aumbry_aumbrykeep_Within rfl rfl rfl rfl ((withinN_ok S354.le b ((p.length : Nat) : Int) (by omega)).mono ?_)
      rintro e w374 ⟨rfl, hB373⟩
      have S375 := S354.call hB373
      refine ⟨_, rfl, trivial, ?_⟩
      refine T_re (v' := .int .i64 ((y : Nat) : Int)) (congrArg (Value.int .i64) hyp) ?_
      refine T_nil ?_
      refine TT_step rfl ?_
      refine T_loadS 3 3 S375 rfl rfl rfl rfl rfl rfl rfl rfl rfl rfl ?_
      refine T_nil ?_
      refine TT_step rfl ?_
      obtain ⟨g376, rfl⟩ := S375.rowAt 0 rfl (by omega)
      refine T_idxm (y * 32) rfl rfl rfl rfl rfl rfl rfl rfl (by omega) (by show 0 + Int.toNat _ * 32 = _; omega) ?_
      refine T_nil ?_
      refine TT_step rfl ?_
      refine T_idxAm (y * 32 + 3) rfl rfl rfl rfl rfl rfl rfl rfl (by omega) (by show _ + Int.toNat _ * 1 = _; omega) ?_
      refine T_nil ?_
      refine TT_step rfl ?_
      refine T_load rfl rfl rfl rfl rfl rfl rfl (S375.rowCell 0 rfl (hcells_at1 h2.1 (by omega) (by omega))) ?_
      refine T_nil ?_
      refine TT_step rfl ?_
      refine T_pev rfl rfl rfl rfl ?_
      refine T_re (v' := bV ((p.getD y []).getD 3 0 ^^^ 8)) (congrArg (Value.int .u8) (xorb8 _)) ?_
      refine T_nil ?_
      refine TT_step rfl ?_
      refine T_idxm (y * 32) rfl rfl rfl rfl rfl rfl rfl rfl (by omega) (by show 0 + Int.toNat _ * 32 = _; omega) ?_
      refine T_nil ?_
      refine TT_step rfl ?_
      refine T_idxAm (y * 32 + 3) rfl rfl rfl rfl rfl rfl rfl rfl (by omega) (by show _ + Int.toNat _ * 1 = _; omega) ?_
      refine T_nil ?_
      refine TT_step rfl ?_
      refine T_storeRow 0 (hcells (p.set y ((p.getD y []).set 3 ((p.getD y []).getD 3 0 ^^^ 8)))) S375 (fun _ _ => trivial) rfl rfl rfl rfl rfl rfl rfl rfl rfl (by show _ + 1 ≤ _ * 32; omega) one_bV1 (hcells_set1 h2.1 (by omega) (by omega)) fun w377 S378 => ?_
      refine T_nil ?_
      refine TT_done ?_
      refine W_seq ?_
      refine W_region ?_
      refine T_loadFS 3 S378 rfl rfl rfl rfl rfl rfl rfl rfl rfl (by first | rfl | simp [hVs, *]) ?_
      refine T_storeFS 2 S378 (fun _ _ => trivial) rfl rfl rfl rfl rfl rfl rfl rfl rfl (by first | rfl | simp [hVs, *]) (by first | rfl | simp [hVs, *]) (one_all rfl) fun w379 S380 => ?_
      refine T_nil ?_
      refine W_ret ?_
      obtain ⟨G382, hl383, S381, r384⟩ := S380.stillRow 1 rfl
      have r385 := RdH.mk h1.1 (by decide) r384
      obtain ⟨G387, hl388, S386, r389⟩ := S381.stillRow 0 rfl
      have r390 := RdH.mk (set_all (h := (p.getD y []).set 3 ((p.getD y []).getD 3 0 ^^^ 8)) h2.1 y (by rw [List.length_set]; exact len_h h2.1 y (by omega))) (by decide) r389
      refine ⟨_, ⟨_, _, _, rfl, rfl, run_loadVarA rfl rfl (by first | rfl | simp [hVs, *]) (S386.cells 0 rfl), rfl⟩, ?_⟩
      exact sp_end (if_neg (by omega)).symm (if_neg (by omega)).symm (Go.Au.spV_n (by omega) (by omega)) (Go.Au.spP_4 (by omega) (by omega) hyp) (r385.mono hl388) r390 S386.fin S386.below
    refine W_skip ?_
    refine W_seq ?_
    refine W_region ?_
    refine T_loadFS 3 S257 rfl rfl rfl rfl rfl rfl rfl rfl rfl (by first | rfl | simp [hVs, *]) ?_
    refine T_storeFS 2 S257 (fun _ _ => trivial) rfl rfl rfl rfl rfl rfl rfl rfl rfl (by first | rfl | simp [hVs, *]) (by first | rfl | simp [hVs, *]) (one_all rfl) fun w391 S392 => ?_
    refine T_nil ?_
    refine W_ret ?_
    obtain ⟨G394, hl395, S393, r396⟩ := S392.stillRow 1 rfl
    have r397 := RdH.mk h1.1 (by decide) r396
    obtain ⟨G399, hl400, S398, r401⟩ := S393.stillRow 0 rfl
    have r402 := RdH.mk h2.1 (by decide) r401
    refine ⟨_, ⟨_, _, _, rfl, rfl, run_loadVarA rfl rfl (by first | rfl | simp [hVs, *]) (S398.cells 0 rfl), rfl⟩, ?_⟩
    exact sp_end (if_neg (by omega)).symm (if_neg (by omega)).symm (Go.Au.spV_n (by omega) (by omega)) (Go.Au.spP_n (by omega) (by omega)) (r397.mono hl400) r402 S398.fin S398.below
  refine W_seq ?_
  refine W_region ?_
  refine T_pev rfl rfl rfl rfl ?_
  refine T_pev rfl rfl rfl rfl ?_
  refine T_nil ?_
  refine W_cond_dec rfl (fun h403 => ?_) (fun h403 => ?_)
  · refine W_region ?_
    refine T_fldm 2 rfl rfl rfl rfl rfl rfl (by decide) rfl rfl rfl ?_
    refine T_loadS 3 2 S257 rfl rfl rfl rfl rfl rfl rfl rfl rfl rfl ?_
    refine T_fldm 2 rfl rfl rfl rfl rfl rfl (by decide) rfl rfl rfl ?_
    refine T_loadS 3 2 S257 rfl rfl rfl rfl rfl rfl rfl rfl rfl rfl ?_
    refine T_pev rfl rfl rfl rfl ?_
    refine T_ari rfl rfl rfl rfl (by omega) ?_
    refine T_re (v' := .int .i64 ((66 : Nat) : Int)) (congrArg (Value.int .i64) (by omega)) ?_
    obtain ⟨G405, hl406, S404, r407⟩ := S257.stillRow 1 rfl
    have r408 := RdH.mk h1.1 (by decide) r407
    refine T_sliceR 0 66 r408.2 rfl rfl rfl rfl rfl rfl rfl rfl rfl rfl (bound_of (by omega)) rfl (by omega) (by omega) fun a409 c410 hc411 r412 => ?_
    have r413 := RdH.cut (lo := 0) r408.1 (by first | (simp only [List.length_take, List.length_drop]; omega) | (have hcl := List.length_take (i := (66 - 0)) (l := v.drop 0); rw [List.length_drop] at hcl; omega)) r412
    refine T_fldm 2 rfl rfl rfl rfl rfl rfl (by decide) rfl rfl rfl ?_
    refine T_store1S 2 2 S404 (fun _ _ => trivial) rfl rfl rfl rfl rfl rfl rfl rfl rfl rfl rfl rfl (show 2 < 4 by decide) fun w414 S415 => ?_
    have hE416 : (.agg #[.int .i64 sh, .int .i64 sl, .slice a235 v.length c236, .slice a242 p.length c243] : Value).cells.setIfInBounds 2 (.slice a409 (66 - 0) c410) = (.agg #[.int .i64 sh, .int .i64 sl, .slice a409 (66 - 0) c410, .slice a242 p.length c243] : Value).cells := rfl
    rw [hE416] at S415
    refine T_nil ?_
    refine W_seq ?_
    refine W_region ?_
    refine T_loadFS 2 S415 rfl rfl rfl rfl rfl rfl rfl rfl rfl (by first | rfl | simp [hVs, *]) ?_
    refine T_storeFS 1 S415 (fun _ _ => trivial) rfl rfl rfl rfl rfl rfl rfl rfl rfl (by first | rfl | simp [hVs, *]) (by first | rfl | simp [hVs, *]) (one_all rfl) fun w417 S418 => ?_
    refine T_nil ?_
    refine W_ret ?_
    obtain ⟨G420, hl421, S419, r422⟩ := S418.stillRow 0 rfl
    have r423 := RdH.mk h2.1 (by decide) r422
    refine ⟨_, ⟨_, _, _, rfl, rfl, run_loadVarA rfl rfl (by first | rfl | simp [hVs, *]) (S419.cells 0 rfl), rfl⟩, ?_⟩
    exact sp_end (if_neg (by omega)).symm (if_neg (by omega)).symm (sp5 (by omega) h67) (Go.Au.spP_n (by omega) (by omega)) (r413.mono hl421) r423 S419.fin S419.below
  refine W_seq ?_
  refine W_region ?_
  refine T_pev rfl rfl rfl rfl ?_
  refine T_pev rfl rfl rfl rfl ?_
  refine T_nil ?_
  refine W_cond_dec rfl (fun h424 => ?_) (fun h424 => ?_)
  · refine W_region ?_
    refine T_fldm 3 rfl rfl rfl rfl rfl rfl (by decide) rfl rfl rfl ?_
    refine T_loadS 3 3 S257 rfl rfl rfl rfl rfl rfl rfl rfl rfl rfl ?_
    refine T_buildA (cells := (hV (List.replicate 32 0)).cells) rfl rfl rfl rfl rfl rfl rfl rfl rfl rfl ?_
    refine T_litS (hcells [(List.replicate 32 0)]) rfl rfl rfl rfl rfl rfl rfl rfl rfl rfl rfl rfl rfl (one_h List.length_replicate) (by simp [hcells, hV, Value.cells]) fun a425 w426 hB427 ho428 => ?_
    have S429 := S257.own hB427 ho428
    refine ⟨trivial, ?_⟩
    refine T_appendS 1 ((p ++ [(List.replicate 32 0)]).length) (hcells (p ++ [(List.replicate 32 0)])) S429 (fun _ _ => trivial) rfl rfl rfl rfl rfl rfl rfl rfl rfl rfl rfl rfl rfl rfl (S429.rd 0 rfl) (one_hcells _) (by first | rfl | (simp; done) | (simp; omega) | omega) (by simp [hcells_append, hcells]) (by unfold maxLen; simp only [List.length_append, List.length_cons, List.length_nil]; omega) (by show _ * 32 ≤ _; simp only [List.length_append, List.length_cons, List.length_nil]; omega) fun a430 c431 w432 hc433 S434 => ?_
    refine T_fldm 3 rfl rfl rfl rfl rfl rfl (by decide) rfl rfl rfl ?_
    refine T_store1S 4 3 S434 (fun _ _ => trivial) rfl rfl rfl rfl rfl rfl rfl rfl rfl rfl rfl rfl (show 3 < 4 by decide) fun w435 S436 => ?_
    have hE437 : (.agg #[.int .i64 sh, .int .i64 sl, .slice a235 v.length c236, .slice a242 p.length c243] : Value).cells.setIfInBounds 3 (.slice a430 ((p ++ [(List.replicate 32 0)]).length) c431) = (.agg #[.int .i64 sh, .int .i64 sl, .slice a235 v.length c236, .slice a430 ((p ++ [(List.replicate 32 0)]).length) c431] : Value).cells := rfl
    rw [hE437] at S436
    refine T_nil ?_
    refine W_seq ?_
    refine W_region ?_
    refine T_loadFS 4 S436 rfl rfl rfl rfl rfl rfl rfl rfl rfl (by first | rfl | simp [hVs, *]) ?_
    refine T_storeFS 3 S436 (fun _ _ => trivial) rfl rfl rfl rfl rfl rfl rfl rfl rfl (by first | rfl | simp [hVs, *]) (by first | rfl | simp [hVs, *]) (one_all rfl) fun w438 S439 => ?_
    refine T_nil ?_
    refine W_ret ?_
    obtain ⟨G441, hl442, S440, r443⟩ := S439.stillRow 2 rfl
    have r444 := RdH.mk h1.1 (by decide) r443
    obtain ⟨G446, hl447, S445, r448⟩ := S440.stillRow 1 rfl
    have r449 := RdH.mk (all_app h2.1 (all_h1 List.length_replicate)) (by decide) r448
    refine ⟨_, ⟨_, _, _, rfl, rfl, run_loadVarA rfl rfl (by first | rfl | simp [hVs, *]) (S445.cells 1 rfl), rfl⟩, ?_⟩
    exact sp_end (if_neg (by omega)).symm (if_neg (by omega)).symm (Go.Au.spV_n (by omega) (by omega)) (Go.Au.spP_6 (by omega)) (r444.mono hl447) r449 S445.fin S445.below
  refine W_skip ?_
  refine W_seq ?_
  refine W_region ?_
  refine T_loadFS 3 S257 rfl rfl rfl rfl rfl rfl rfl rfl rfl (by first | rfl | simp [hVs, *]) ?_
  refine T_storeFS 2 S257 (fun _ _ => trivial) rfl rfl rfl rfl rfl rfl rfl rfl rfl (by first | rfl | simp [hVs, *]) (by first | rfl | simp [hVs, *]) (one_all rfl) fun w450 S451 => ?_
  refine T_nil ?_
  refine W_ret ?_
  obtain ⟨G453, hl454, S452, r455⟩ := S451.stillRow 1 rfl
  have r456 := RdH.mk h1.1 (by decide) r455
  obtain ⟨G458, hl459, S457, r460⟩ := S452.stillRow 0 rfl
  have r461 := RdH.mk h2.1 (by decide) r460
  refine ⟨_, ⟨_, _, _, rfl, rfl, run_loadVarA rfl rfl (by first | rfl | simp [hVs, *]) (S457.cells 0 rfl), rfl⟩, ?_⟩
  exact sp_end (if_neg (by omega)).symm (if_neg (by omega)).symm (Go.Au.spV_n (by omega) (by omega)) (Go.Au.spP_n (by omega) (by omega)) (r456.mono hl459) r461 S457.fin S457.below

end Go.Proofs.YtbkdncmjfhbafaaDoor
