/- Walks of the program's functions. -/
import Derived.Test.YtfcejolipdcoaaaGreatDoorTreeD
set_option linter.unusedVariables false
set_option linter.unusedSimpArgs false
set_option maxRecDepth 8192
namespace Go.Proofs.YtfcejolipdcoaaaGreatDoor
open Go Go.F Go.RowKit
open Go.Au

theorem and1 {z : Int} (h : -9223372036854775808 ≤ z ∧ z ≤ 9223372036854775807) : bits .and .i64 z 1 = z % 2 := by
 have e : ((BitVec.ofInt 64 z) &&& (BitVec.ofInt 64 1)).toNat = (z % 2).toNat := by
  rw [BitVec.toNat_and, BitVec.toNat_ofInt, show (BitVec.ofInt 64 1).toNat = 1 from rfl, Nat.and_one_is_mod]
  show (z % 18446744073709551616).toNat % 2 = _
  omega
 show IntKind.i64.wrap ((((BitVec.ofInt 64 z) &&& (BitVec.ofInt 64 1)).toNat : Nat) : Int) = z % 2
 rw [e, wrap64_id (by omega) (by omega)]
 omega
theorem sp5 {w b : Int} {v : List (List UInt8)} (h : w % 8 = 5) (h67 : v.length = 67) : (v.drop 0).take (66 - 0) = spV w b v := by
 rw [← spV_5 h, h67]; rfl
theorem sp_end {W w : World} {H G : Hp} {H' L' H2 L2 : Int} {V' P' V2 P2 : List (List UInt8)} {a1 a2 : Option Addr} {n1 n2 c1 c2 : Nat} (e1 : H' = H2) (e2 : L' = L2) (e3 : V' = V2) (e4 : P' = P2) (r1 : RdH G (.slice a1 n1 c1) 32 V') (r2 : RdH G (.slice a2 n2 c2) 32 P') (hG : G.le (F.ext H W.heap.size w)) (hB : Below W.heap.size W w) :
  ∃ a1' n1' c1' a2' n2' c2', Ending.returned (.agg #[.int .i64 H', .int .i64 L', .slice a1 n1 c1, .slice a2 n2 c2]) = .returned (.agg #[.int .i64 H2, .int .i64 L2, .slice a1' n1' c1', .slice a2' n2' c2']) ∧ RdH (F.ext H W.heap.size w) (.slice a1' n1' c1') 32 V2 ∧ RdH (F.ext H W.heap.size w) (.slice a2' n2' c2') 32 P2 ∧ Below W.heap.size W w := by
 subst e1; subst e2; subst e3; subst e4; exact ⟨a1, n1, c1, a2, n2, c2, rfl, r1.mono hG, r2.mono hG, hB⟩
theorem xorb1 (x : UInt8) : bits .xor .u8 (x.toNat : Int) 1 = ((x ^^^ 1).toNat : Int) := by
 have key : ∀ q : Fin 256, bits .xor .u8 (q.val : Int) 1 = ((UInt8.ofNat q.val ^^^ 1).toNat : Int) := by decide +kernel
 have h := key ⟨x.toNat, x.toNat_lt⟩
 simpa using h
theorem xorb8 (x : UInt8) : bits .xor .u8 (x.toNat : Int) 8 = ((x ^^^ 8).toNat : Int) := by
 have key : ∀ q : Fin 256, bits .xor .u8 (q.val : Int) 8 = ((UInt8.ofNat q.val ^^^ 8).toNat : Int) := by decide +kernel
 have h := key ⟨x.toNat, x.toNat_lt⟩
 simpa using h
set_option maxHeartbeats 2000000 in
theorem spoilt_ok {H : Hp} {w : World} (hH : H.le (hw w)) (sh sl : Int) {v p : List (List UInt8)} {a1 a2 : Option Addr} {n1 n2 c1 c2 : Nat} (h1 : RdH H (.slice a1 n1 c1) 32 v) (h2 : RdH H (.slice a2 n2 c2) 32 p) (w0 b : Int) (h67 : v.length = 67) (hp : p.length ≤ 10) (hsh : 0 ≤ sh ∧ sh ≤ 100) (hsl : 0 ≤ sl ∧ sl ≤ 100) (hb2 : -9223372036854775808 ≤ b ∧ b ≤ 9223372036854775807) :
  Calls Tryz.prog 6 #[.agg #[.int .i64 sh, .int .i64 sl, .slice a1 n1 c1, .slice a2 n2 c2], .int .i64 w0, .int .i64 b] w fun e w' => ∃ a1 n1 c1 a2 n2 c2, e = .returned (.agg #[.int .i64 (spH w0 b sh), .int .i64 (spL w0 b sl), .slice a1 n1 c1, .slice a2 n2 c2]) ∧ RdH (F.ext H w.heap.size w') (.slice a1 n1 c1) 32 (spV w0 b v) ∧ RdH (F.ext H w.heap.size w') (.slice a2 n2 c2) 32 (spP w0 b p) ∧ Below w.heap.size w w' := by
 obtain rfl : n1 = v.length := h1.len
 obtain rfl : n2 = p.length := h2.len
 refine enter3 _ Tryz.func6 rfl Tryz.ntmps6 Tryz.results6 rfl ?_
 have S0 := St.start w hH
 refine Wr (Ah S0 fun b1 w2 S3 => ?_)
 refine Ac S3 fun b4 w5 S6 => (T_nil (W_seq ?_))
 refine W_tree (plan Tryz.prog) (.step 0 (.step 1 (.step 3 (.fork 2 4 (.step 4 (.step 5 (.step 6 (.step 7 (.step 8 (.step 9 .done)))))) (.step 2 (.step 5 (.step 6 (.step 7 (.step 8 (.step 9 .done)))))))))) rfl (by kernel_rfl) trivial ?_
 have S7 := S6.drew
 refine TT_step rfl (Fl 2 ?_)
 refine Nt rfl (Aj 1 2 S7 rfl ?_)
 refine Nt rfl (Fl 3 (T_nil ?_))
 refine TT_fork rfl rfl ?_ ?_
 ·refine Cs g_aumbry_aumbrykeep_Copy_aumbry_api_Hash ((copyH_ok S7.le h1 (by omega)).mono ?_)
  rintro e w13 ⟨a8, c9, hc10, rfl, ho11, hB12⟩
  have S14 := S7.own hB12 ho11
  refine ⟨_, rfl, trivial, ?_⟩
  refine Nt rfl (Aj 2 3 S14 rfl ?_)
  refine Nt rfl (Cs g_aumbry_aumbrykeep_Copy_aumbry_api_Hash ((copyH_ok S14.le h2 (by omega)).mono ?_))
  rintro e w20 ⟨a15, c16, hc17, rfl, ho18, hB19⟩
  have S21 := S14.own hB19 ho18
  refine ⟨_, rfl, trivial, ?_⟩
  refine Nt rfl (Fl 2 ?_)
  refine Nt rfl (T_store1S 3 2 S21 (fun _ _ => trivial) rfl rfl rfl rfl rfl rfl rfl rfl rfl rfl rfl rfl (show 2 < 4 by decide) fun w22 S23 => ?_)
  have hE24 : (.agg #[.int .i64 sh, .int .i64 sl, .slice a1 v.length c1, .slice a2 p.length c2] : Value).cells.setIfInBounds 2 (.slice a8 v.length c9) = (.agg #[.int .i64 sh, .int .i64 sl, .slice a8 v.length c9, .slice a2 p.length c2] : Value).cells := rfl
  rw [hE24] at S23
  refine Nt rfl (Fl 3 ?_)
  refine Nt rfl (T_store1S 3 3 S23 (fun _ _ => trivial) rfl rfl rfl rfl rfl rfl rfl rfl rfl rfl rfl rfl (show 3 < 4 by decide) fun w25 S26 => ?_)
  have hE27 : (.agg #[.int .i64 sh, .int .i64 sl, .slice a8 v.length c9, .slice a2 p.length c2] : Value).cells.setIfInBounds 3 (.slice a15 p.length c16) = (.agg #[.int .i64 sh, .int .i64 sl, .slice a8 v.length c9, .slice a15 p.length c16] : Value).cells := rfl
  rw [hE27] at S26
  refine T_nil (TT_done (W_seq (Wr (Pv ?_))))
  refine Cs g_aumbry_aumbrykeep_Within ((withinN_ok S26.le w0 (8 : Int) (by omega)).mono ?_)
  rintro e w29 ⟨rfl, hB28⟩
  have S30 := S26.call hB28
  refine ⟨_, rfl, trivial, ?_⟩
  refine T_nil (W_block (Wr (P2 (T_nil ?_))))
  refine Aa (fun h31 => ?_) (fun h31 => ?_)
  ·refine W_region (Fl 0 ?_)
   refine Aj 3 0 S30 rfl ?_
   refine P2 ?_
   refine T_re (v' := .int .i64 (b % 2)) (congrArg (Value.int .i64) (and1 hb2)) ?_
   iterate 3 refine Ar ?_
   refine Fl 0 ?_
   refine T_store1S 3 0 S30 (fun _ _ => trivial) rfl rfl rfl rfl rfl rfl rfl rfl rfl rfl rfl rfl (show 0 < 4 by decide) fun w32 S33 => ?_
   have hE34 : (.agg #[.int .i64 sh, .int .i64 sl, .slice a8 v.length c9, .slice a15 p.length c16] : Value).cells.setIfInBounds 0 (.int .i64 (sh + ((1 : Int) - ((2 : Int) * (b % 2))))) = (.agg #[.int .i64 (sh + ((1 : Int) - ((2 : Int) * (b % 2)))), .int .i64 sl, .slice a8 v.length c9, .slice a15 p.length c16] : Value).cells := rfl
   rw [hE34] at S33
   refine Nr (Ai (hl := by first | rfl | simp [hVs, *]) 3 S33 ?_)
   refine Ag (hl := by first | rfl | simp [hVs, *]) (hl2 := by first | rfl | simp [hVs, *]) (h1 := by exact one_all rfl) 2 S33 fun w35 S36 => (T_nil (W_ret ?_))
   obtain ⟨G38, hl39, S37, r40⟩ := S36.stillRow 1 rfl
   have r41 := RdH.mk h1.1 (by decide) r40
   obtain ⟨G43, hl44, S42, r45⟩ := S37.stillRow 0 rfl
   have r46 := RdH.mk h2.1 (by decide) r45
   refine ⟨_, ⟨_, _, _, rfl, rfl, run_loadVarA rfl rfl (by first | rfl | simp [hVs, *]) (S42.cells 0 rfl), rfl⟩, ?_⟩
   exact sp_end (if_pos h31).symm (if_neg (by omega)).symm (spV_n (by omega) (by omega)) (spP_n (by omega) (by omega)) (r41.mono hl44) r46 S42.fin S42.below
  refine Wr (P2 (T_nil ?_))
  refine Aa (fun h47 => ?_) (fun h47 => ?_)
  ·refine W_region (Fl 1 ?_)
   refine Aj 3 1 S30 rfl ?_
   refine P2 ?_
   refine T_re (v' := .int .i64 (b % 2)) (congrArg (Value.int .i64) (and1 hb2)) ?_
   iterate 3 refine Ar ?_
   refine Fl 1 ?_
   refine T_store1S 3 1 S30 (fun _ _ => trivial) rfl rfl rfl rfl rfl rfl rfl rfl rfl rfl rfl rfl (show 1 < 4 by decide) fun w48 S49 => ?_
   have hE50 : (.agg #[.int .i64 sh, .int .i64 sl, .slice a8 v.length c9, .slice a15 p.length c16] : Value).cells.setIfInBounds 1 (.int .i64 (sl + ((1 : Int) - ((2 : Int) * (b % 2))))) = (.agg #[.int .i64 sh, .int .i64 (sl + ((1 : Int) - ((2 : Int) * (b % 2)))), .slice a8 v.length c9, .slice a15 p.length c16] : Value).cells := rfl
   rw [hE50] at S49
   refine Nr (Ai (hl := by first | rfl | simp [hVs, *]) 3 S49 ?_)
   refine Ag (hl := by first | rfl | simp [hVs, *]) (hl2 := by first | rfl | simp [hVs, *]) (h1 := by exact one_all rfl) 2 S49 fun w51 S52 => (T_nil (W_ret ?_))
   obtain ⟨G54, hl55, S53, r56⟩ := S52.stillRow 1 rfl
   have r57 := RdH.mk h1.1 (by decide) r56
   obtain ⟨G59, hl60, S58, r61⟩ := S53.stillRow 0 rfl
   have r62 := RdH.mk h2.1 (by decide) r61
   refine ⟨_, ⟨_, _, _, rfl, rfl, run_loadVarA rfl rfl (by first | rfl | simp [hVs, *]) (S58.cells 0 rfl), rfl⟩, ?_⟩
   exact sp_end (if_neg (by omega)).symm (if_pos h47).symm (spV_n (by omega) (by omega)) (spP_n (by omega) (by omega)) (r57.mono hl60) r62 S58.fin S58.below
  refine Wr (P2 (T_nil ?_))
  refine Aa (fun h63 => ?_) (fun h63 => ?_)
  ·have hq1y := Int.emod_nonneg b (show ((v.length : Nat) : Int) ≠ 0 by omega)
   have hq2y := Int.emod_lt_of_pos b (show 0 < ((v.length : Nat) : Int) by omega)
   obtain ⟨y, hyv⟩ : ∃ zz : Nat, b % ((v.length : Nat) : Int) = (zz : Int) := ⟨(b % ((v.length : Nat) : Int)).toNat, by omega⟩
   obtain ⟨c, hc32⟩ : ∃ c : Nat, b % 32 = (c : Int) := ⟨(b % 32).toNat, by omega⟩
   refine W_tree (plan Tryz.prog) (.step 0 (.step 2 (.step 3 (.step 4 (.step 5 (.step 7 (.fork 1 6 (.step 6 (.step 8 (.step 9 (.step 10 (.step 11 (.step 12 (.step 13 (.step 14 (.step 15 .done))))))))) (.fork 1 8 (.step 8 (.step 9 (.step 10 (.step 11 (.step 12 (.step 13 (.step 14 (.step 15 .done)))))))) (.step 1 (.step 9 (.step 10 (.step 11 (.step 12 (.step 13 (.step 14 (.step 15 .done)))))))))))))))) rfl (by kernel_rfl) trivial ?_
   have S64 := S30.drew
   refine TT_step rfl (Fl 2 ?_)
   refine Nt rfl (Pv ?_)
   refine Nt rfl (Fl 2 ?_)
   refine Nt rfl (Aj 3 2 S64 rfl ?_)
   iterate 2 (refine T_nil ?_; refine TT_step rfl ?_; refine Pv ?_)
   refine T_nil (TT_fork rfl rfl ?_ ?_)
   ·refine Aj 3 2 S64 rfl ?_
    refine Nt rfl (Cs g_aumbry_aumbrykeep_Within ((withinN_ok S64.le b ((v.length : Nat) : Int) (by omega)).mono ?_))
    rintro e w66 ⟨rfl, hB65⟩
    have S67 := S64.call hB65
    refine ⟨_, rfl, trivial, ?_⟩
    refine T_re (v' := .int .i64 ((y : Nat) : Int)) (congrArg (Value.int .i64) hyv) (Nt rfl (Cs g_aumbry_aumbrykeep_Within ((withinN_ok S67.le b (32 : Int) (by omega)).mono ?_)))
    rintro e w69 ⟨rfl, hB68⟩
    have S70 := S67.call hB68
    refine ⟨_, rfl, trivial, ?_⟩
    refine T_re (v' := .int .i64 ((c : Nat) : Int)) (congrArg (Value.int .i64) hc32) (Nt rfl ?_)
    obtain ⟨g71, rfl⟩ := S70.rowAt 1 rfl (by omega)
    refine T_idxm (y * 32) rfl rfl rfl rfl rfl rfl rfl rfl (by omega) (by show 0 + Int.toNat _ * 32 = _; omega) ?_
    refine Nt rfl (T_idxAm (y * 32 + c) rfl rfl rfl rfl rfl rfl rfl rfl (by omega) (by show _ + Int.toNat _ * 1 = _; omega) ?_)
    refine Nt rfl (T_load rfl rfl rfl rfl rfl rfl rfl (S70.rowCell 1 rfl (hcells_at1 h1.1 (by omega) (by omega))) ?_)
    refine Nt rfl (Pv ?_)
    refine T_re (v' := bV ((v.getD y []).getD c 0 ^^^ 1)) (congrArg (Value.int .u8) (xorb1 _)) (Nt rfl (T_idxm (y * 32) rfl rfl rfl rfl rfl rfl rfl rfl (by omega) (by show 0 + Int.toNat _ * 32 = _; omega) ?_))
    refine Nt rfl (T_idxAm (y * 32 + c) rfl rfl rfl rfl rfl rfl rfl rfl (by omega) (by show _ + Int.toNat _ * 1 = _; omega) ?_)
    refine Nt rfl (T_storeRow 1 (hcells (v.set y ((v.getD y []).set c ((v.getD y []).getD c 0 ^^^ 1)))) S70 (fun _ _ => trivial) rfl rfl rfl rfl rfl rfl rfl rfl rfl (by show _ + 1 ≤ _ * 32; omega) one_bV1 (hcells_set1 h1.1 (by omega) (by omega)) fun w72 S73 => (T_nil (TT_done (Wr ?_))))
    refine Ai (hl := by first | rfl | simp [hVs, *]) 3 S73 ?_
    refine Ag (hl := by first | rfl | simp [hVs, *]) (hl2 := by first | rfl | simp [hVs, *]) (h1 := by exact one_all rfl) 2 S73 fun w74 S75 => (T_nil (W_ret ?_))
    obtain ⟨G77, hl78, S76, r79⟩ := S75.stillRow 1 rfl
    have r80 := RdH.mk (set_all (h := (v.getD y []).set c ((v.getD y []).getD c 0 ^^^ 1)) h1.1 y (by rw [List.length_set]; exact len_h h1.1 y (by omega))) (by decide) r79
    obtain ⟨G82, hl83, S81, r84⟩ := S76.stillRow 0 rfl
    have r85 := RdH.mk h2.1 (by decide) r84
    refine ⟨_, ⟨_, _, _, rfl, rfl, run_loadVarA rfl rfl (by first | rfl | simp [hVs, *]) (S81.cells 0 rfl), rfl⟩, ?_⟩
    exact sp_end (if_neg (by omega)).symm (if_neg (by omega)).symm (spV_3 (by omega) hyv hc32) (spP_n (by omega) (by omega)) (r80.mono hl83) r85 S81.fin S81.below
   refine Cs g_aumbry_aumbrykeep_Within ((withinN_ok S64.le b ((v.length : Nat) : Int) (by omega)).mono ?_)
   rintro e w87 ⟨rfl, hB86⟩
   have S88 := S64.call hB86
   refine ⟨_, rfl, trivial, ?_⟩
   refine T_re (v' := .int .i64 ((y : Nat) : Int)) (congrArg (Value.int .i64) hyv) (T_nil (TT_fork rfl rfl ?_ ?_))
   ·refine Aj 3 2 S88 rfl ?_
    refine Nt rfl (Cs g_aumbry_aumbrykeep_Within ((withinN_ok S88.le b (32 : Int) (by omega)).mono ?_))
    rintro e w90 ⟨rfl, hB89⟩
    have S91 := S88.call hB89
    refine ⟨_, rfl, trivial, ?_⟩
    refine T_re (v' := .int .i64 ((c : Nat) : Int)) (congrArg (Value.int .i64) hc32) (Nt rfl ?_)
    obtain ⟨g92, rfl⟩ := S91.rowAt 1 rfl (by omega)
    refine T_idxm (y * 32) rfl rfl rfl rfl rfl rfl rfl rfl (by omega) (by show 0 + Int.toNat _ * 32 = _; omega) ?_
    refine Nt rfl (T_idxAm (y * 32 + c) rfl rfl rfl rfl rfl rfl rfl rfl (by omega) (by show _ + Int.toNat _ * 1 = _; omega) ?_)
    refine Nt rfl (T_load rfl rfl rfl rfl rfl rfl rfl (S91.rowCell 1 rfl (hcells_at1 h1.1 (by omega) (by omega))) ?_)
    refine Nt rfl (Pv ?_)
    refine T_re (v' := bV ((v.getD y []).getD c 0 ^^^ 1)) (congrArg (Value.int .u8) (xorb1 _)) (Nt rfl (T_idxm (y * 32) rfl rfl rfl rfl rfl rfl rfl rfl (by omega) (by show 0 + Int.toNat _ * 32 = _; omega) ?_))
    refine Nt rfl (T_idxAm (y * 32 + c) rfl rfl rfl rfl rfl rfl rfl rfl (by omega) (by show _ + Int.toNat _ * 1 = _; omega) ?_)
    refine Nt rfl (T_storeRow 1 (hcells (v.set y ((v.getD y []).set c ((v.getD y []).getD c 0 ^^^ 1)))) S91 (fun _ _ => trivial) rfl rfl rfl rfl rfl rfl rfl rfl rfl (by show _ + 1 ≤ _ * 32; omega) one_bV1 (hcells_set1 h1.1 (by omega) (by omega)) fun w93 S94 => (T_nil (TT_done (Wr ?_))))
    refine Ai (hl := by first | rfl | simp [hVs, *]) 3 S94 ?_
    refine Ag (hl := by first | rfl | simp [hVs, *]) (hl2 := by first | rfl | simp [hVs, *]) (h1 := by exact one_all rfl) 2 S94 fun w95 S96 => (T_nil (W_ret ?_))
    obtain ⟨G98, hl99, S97, r100⟩ := S96.stillRow 1 rfl
    have r101 := RdH.mk (set_all (h := (v.getD y []).set c ((v.getD y []).getD c 0 ^^^ 1)) h1.1 y (by rw [List.length_set]; exact len_h h1.1 y (by omega))) (by decide) r100
    obtain ⟨G103, hl104, S102, r105⟩ := S97.stillRow 0 rfl
    have r106 := RdH.mk h2.1 (by decide) r105
    refine ⟨_, ⟨_, _, _, rfl, rfl, run_loadVarA rfl rfl (by first | rfl | simp [hVs, *]) (S102.cells 0 rfl), rfl⟩, ?_⟩
    exact sp_end (if_neg (by omega)).symm (if_neg (by omega)).symm (spV_3 (by omega) hyv hc32) (spP_n (by omega) (by omega)) (r101.mono hl104) r106 S102.fin S102.below
   refine Cs g_aumbry_aumbrykeep_Within ((withinN_ok S88.le b (32 : Int) (by omega)).mono ?_)
   rintro e w108 ⟨rfl, hB107⟩
   have S109 := S88.call hB107
   refine ⟨_, rfl, trivial, ?_⟩
   refine T_re (v' := .int .i64 ((c : Nat) : Int)) (congrArg (Value.int .i64) hc32) (Nt rfl (Aj 3 2 S109 rfl ?_))
   refine Nt rfl ?_
   obtain ⟨g110, rfl⟩ := S109.rowAt 1 rfl (by omega)
   refine T_idxm (y * 32) rfl rfl rfl rfl rfl rfl rfl rfl (by omega) (by show 0 + Int.toNat _ * 32 = _; omega) ?_
   refine Nt rfl (T_idxAm (y * 32 + c) rfl rfl rfl rfl rfl rfl rfl rfl (by omega) (by show _ + Int.toNat _ * 1 = _; omega) ?_)
   refine Nt rfl (T_load rfl rfl rfl rfl rfl rfl rfl (S109.rowCell 1 rfl (hcells_at1 h1.1 (by omega) (by omega))) ?_)
   refine Nt rfl (Pv ?_)
   refine T_re (v' := bV ((v.getD y []).getD c 0 ^^^ 1)) (congrArg (Value.int .u8) (xorb1 _)) (Nt rfl (T_idxm (y * 32) rfl rfl rfl rfl rfl rfl rfl rfl (by omega) (by show 0 + Int.toNat _ * 32 = _; omega) ?_))
   refine Nt rfl (T_idxAm (y * 32 + c) rfl rfl rfl rfl rfl rfl rfl rfl (by omega) (by show _ + Int.toNat _ * 1 = _; omega) ?_)
   refine Nt rfl (T_storeRow 1 (hcells (v.set y ((v.getD y []).set c ((v.getD y []).getD c 0 ^^^ 1)))) S109 (fun _ _ => trivial) rfl rfl rfl rfl rfl rfl rfl rfl rfl (by show _ + 1 ≤ _ * 32; omega) one_bV1 (hcells_set1 h1.1 (by omega) (by omega)) fun w111 S112 => (T_nil (TT_done (Wr ?_))))
   refine Ai (hl := by first | rfl | simp [hVs, *]) 3 S112 ?_
   refine Ag (hl := by first | rfl | simp [hVs, *]) (hl2 := by first | rfl | simp [hVs, *]) (h1 := by exact one_all rfl) 2 S112 fun w113 S114 => (T_nil (W_ret ?_))
   obtain ⟨G116, hl117, S115, r118⟩ := S114.stillRow 1 rfl
   have r119 := RdH.mk (set_all (h := (v.getD y []).set c ((v.getD y []).getD c 0 ^^^ 1)) h1.1 y (by rw [List.length_set]; exact len_h h1.1 y (by omega))) (by decide) r118
   obtain ⟨G121, hl122, S120, r123⟩ := S115.stillRow 0 rfl
   have r124 := RdH.mk h2.1 (by decide) r123
   refine ⟨_, ⟨_, _, _, rfl, rfl, run_loadVarA rfl rfl (by first | rfl | simp [hVs, *]) (S120.cells 0 rfl), rfl⟩, ?_⟩
   exact sp_end (if_neg (by omega)).symm (if_neg (by omega)).symm (spV_3 (by omega) hyv hc32) (spP_n (by omega) (by omega)) (r119.mono hl122) r124 S120.fin S120.below
  refine Wr (P2 (T_nil ?_))
  refine Aa (fun h125 => ?_) (fun h125 => ?_)
  ·refine Wr (Fl 3 ?_)
   refine Aj 3 3 S30 rfl ?_
   refine P2 (T_nil ?_)
   refine Aa (fun h126 => ?_) (fun h126 => ?_)
   ·have hq1y := Int.emod_nonneg b (show ((p.length : Nat) : Int) ≠ 0 by omega)
    have hq2y := Int.emod_lt_of_pos b (show 0 < ((p.length : Nat) : Int) by omega)
    obtain ⟨y, hyp⟩ : ∃ zz : Nat, b % ((p.length : Nat) : Int) = (zz : Int) := ⟨(b % ((p.length : Nat) : Int)).toNat, by omega⟩
    refine W_tree (plan Tryz.prog) (.step 0 (.step 2 (.step 3 (.step 4 (.step 5 (.fork 1 6 (.step 6 (.step 7 (.step 8 (.step 9 (.step 10 (.step 11 (.step 12 (.step 13 .done)))))))) (.step 1 (.step 7 (.step 8 (.step 9 (.step 10 (.step 11 (.step 12 (.step 13 .done)))))))))))))) rfl (by kernel_rfl) trivial ?_
    have S127 := S30.drew
    refine TT_step rfl (Fl 3 ?_)
    refine Nt rfl (Pv ?_)
    refine Nt rfl (Fl 3 ?_)
    refine Nt rfl (Aj 3 3 S127 rfl ?_)
    refine Nt rfl (Pv (T_nil ?_))
    refine TT_fork rfl rfl ?_ ?_
    ·refine Aj 3 3 S127 rfl ?_
     refine Nt rfl (Cs g_aumbry_aumbrykeep_Within ((withinN_ok S127.le b ((p.length : Nat) : Int) (by omega)).mono ?_))
     rintro e w129 ⟨rfl, hB128⟩
     have S130 := S127.call hB128
     refine ⟨_, rfl, trivial, ?_⟩
     refine T_re (v' := .int .i64 ((y : Nat) : Int)) (congrArg (Value.int .i64) hyp) (Nt rfl ?_)
     obtain ⟨g131, rfl⟩ := S130.rowAt 0 rfl (by omega)
     refine T_idxm (y * 32) rfl rfl rfl rfl rfl rfl rfl rfl (by omega) (by show 0 + Int.toNat _ * 32 = _; omega) ?_
     refine Nt rfl (T_idxAm (y * 32 + 3) rfl rfl rfl rfl rfl rfl rfl rfl (by omega) (by show _ + Int.toNat _ * 1 = _; omega) ?_)
     refine Nt rfl (T_load rfl rfl rfl rfl rfl rfl rfl (S130.rowCell 0 rfl (hcells_at1 h2.1 (by omega) (by omega))) ?_)
     refine Nt rfl (Pv ?_)
     refine T_re (v' := bV ((p.getD y []).getD 3 0 ^^^ 8)) (congrArg (Value.int .u8) (xorb8 _)) (Nt rfl (T_idxm (y * 32) rfl rfl rfl rfl rfl rfl rfl rfl (by omega) (by show 0 + Int.toNat _ * 32 = _; omega) ?_))
     refine Nt rfl (T_idxAm (y * 32 + 3) rfl rfl rfl rfl rfl rfl rfl rfl (by omega) (by show _ + Int.toNat _ * 1 = _; omega) ?_)
     refine Nt rfl (T_storeRow 0 (hcells (p.set y ((p.getD y []).set 3 ((p.getD y []).getD 3 0 ^^^ 8)))) S130 (fun _ _ => trivial) rfl rfl rfl rfl rfl rfl rfl rfl rfl (by show _ + 1 ≤ _ * 32; omega) one_bV1 (hcells_set1 h2.1 (by omega) (by omega)) fun w132 S133 => (T_nil (TT_done (Wr ?_))))
     refine Ai (hl := by first | rfl | simp [hVs, *]) 3 S133 ?_
     refine Ag (hl := by first | rfl | simp [hVs, *]) (hl2 := by first | rfl | simp [hVs, *]) (h1 := by exact one_all rfl) 2 S133 fun w134 S135 => (T_nil (W_ret ?_))
     obtain ⟨G137, hl138, S136, r139⟩ := S135.stillRow 1 rfl
     have r140 := RdH.mk h1.1 (by decide) r139
     obtain ⟨G142, hl143, S141, r144⟩ := S136.stillRow 0 rfl
     have r145 := RdH.mk (set_all (h := (p.getD y []).set 3 ((p.getD y []).getD 3 0 ^^^ 8)) h2.1 y (by rw [List.length_set]; exact len_h h2.1 y (by omega))) (by decide) r144
     refine ⟨_, ⟨_, _, _, rfl, rfl, run_loadVarA rfl rfl (by first | rfl | simp [hVs, *]) (S141.cells 0 rfl), rfl⟩, ?_⟩
     exact sp_end (if_neg (by omega)).symm (if_neg (by omega)).symm (spV_n (by omega) (by omega)) (spP_4 (by omega) (by omega) hyp) (r140.mono hl143) r145 S141.fin S141.below
    refine Cs g_aumbry_aumbrykeep_Within ((withinN_ok S127.le b ((p.length : Nat) : Int) (by omega)).mono ?_)
    rintro e w147 ⟨rfl, hB146⟩
    have S148 := S127.call hB146
    refine ⟨_, rfl, trivial, ?_⟩
    refine T_re (v' := .int .i64 ((y : Nat) : Int)) (congrArg (Value.int .i64) hyp) (Nt rfl (Aj 3 3 S148 rfl ?_))
    refine Nt rfl ?_
    obtain ⟨g149, rfl⟩ := S148.rowAt 0 rfl (by omega)
    refine T_idxm (y * 32) rfl rfl rfl rfl rfl rfl rfl rfl (by omega) (by show 0 + Int.toNat _ * 32 = _; omega) ?_
    refine Nt rfl (T_idxAm (y * 32 + 3) rfl rfl rfl rfl rfl rfl rfl rfl (by omega) (by show _ + Int.toNat _ * 1 = _; omega) ?_)
    refine Nt rfl (T_load rfl rfl rfl rfl rfl rfl rfl (S148.rowCell 0 rfl (hcells_at1 h2.1 (by omega) (by omega))) ?_)
    refine Nt rfl (Pv ?_)
    refine T_re (v' := bV ((p.getD y []).getD 3 0 ^^^ 8)) (congrArg (Value.int .u8) (xorb8 _)) (Nt rfl (T_idxm (y * 32) rfl rfl rfl rfl rfl rfl rfl rfl (by omega) (by show 0 + Int.toNat _ * 32 = _; omega) ?_))
    refine Nt rfl (T_idxAm (y * 32 + 3) rfl rfl rfl rfl rfl rfl rfl rfl (by omega) (by show _ + Int.toNat _ * 1 = _; omega) ?_)
    refine Nt rfl (T_storeRow 0 (hcells (p.set y ((p.getD y []).set 3 ((p.getD y []).getD 3 0 ^^^ 8)))) S148 (fun _ _ => trivial) rfl rfl rfl rfl rfl rfl rfl rfl rfl (by show _ + 1 ≤ _ * 32; omega) one_bV1 (hcells_set1 h2.1 (by omega) (by omega)) fun w150 S151 => (T_nil (TT_done (Wr ?_))))
    refine Ai (hl := by first | rfl | simp [hVs, *]) 3 S151 ?_
    refine Ag (hl := by first | rfl | simp [hVs, *]) (hl2 := by first | rfl | simp [hVs, *]) (h1 := by exact one_all rfl) 2 S151 fun w152 S153 => (T_nil (W_ret ?_))
    obtain ⟨G155, hl156, S154, r157⟩ := S153.stillRow 1 rfl
    have r158 := RdH.mk h1.1 (by decide) r157
    obtain ⟨G160, hl161, S159, r162⟩ := S154.stillRow 0 rfl
    have r163 := RdH.mk (set_all (h := (p.getD y []).set 3 ((p.getD y []).getD 3 0 ^^^ 8)) h2.1 y (by rw [List.length_set]; exact len_h h2.1 y (by omega))) (by decide) r162
    refine ⟨_, ⟨_, _, _, rfl, rfl, run_loadVarA rfl rfl (by first | rfl | simp [hVs, *]) (S159.cells 0 rfl), rfl⟩, ?_⟩
    exact sp_end (if_neg (by omega)).symm (if_neg (by omega)).symm (spV_n (by omega) (by omega)) (spP_4 (by omega) (by omega) hyp) (r158.mono hl161) r163 S159.fin S159.below
   refine W_skip (Wr (Ai (hl := by first | rfl | simp [hVs, *]) 3 S30 ?_))
   refine Ag (hl := by first | rfl | simp [hVs, *]) (hl2 := by first | rfl | simp [hVs, *]) (h1 := by exact one_all rfl) 2 S30 fun w164 S165 => (T_nil (W_ret ?_))
   obtain ⟨G167, hl168, S166, r169⟩ := S165.stillRow 1 rfl
   have r170 := RdH.mk h1.1 (by decide) r169
   obtain ⟨G172, hl173, S171, r174⟩ := S166.stillRow 0 rfl
   have r175 := RdH.mk h2.1 (by decide) r174
   refine ⟨_, ⟨_, _, _, rfl, rfl, run_loadVarA rfl rfl (by first | rfl | simp [hVs, *]) (S171.cells 0 rfl), rfl⟩, ?_⟩
   exact sp_end (if_neg (by omega)).symm (if_neg (by omega)).symm (spV_n (by omega) (by omega)) (spP_n (by omega) (by omega)) (r170.mono hl173) r175 S171.fin S171.below
  refine Wr (P2 (T_nil ?_))
  refine Aa (fun h176 => ?_) (fun h176 => ?_)
  ·refine W_region (Fl 2 ?_)
   refine Aj 3 2 S30 rfl ?_
   refine Fl 2 ?_
   refine Aj 3 2 S30 rfl ?_
   refine Pv ?_
   refine Ar ?_
   refine T_re (v' := .int .i64 ((66 : Nat) : Int)) (congrArg (Value.int .i64) (by omega)) ?_
   obtain ⟨G178, hl179, S177, r180⟩ := S30.stillRow 1 rfl
   have r181 := RdH.mk h1.1 (by decide) r180
   refine T_sliceR 0 66 r181.2 rfl rfl rfl rfl rfl rfl rfl rfl rfl rfl (bound_of (by omega)) rfl (by omega) (by omega) fun a182 c183 hc184 r185 => ?_
   have r186 := RdH.cut (lo := 0) r181.1 (by first | (simp only [List.length_take, List.length_drop]; omega) | (have hcl := List.length_take (i := (66 - 0)) (l := v.drop 0); have hcd := List.length_drop (i := 0) (l := v); omega)) r185
   refine Fl 2 ?_
   refine T_store1S 2 2 S177 (fun _ _ => trivial) rfl rfl rfl rfl rfl rfl rfl rfl rfl rfl rfl rfl (show 2 < 4 by decide) fun w187 S188 => ?_
   have hE189 : (.agg #[.int .i64 sh, .int .i64 sl, .slice a8 v.length c9, .slice a15 p.length c16] : Value).cells.setIfInBounds 2 (.slice a182 (66 - 0) c183) = (.agg #[.int .i64 sh, .int .i64 sl, .slice a182 (66 - 0) c183, .slice a15 p.length c16] : Value).cells := rfl
   rw [hE189] at S188
   refine Nr (Ai (hl := by first | rfl | simp [hVs, *]) 2 S188 ?_)
   refine Ag (hl := by first | rfl | simp [hVs, *]) (hl2 := by first | rfl | simp [hVs, *]) (h1 := by exact one_all rfl) 1 S188 fun w190 S191 => (T_nil (W_ret ?_))
   obtain ⟨G193, hl194, S192, r195⟩ := S191.stillRow 0 rfl
   have r196 := RdH.mk h2.1 (by decide) r195
   refine ⟨_, ⟨_, _, _, rfl, rfl, run_loadVarA rfl rfl (by first | rfl | simp [hVs, *]) (S192.cells 0 rfl), rfl⟩, ?_⟩
   exact sp_end (if_neg (by omega)).symm (if_neg (by omega)).symm (sp5 (by omega) h67) (spP_n (by omega) (by omega)) (r186.mono hl194) r196 S192.fin S192.below
  refine Wr (P2 (T_nil ?_))
  refine Aa (fun h197 => ?_) (fun h197 => ?_)
  ·refine W_region (Fl 3 ?_)
   refine Aj 3 3 S30 rfl ?_
   refine T_buildA (cells := (hV (List.replicate 32 0)).cells) rfl rfl rfl rfl rfl rfl rfl rfl rfl rfl (T_litS (hcells [(List.replicate 32 0)]) rfl rfl rfl rfl rfl rfl rfl rfl rfl rfl rfl rfl rfl (one_h List.length_replicate) (by simp [hcells, hV, Value.cells]) fun a198 w199 hB200 ho201 => ?_)
   have S202 := S30.own hB200 ho201
   refine ⟨trivial, ?_⟩
   refine Ae (h1 := by exact one_hcells _) (hn' := by first | rfl | (simp; done) | (simp; omega) | omega) (hx' := by simp [hcells_append, hcells]) (h63 := by unfold maxLen; simp only [List.length_append, List.length_cons, List.length_nil]; omega) (hbytes := by show _ * 32 ≤ _; simp only [List.length_append, List.length_cons, List.length_nil]; omega) 1 ((p ++ [(List.replicate 32 0)]).length) (hcells (p ++ [(List.replicate 32 0)])) S202 (S202.rd 0 rfl) fun a203 c204 w205 hc206 S207 => ?_
   refine Fl 3 ?_
   refine T_store1S 4 3 S207 (fun _ _ => trivial) rfl rfl rfl rfl rfl rfl rfl rfl rfl rfl rfl rfl (show 3 < 4 by decide) fun w208 S209 => ?_
   have hE210 : (.agg #[.int .i64 sh, .int .i64 sl, .slice a8 v.length c9, .slice a15 p.length c16] : Value).cells.setIfInBounds 3 (.slice a203 ((p ++ [(List.replicate 32 0)]).length) c204) = (.agg #[.int .i64 sh, .int .i64 sl, .slice a8 v.length c9, .slice a203 ((p ++ [(List.replicate 32 0)]).length) c204] : Value).cells := rfl
   rw [hE210] at S209
   refine Nr (Ai (hl := by first | rfl | simp [hVs, *]) 4 S209 ?_)
   refine Ag (hl := by first | rfl | simp [hVs, *]) (hl2 := by first | rfl | simp [hVs, *]) (h1 := by exact one_all rfl) 3 S209 fun w211 S212 => (T_nil (W_ret ?_))
   obtain ⟨G214, hl215, S213, r216⟩ := S212.stillRow 2 rfl
   have r217 := RdH.mk h1.1 (by decide) r216
   obtain ⟨G219, hl220, S218, r221⟩ := S213.stillRow 1 rfl
   have r222 := RdH.mk (all_app h2.1 (all_h1 List.length_replicate)) (by decide) r221
   refine ⟨_, ⟨_, _, _, rfl, rfl, run_loadVarA rfl rfl (by first | rfl | simp [hVs, *]) (S218.cells 1 rfl), rfl⟩, ?_⟩
   exact sp_end (if_neg (by omega)).symm (if_neg (by omega)).symm (spV_n (by omega) (by omega)) (spP_6 (by omega)) (r217.mono hl220) r222 S218.fin S218.below
  refine W_skip (Wr (Ai (hl := by first | rfl | simp [hVs, *]) 3 S30 ?_))
  refine Ag (hl := by first | rfl | simp [hVs, *]) (hl2 := by first | rfl | simp [hVs, *]) (h1 := by exact one_all rfl) 2 S30 fun w223 S224 => (T_nil (W_ret ?_))
  obtain ⟨G226, hl227, S225, r228⟩ := S224.stillRow 1 rfl
  have r229 := RdH.mk h1.1 (by decide) r228
  obtain ⟨G231, hl232, S230, r233⟩ := S225.stillRow 0 rfl
  have r234 := RdH.mk h2.1 (by decide) r233
  refine ⟨_, ⟨_, _, _, rfl, rfl, run_loadVarA rfl rfl (by first | rfl | simp [hVs, *]) (S230.cells 0 rfl), rfl⟩, ?_⟩
  exact sp_end (if_neg (by omega)).symm (if_neg (by omega)).symm (spV_n (by omega) (by omega)) (spP_n (by omega) (by omega)) (r229.mono hl232) r234 S230.fin S230.below
 refine Aj 1 3 S7 rfl ?_
 refine Nt rfl (Cs g_aumbry_aumbrykeep_Copy_aumbry_api_Hash ((copyH_ok S7.le h1 (by omega)).mono ?_))
 rintro e w240 ⟨a235, c236, hc237, rfl, ho238, hB239⟩
 have S241 := S7.own hB239 ho238
 refine ⟨_, rfl, trivial, ?_⟩
 refine Nt rfl (Cs g_aumbry_aumbrykeep_Copy_aumbry_api_Hash ((copyH_ok S241.le h2 (by omega)).mono ?_))
 rintro e w247 ⟨a242, c243, hc244, rfl, ho245, hB246⟩
 have S248 := S241.own hB246 ho245
 refine ⟨_, rfl, trivial, ?_⟩
 refine Nt rfl (Fl 2 ?_)
 refine Nt rfl (T_store1S 3 2 S248 (fun _ _ => trivial) rfl rfl rfl rfl rfl rfl rfl rfl rfl rfl rfl rfl (show 2 < 4 by decide) fun w249 S250 => ?_)
 have hE251 : (.agg #[.int .i64 sh, .int .i64 sl, .slice a1 v.length c1, .slice a2 p.length c2] : Value).cells.setIfInBounds 2 (.slice a235 v.length c236) = (.agg #[.int .i64 sh, .int .i64 sl, .slice a235 v.length c236, .slice a2 p.length c2] : Value).cells := rfl
 rw [hE251] at S250
 refine Nt rfl (Fl 3 ?_)
 refine Nt rfl (T_store1S 3 3 S250 (fun _ _ => trivial) rfl rfl rfl rfl rfl rfl rfl rfl rfl rfl rfl rfl (show 3 < 4 by decide) fun w252 S253 => ?_)
 have hE254 : (.agg #[.int .i64 sh, .int .i64 sl, .slice a235 v.length c236, .slice a2 p.length c2] : Value).cells.setIfInBounds 3 (.slice a242 p.length c243) = (.agg #[.int .i64 sh, .int .i64 sl, .slice a235 v.length c236, .slice a242 p.length c243] : Value).cells := rfl
 rw [hE254] at S253
 refine T_nil (TT_done (W_seq (Wr (Pv ?_))))
 refine Cs g_aumbry_aumbrykeep_Within ((withinN_ok S253.le w0 (8 : Int) (by omega)).mono ?_)
 rintro e w256 ⟨rfl, hB255⟩
 have S257 := S253.call hB255
 refine ⟨_, rfl, trivial, ?_⟩
 refine T_nil (W_block (Wr (P2 (T_nil ?_))))
 refine Aa (fun h258 => ?_) (fun h258 => ?_)
 ·refine W_region (Fl 0 ?_)
  refine Aj 3 0 S257 rfl ?_
  refine P2 ?_
  refine T_re (v' := .int .i64 (b % 2)) (congrArg (Value.int .i64) (and1 hb2)) ?_
  iterate 3 refine Ar ?_
  refine Fl 0 ?_
  refine T_store1S 3 0 S257 (fun _ _ => trivial) rfl rfl rfl rfl rfl rfl rfl rfl rfl rfl rfl rfl (show 0 < 4 by decide) fun w259 S260 => ?_
  have hE261 : (.agg #[.int .i64 sh, .int .i64 sl, .slice a235 v.length c236, .slice a242 p.length c243] : Value).cells.setIfInBounds 0 (.int .i64 (sh + ((1 : Int) - ((2 : Int) * (b % 2))))) = (.agg #[.int .i64 (sh + ((1 : Int) - ((2 : Int) * (b % 2)))), .int .i64 sl, .slice a235 v.length c236, .slice a242 p.length c243] : Value).cells := rfl
  rw [hE261] at S260
  refine Nr (Ai (hl := by first | rfl | simp [hVs, *]) 3 S260 ?_)
  refine Ag (hl := by first | rfl | simp [hVs, *]) (hl2 := by first | rfl | simp [hVs, *]) (h1 := by exact one_all rfl) 2 S260 fun w262 S263 => (T_nil (W_ret ?_))
  obtain ⟨G265, hl266, S264, r267⟩ := S263.stillRow 1 rfl
  have r268 := RdH.mk h1.1 (by decide) r267
  obtain ⟨G270, hl271, S269, r272⟩ := S264.stillRow 0 rfl
  have r273 := RdH.mk h2.1 (by decide) r272
  refine ⟨_, ⟨_, _, _, rfl, rfl, run_loadVarA rfl rfl (by first | rfl | simp [hVs, *]) (S269.cells 0 rfl), rfl⟩, ?_⟩
  exact sp_end (if_pos h258).symm (if_neg (by omega)).symm (spV_n (by omega) (by omega)) (spP_n (by omega) (by omega)) (r268.mono hl271) r273 S269.fin S269.below
 refine Wr (P2 (T_nil ?_))
 refine Aa (fun h274 => ?_) (fun h274 => ?_)
 ·refine W_region (Fl 1 ?_)
  refine Aj 3 1 S257 rfl ?_
  refine P2 ?_
  refine T_re (v' := .int .i64 (b % 2)) (congrArg (Value.int .i64) (and1 hb2)) ?_
  iterate 3 refine Ar ?_
  refine Fl 1 ?_
  refine T_store1S 3 1 S257 (fun _ _ => trivial) rfl rfl rfl rfl rfl rfl rfl rfl rfl rfl rfl rfl (show 1 < 4 by decide) fun w275 S276 => ?_
  have hE277 : (.agg #[.int .i64 sh, .int .i64 sl, .slice a235 v.length c236, .slice a242 p.length c243] : Value).cells.setIfInBounds 1 (.int .i64 (sl + ((1 : Int) - ((2 : Int) * (b % 2))))) = (.agg #[.int .i64 sh, .int .i64 (sl + ((1 : Int) - ((2 : Int) * (b % 2)))), .slice a235 v.length c236, .slice a242 p.length c243] : Value).cells := rfl
  rw [hE277] at S276
  refine Nr (Ai (hl := by first | rfl | simp [hVs, *]) 3 S276 ?_)
  refine Ag (hl := by first | rfl | simp [hVs, *]) (hl2 := by first | rfl | simp [hVs, *]) (h1 := by exact one_all rfl) 2 S276 fun w278 S279 => (T_nil (W_ret ?_))
  obtain ⟨G281, hl282, S280, r283⟩ := S279.stillRow 1 rfl
  have r284 := RdH.mk h1.1 (by decide) r283
  obtain ⟨G286, hl287, S285, r288⟩ := S280.stillRow 0 rfl
  have r289 := RdH.mk h2.1 (by decide) r288
  refine ⟨_, ⟨_, _, _, rfl, rfl, run_loadVarA rfl rfl (by first | rfl | simp [hVs, *]) (S285.cells 0 rfl), rfl⟩, ?_⟩
  exact sp_end (if_neg (by omega)).symm (if_pos h274).symm (spV_n (by omega) (by omega)) (spP_n (by omega) (by omega)) (r284.mono hl287) r289 S285.fin S285.below
 refine Wr (P2 (T_nil ?_))
 refine Aa (fun h290 => ?_) (fun h290 => ?_)
 ·have hq1y := Int.emod_nonneg b (show ((v.length : Nat) : Int) ≠ 0 by omega)
  have hq2y := Int.emod_lt_of_pos b (show 0 < ((v.length : Nat) : Int) by omega)
  obtain ⟨y, hyv⟩ : ∃ zz : Nat, b % ((v.length : Nat) : Int) = (zz : Int) := ⟨(b % ((v.length : Nat) : Int)).toNat, by omega⟩
  obtain ⟨c, hc32⟩ : ∃ c : Nat, b % 32 = (c : Int) := ⟨(b % 32).toNat, by omega⟩
  refine W_tree (plan Tryz.prog) (.step 0 (.step 2 (.step 3 (.step 4 (.step 5 (.step 7 (.fork 1 6 (.step 6 (.step 8 (.step 9 (.step 10 (.step 11 (.step 12 (.step 13 (.step 14 (.step 15 .done))))))))) (.fork 1 8 (.step 8 (.step 9 (.step 10 (.step 11 (.step 12 (.step 13 (.step 14 (.step 15 .done)))))))) (.step 1 (.step 9 (.step 10 (.step 11 (.step 12 (.step 13 (.step 14 (.step 15 .done)))))))))))))))) rfl (by kernel_rfl) trivial ?_
  have S291 := S257.drew
  refine TT_step rfl (Fl 2 ?_)
  refine Nt rfl (Pv ?_)
  refine Nt rfl (Fl 2 ?_)
  refine Nt rfl (Aj 3 2 S291 rfl ?_)
  iterate 2 (refine T_nil ?_; refine TT_step rfl ?_; refine Pv ?_)
  refine T_nil (TT_fork rfl rfl ?_ ?_)
  ·refine Aj 3 2 S291 rfl ?_
   refine Nt rfl (Cs g_aumbry_aumbrykeep_Within ((withinN_ok S291.le b ((v.length : Nat) : Int) (by omega)).mono ?_))
   rintro e w293 ⟨rfl, hB292⟩
   have S294 := S291.call hB292
   refine ⟨_, rfl, trivial, ?_⟩
   refine T_re (v' := .int .i64 ((y : Nat) : Int)) (congrArg (Value.int .i64) hyv) (Nt rfl (Cs g_aumbry_aumbrykeep_Within ((withinN_ok S294.le b (32 : Int) (by omega)).mono ?_)))
   rintro e w296 ⟨rfl, hB295⟩
   have S297 := S294.call hB295
   refine ⟨_, rfl, trivial, ?_⟩
   refine T_re (v' := .int .i64 ((c : Nat) : Int)) (congrArg (Value.int .i64) hc32) (Nt rfl ?_)
   obtain ⟨g298, rfl⟩ := S297.rowAt 1 rfl (by omega)
   refine T_idxm (y * 32) rfl rfl rfl rfl rfl rfl rfl rfl (by omega) (by show 0 + Int.toNat _ * 32 = _; omega) ?_
   refine Nt rfl (T_idxAm (y * 32 + c) rfl rfl rfl rfl rfl rfl rfl rfl (by omega) (by show _ + Int.toNat _ * 1 = _; omega) ?_)
   refine Nt rfl (T_load rfl rfl rfl rfl rfl rfl rfl (S297.rowCell 1 rfl (hcells_at1 h1.1 (by omega) (by omega))) ?_)
   refine Nt rfl (Pv ?_)
   refine T_re (v' := bV ((v.getD y []).getD c 0 ^^^ 1)) (congrArg (Value.int .u8) (xorb1 _)) (Nt rfl (T_idxm (y * 32) rfl rfl rfl rfl rfl rfl rfl rfl (by omega) (by show 0 + Int.toNat _ * 32 = _; omega) ?_))
   refine Nt rfl (T_idxAm (y * 32 + c) rfl rfl rfl rfl rfl rfl rfl rfl (by omega) (by show _ + Int.toNat _ * 1 = _; omega) ?_)
   refine Nt rfl (T_storeRow 1 (hcells (v.set y ((v.getD y []).set c ((v.getD y []).getD c 0 ^^^ 1)))) S297 (fun _ _ => trivial) rfl rfl rfl rfl rfl rfl rfl rfl rfl (by show _ + 1 ≤ _ * 32; omega) one_bV1 (hcells_set1 h1.1 (by omega) (by omega)) fun w299 S300 => (T_nil (TT_done (Wr ?_))))
   refine Ai (hl := by first | rfl | simp [hVs, *]) 3 S300 ?_
   refine Ag (hl := by first | rfl | simp [hVs, *]) (hl2 := by first | rfl | simp [hVs, *]) (h1 := by exact one_all rfl) 2 S300 fun w301 S302 => (T_nil (W_ret ?_))
   obtain ⟨G304, hl305, S303, r306⟩ := S302.stillRow 1 rfl
   have r307 := RdH.mk (set_all (h := (v.getD y []).set c ((v.getD y []).getD c 0 ^^^ 1)) h1.1 y (by rw [List.length_set]; exact len_h h1.1 y (by omega))) (by decide) r306
   obtain ⟨G309, hl310, S308, r311⟩ := S303.stillRow 0 rfl
   have r312 := RdH.mk h2.1 (by decide) r311
   refine ⟨_, ⟨_, _, _, rfl, rfl, run_loadVarA rfl rfl (by first | rfl | simp [hVs, *]) (S308.cells 0 rfl), rfl⟩, ?_⟩
   exact sp_end (if_neg (by omega)).symm (if_neg (by omega)).symm (spV_3 (by omega) hyv hc32) (spP_n (by omega) (by omega)) (r307.mono hl310) r312 S308.fin S308.below
  refine Cs g_aumbry_aumbrykeep_Within ((withinN_ok S291.le b ((v.length : Nat) : Int) (by omega)).mono ?_)
  rintro e w314 ⟨rfl, hB313⟩
  have S315 := S291.call hB313
  refine ⟨_, rfl, trivial, ?_⟩
  refine T_re (v' := .int .i64 ((y : Nat) : Int)) (congrArg (Value.int .i64) hyv) (T_nil (TT_fork rfl rfl ?_ ?_))
  ·refine Aj 3 2 S315 rfl ?_
   refine Nt rfl (Cs g_aumbry_aumbrykeep_Within ((withinN_ok S315.le b (32 : Int) (by omega)).mono ?_))
   rintro e w317 ⟨rfl, hB316⟩
   have S318 := S315.call hB316
   refine ⟨_, rfl, trivial, ?_⟩
   refine T_re (v' := .int .i64 ((c : Nat) : Int)) (congrArg (Value.int .i64) hc32) (Nt rfl ?_)
   obtain ⟨g319, rfl⟩ := S318.rowAt 1 rfl (by omega)
   refine T_idxm (y * 32) rfl rfl rfl rfl rfl rfl rfl rfl (by omega) (by show 0 + Int.toNat _ * 32 = _; omega) ?_
   refine Nt rfl (T_idxAm (y * 32 + c) rfl rfl rfl rfl rfl rfl rfl rfl (by omega) (by show _ + Int.toNat _ * 1 = _; omega) ?_)
   refine Nt rfl (T_load rfl rfl rfl rfl rfl rfl rfl (S318.rowCell 1 rfl (hcells_at1 h1.1 (by omega) (by omega))) ?_)
   refine Nt rfl (Pv ?_)
   refine T_re (v' := bV ((v.getD y []).getD c 0 ^^^ 1)) (congrArg (Value.int .u8) (xorb1 _)) (Nt rfl (T_idxm (y * 32) rfl rfl rfl rfl rfl rfl rfl rfl (by omega) (by show 0 + Int.toNat _ * 32 = _; omega) ?_))
   refine Nt rfl (T_idxAm (y * 32 + c) rfl rfl rfl rfl rfl rfl rfl rfl (by omega) (by show _ + Int.toNat _ * 1 = _; omega) ?_)
   refine Nt rfl (T_storeRow 1 (hcells (v.set y ((v.getD y []).set c ((v.getD y []).getD c 0 ^^^ 1)))) S318 (fun _ _ => trivial) rfl rfl rfl rfl rfl rfl rfl rfl rfl (by show _ + 1 ≤ _ * 32; omega) one_bV1 (hcells_set1 h1.1 (by omega) (by omega)) fun w320 S321 => (T_nil (TT_done (Wr ?_))))
   refine Ai (hl := by first | rfl | simp [hVs, *]) 3 S321 ?_
   refine Ag (hl := by first | rfl | simp [hVs, *]) (hl2 := by first | rfl | simp [hVs, *]) (h1 := by exact one_all rfl) 2 S321 fun w322 S323 => (T_nil (W_ret ?_))
   obtain ⟨G325, hl326, S324, r327⟩ := S323.stillRow 1 rfl
   have r328 := RdH.mk (set_all (h := (v.getD y []).set c ((v.getD y []).getD c 0 ^^^ 1)) h1.1 y (by rw [List.length_set]; exact len_h h1.1 y (by omega))) (by decide) r327
   obtain ⟨G330, hl331, S329, r332⟩ := S324.stillRow 0 rfl
   have r333 := RdH.mk h2.1 (by decide) r332
   refine ⟨_, ⟨_, _, _, rfl, rfl, run_loadVarA rfl rfl (by first | rfl | simp [hVs, *]) (S329.cells 0 rfl), rfl⟩, ?_⟩
   exact sp_end (if_neg (by omega)).symm (if_neg (by omega)).symm (spV_3 (by omega) hyv hc32) (spP_n (by omega) (by omega)) (r328.mono hl331) r333 S329.fin S329.below
  refine Cs g_aumbry_aumbrykeep_Within ((withinN_ok S315.le b (32 : Int) (by omega)).mono ?_)
  rintro e w335 ⟨rfl, hB334⟩
  have S336 := S315.call hB334
  refine ⟨_, rfl, trivial, ?_⟩
  refine T_re (v' := .int .i64 ((c : Nat) : Int)) (congrArg (Value.int .i64) hc32) (Nt rfl (Aj 3 2 S336 rfl ?_))
  refine Nt rfl ?_
  obtain ⟨g337, rfl⟩ := S336.rowAt 1 rfl (by omega)
  refine T_idxm (y * 32) rfl rfl rfl rfl rfl rfl rfl rfl (by omega) (by show 0 + Int.toNat _ * 32 = _; omega) ?_
  refine Nt rfl (T_idxAm (y * 32 + c) rfl rfl rfl rfl rfl rfl rfl rfl (by omega) (by show _ + Int.toNat _ * 1 = _; omega) ?_)
  refine Nt rfl (T_load rfl rfl rfl rfl rfl rfl rfl (S336.rowCell 1 rfl (hcells_at1 h1.1 (by omega) (by omega))) ?_)
  refine Nt rfl (Pv ?_)
  refine T_re (v' := bV ((v.getD y []).getD c 0 ^^^ 1)) (congrArg (Value.int .u8) (xorb1 _)) (Nt rfl (T_idxm (y * 32) rfl rfl rfl rfl rfl rfl rfl rfl (by omega) (by show 0 + Int.toNat _ * 32 = _; omega) ?_))
  refine Nt rfl (T_idxAm (y * 32 + c) rfl rfl rfl rfl rfl rfl rfl rfl (by omega) (by show _ + Int.toNat _ * 1 = _; omega) ?_)
  refine Nt rfl (T_storeRow 1 (hcells (v.set y ((v.getD y []).set c ((v.getD y []).getD c 0 ^^^ 1)))) S336 (fun _ _ => trivial) rfl rfl rfl rfl rfl rfl rfl rfl rfl (by show _ + 1 ≤ _ * 32; omega) one_bV1 (hcells_set1 h1.1 (by omega) (by omega)) fun w338 S339 => (T_nil (TT_done (Wr ?_))))
  refine Ai (hl := by first | rfl | simp [hVs, *]) 3 S339 ?_
  refine Ag (hl := by first | rfl | simp [hVs, *]) (hl2 := by first | rfl | simp [hVs, *]) (h1 := by exact one_all rfl) 2 S339 fun w340 S341 => (T_nil (W_ret ?_))
  obtain ⟨G343, hl344, S342, r345⟩ := S341.stillRow 1 rfl
  have r346 := RdH.mk (set_all (h := (v.getD y []).set c ((v.getD y []).getD c 0 ^^^ 1)) h1.1 y (by rw [List.length_set]; exact len_h h1.1 y (by omega))) (by decide) r345
  obtain ⟨G348, hl349, S347, r350⟩ := S342.stillRow 0 rfl
  have r351 := RdH.mk h2.1 (by decide) r350
  refine ⟨_, ⟨_, _, _, rfl, rfl, run_loadVarA rfl rfl (by first | rfl | simp [hVs, *]) (S347.cells 0 rfl), rfl⟩, ?_⟩
  exact sp_end (if_neg (by omega)).symm (if_neg (by omega)).symm (spV_3 (by omega) hyv hc32) (spP_n (by omega) (by omega)) (r346.mono hl349) r351 S347.fin S347.below
 refine Wr (P2 (T_nil ?_))
 refine Aa (fun h352 => ?_) (fun h352 => ?_)
 ·refine Wr (Fl 3 ?_)
  refine Aj 3 3 S257 rfl ?_
  refine P2 (T_nil ?_)
  refine Aa (fun h353 => ?_) (fun h353 => ?_)
  ·have hq1y := Int.emod_nonneg b (show ((p.length : Nat) : Int) ≠ 0 by omega)
   have hq2y := Int.emod_lt_of_pos b (show 0 < ((p.length : Nat) : Int) by omega)
   obtain ⟨y, hyp⟩ : ∃ zz : Nat, b % ((p.length : Nat) : Int) = (zz : Int) := ⟨(b % ((p.length : Nat) : Int)).toNat, by omega⟩
   refine W_tree (plan Tryz.prog) (.step 0 (.step 2 (.step 3 (.step 4 (.step 5 (.fork 1 6 (.step 6 (.step 7 (.step 8 (.step 9 (.step 10 (.step 11 (.step 12 (.step 13 .done)))))))) (.step 1 (.step 7 (.step 8 (.step 9 (.step 10 (.step 11 (.step 12 (.step 13 .done)))))))))))))) rfl (by kernel_rfl) trivial ?_
   have S354 := S257.drew
   refine TT_step rfl (Fl 3 ?_)
   refine Nt rfl (Pv ?_)
   refine Nt rfl (Fl 3 ?_)
   refine Nt rfl (Aj 3 3 S354 rfl ?_)
   refine Nt rfl (Pv (T_nil ?_))
   refine TT_fork rfl rfl ?_ ?_
   ·refine Aj 3 3 S354 rfl ?_
    refine Nt rfl (Cs g_aumbry_aumbrykeep_Within ((withinN_ok S354.le b ((p.length : Nat) : Int) (by omega)).mono ?_))
    rintro e w356 ⟨rfl, hB355⟩
    have S357 := S354.call hB355
    refine ⟨_, rfl, trivial, ?_⟩
    refine T_re (v' := .int .i64 ((y : Nat) : Int)) (congrArg (Value.int .i64) hyp) (Nt rfl ?_)
    obtain ⟨g358, rfl⟩ := S357.rowAt 0 rfl (by omega)
    refine T_idxm (y * 32) rfl rfl rfl rfl rfl rfl rfl rfl (by omega) (by show 0 + Int.toNat _ * 32 = _; omega) ?_
    refine Nt rfl (T_idxAm (y * 32 + 3) rfl rfl rfl rfl rfl rfl rfl rfl (by omega) (by show _ + Int.toNat _ * 1 = _; omega) ?_)
    refine Nt rfl (T_load rfl rfl rfl rfl rfl rfl rfl (S357.rowCell 0 rfl (hcells_at1 h2.1 (by omega) (by omega))) ?_)
    refine Nt rfl (Pv ?_)
    refine T_re (v' := bV ((p.getD y []).getD 3 0 ^^^ 8)) (congrArg (Value.int .u8) (xorb8 _)) (Nt rfl (T_idxm (y * 32) rfl rfl rfl rfl rfl rfl rfl rfl (by omega) (by show 0 + Int.toNat _ * 32 = _; omega) ?_))
    refine Nt rfl (T_idxAm (y * 32 + 3) rfl rfl rfl rfl rfl rfl rfl rfl (by omega) (by show _ + Int.toNat _ * 1 = _; omega) ?_)
    refine Nt rfl (T_storeRow 0 (hcells (p.set y ((p.getD y []).set 3 ((p.getD y []).getD 3 0 ^^^ 8)))) S357 (fun _ _ => trivial) rfl rfl rfl rfl rfl rfl rfl rfl rfl (by show _ + 1 ≤ _ * 32; omega) one_bV1 (hcells_set1 h2.1 (by omega) (by omega)) fun w359 S360 => (T_nil (TT_done (Wr ?_))))
    refine Ai (hl := by first | rfl | simp [hVs, *]) 3 S360 ?_
    refine Ag (hl := by first | rfl | simp [hVs, *]) (hl2 := by first | rfl | simp [hVs, *]) (h1 := by exact one_all rfl) 2 S360 fun w361 S362 => (T_nil (W_ret ?_))
    obtain ⟨G364, hl365, S363, r366⟩ := S362.stillRow 1 rfl
    have r367 := RdH.mk h1.1 (by decide) r366
    obtain ⟨G369, hl370, S368, r371⟩ := S363.stillRow 0 rfl
    have r372 := RdH.mk (set_all (h := (p.getD y []).set 3 ((p.getD y []).getD 3 0 ^^^ 8)) h2.1 y (by rw [List.length_set]; exact len_h h2.1 y (by omega))) (by decide) r371
    refine ⟨_, ⟨_, _, _, rfl, rfl, run_loadVarA rfl rfl (by first | rfl | simp [hVs, *]) (S368.cells 0 rfl), rfl⟩, ?_⟩
    exact sp_end (if_neg (by omega)).symm (if_neg (by omega)).symm (spV_n (by omega) (by omega)) (spP_4 (by omega) (by omega) hyp) (r367.mono hl370) r372 S368.fin S368.below
   refine Cs g_aumbry_aumbrykeep_Within ((withinN_ok S354.le b ((p.length : Nat) : Int) (by omega)).mono ?_)
   rintro e w374 ⟨rfl, hB373⟩
   have S375 := S354.call hB373
   refine ⟨_, rfl, trivial, ?_⟩
   refine T_re (v' := .int .i64 ((y : Nat) : Int)) (congrArg (Value.int .i64) hyp) (Nt rfl (Aj 3 3 S375 rfl ?_))
   refine Nt rfl ?_
   obtain ⟨g376, rfl⟩ := S375.rowAt 0 rfl (by omega)
   refine T_idxm (y * 32) rfl rfl rfl rfl rfl rfl rfl rfl (by omega) (by show 0 + Int.toNat _ * 32 = _; omega) ?_
   refine Nt rfl (T_idxAm (y * 32 + 3) rfl rfl rfl rfl rfl rfl rfl rfl (by omega) (by show _ + Int.toNat _ * 1 = _; omega) ?_)
   refine Nt rfl (T_load rfl rfl rfl rfl rfl rfl rfl (S375.rowCell 0 rfl (hcells_at1 h2.1 (by omega) (by omega))) ?_)
   refine Nt rfl (Pv ?_)
   refine T_re (v' := bV ((p.getD y []).getD 3 0 ^^^ 8)) (congrArg (Value.int .u8) (xorb8 _)) (Nt rfl (T_idxm (y * 32) rfl rfl rfl rfl rfl rfl rfl rfl (by omega) (by show 0 + Int.toNat _ * 32 = _; omega) ?_))
   refine Nt rfl (T_idxAm (y * 32 + 3) rfl rfl rfl rfl rfl rfl rfl rfl (by omega) (by show _ + Int.toNat _ * 1 = _; omega) ?_)
   refine Nt rfl (T_storeRow 0 (hcells (p.set y ((p.getD y []).set 3 ((p.getD y []).getD 3 0 ^^^ 8)))) S375 (fun _ _ => trivial) rfl rfl rfl rfl rfl rfl rfl rfl rfl (by show _ + 1 ≤ _ * 32; omega) one_bV1 (hcells_set1 h2.1 (by omega) (by omega)) fun w377 S378 => (T_nil (TT_done (Wr ?_))))
   refine Ai (hl := by first | rfl | simp [hVs, *]) 3 S378 ?_
   refine Ag (hl := by first | rfl | simp [hVs, *]) (hl2 := by first | rfl | simp [hVs, *]) (h1 := by exact one_all rfl) 2 S378 fun w379 S380 => (T_nil (W_ret ?_))
   obtain ⟨G382, hl383, S381, r384⟩ := S380.stillRow 1 rfl
   have r385 := RdH.mk h1.1 (by decide) r384
   obtain ⟨G387, hl388, S386, r389⟩ := S381.stillRow 0 rfl
   have r390 := RdH.mk (set_all (h := (p.getD y []).set 3 ((p.getD y []).getD 3 0 ^^^ 8)) h2.1 y (by rw [List.length_set]; exact len_h h2.1 y (by omega))) (by decide) r389
   refine ⟨_, ⟨_, _, _, rfl, rfl, run_loadVarA rfl rfl (by first | rfl | simp [hVs, *]) (S386.cells 0 rfl), rfl⟩, ?_⟩
   exact sp_end (if_neg (by omega)).symm (if_neg (by omega)).symm (spV_n (by omega) (by omega)) (spP_4 (by omega) (by omega) hyp) (r385.mono hl388) r390 S386.fin S386.below
  refine W_skip (Wr (Ai (hl := by first | rfl | simp [hVs, *]) 3 S257 ?_))
  refine Ag (hl := by first | rfl | simp [hVs, *]) (hl2 := by first | rfl | simp [hVs, *]) (h1 := by exact one_all rfl) 2 S257 fun w391 S392 => (T_nil (W_ret ?_))
  obtain ⟨G394, hl395, S393, r396⟩ := S392.stillRow 1 rfl
  have r397 := RdH.mk h1.1 (by decide) r396
  obtain ⟨G399, hl400, S398, r401⟩ := S393.stillRow 0 rfl
  have r402 := RdH.mk h2.1 (by decide) r401
  refine ⟨_, ⟨_, _, _, rfl, rfl, run_loadVarA rfl rfl (by first | rfl | simp [hVs, *]) (S398.cells 0 rfl), rfl⟩, ?_⟩
  exact sp_end (if_neg (by omega)).symm (if_neg (by omega)).symm (spV_n (by omega) (by omega)) (spP_n (by omega) (by omega)) (r397.mono hl400) r402 S398.fin S398.below
 refine Wr (P2 (T_nil ?_))
 refine Aa (fun h403 => ?_) (fun h403 => ?_)
 ·refine W_region (Fl 2 ?_)
  refine Aj 3 2 S257 rfl ?_
  refine Fl 2 ?_
  refine Aj 3 2 S257 rfl ?_
  refine Pv ?_
  refine Ar ?_
  refine T_re (v' := .int .i64 ((66 : Nat) : Int)) (congrArg (Value.int .i64) (by omega)) ?_
  obtain ⟨G405, hl406, S404, r407⟩ := S257.stillRow 1 rfl
  have r408 := RdH.mk h1.1 (by decide) r407
  refine T_sliceR 0 66 r408.2 rfl rfl rfl rfl rfl rfl rfl rfl rfl rfl (bound_of (by omega)) rfl (by omega) (by omega) fun a409 c410 hc411 r412 => ?_
  have r413 := RdH.cut (lo := 0) r408.1 (by first | (simp only [List.length_take, List.length_drop]; omega) | (have hcl := List.length_take (i := (66 - 0)) (l := v.drop 0); have hcd := List.length_drop (i := 0) (l := v); omega)) r412
  refine Fl 2 ?_
  refine T_store1S 2 2 S404 (fun _ _ => trivial) rfl rfl rfl rfl rfl rfl rfl rfl rfl rfl rfl rfl (show 2 < 4 by decide) fun w414 S415 => ?_
  have hE416 : (.agg #[.int .i64 sh, .int .i64 sl, .slice a235 v.length c236, .slice a242 p.length c243] : Value).cells.setIfInBounds 2 (.slice a409 (66 - 0) c410) = (.agg #[.int .i64 sh, .int .i64 sl, .slice a409 (66 - 0) c410, .slice a242 p.length c243] : Value).cells := rfl
  rw [hE416] at S415
  refine Nr (Ai (hl := by first | rfl | simp [hVs, *]) 2 S415 ?_)
  refine Ag (hl := by first | rfl | simp [hVs, *]) (hl2 := by first | rfl | simp [hVs, *]) (h1 := by exact one_all rfl) 1 S415 fun w417 S418 => (T_nil (W_ret ?_))
  obtain ⟨G420, hl421, S419, r422⟩ := S418.stillRow 0 rfl
  have r423 := RdH.mk h2.1 (by decide) r422
  refine ⟨_, ⟨_, _, _, rfl, rfl, run_loadVarA rfl rfl (by first | rfl | simp [hVs, *]) (S419.cells 0 rfl), rfl⟩, ?_⟩
  exact sp_end (if_neg (by omega)).symm (if_neg (by omega)).symm (sp5 (by omega) h67) (spP_n (by omega) (by omega)) (r413.mono hl421) r423 S419.fin S419.below
 refine Wr (P2 (T_nil ?_))
 refine Aa (fun h424 => ?_) (fun h424 => ?_)
 ·refine W_region (Fl 3 ?_)
  refine Aj 3 3 S257 rfl ?_
  refine T_buildA (cells := (hV (List.replicate 32 0)).cells) rfl rfl rfl rfl rfl rfl rfl rfl rfl rfl (T_litS (hcells [(List.replicate 32 0)]) rfl rfl rfl rfl rfl rfl rfl rfl rfl rfl rfl rfl rfl (one_h List.length_replicate) (by simp [hcells, hV, Value.cells]) fun a425 w426 hB427 ho428 => ?_)
  have S429 := S257.own hB427 ho428
  refine ⟨trivial, ?_⟩
  refine Ae (h1 := by exact one_hcells _) (hn' := by first | rfl | (simp; done) | (simp; omega) | omega) (hx' := by simp [hcells_append, hcells]) (h63 := by unfold maxLen; simp only [List.length_append, List.length_cons, List.length_nil]; omega) (hbytes := by show _ * 32 ≤ _; simp only [List.length_append, List.length_cons, List.length_nil]; omega) 1 ((p ++ [(List.replicate 32 0)]).length) (hcells (p ++ [(List.replicate 32 0)])) S429 (S429.rd 0 rfl) fun a430 c431 w432 hc433 S434 => ?_
  refine Fl 3 ?_
  refine T_store1S 4 3 S434 (fun _ _ => trivial) rfl rfl rfl rfl rfl rfl rfl rfl rfl rfl rfl rfl (show 3 < 4 by decide) fun w435 S436 => ?_
  have hE437 : (.agg #[.int .i64 sh, .int .i64 sl, .slice a235 v.length c236, .slice a242 p.length c243] : Value).cells.setIfInBounds 3 (.slice a430 ((p ++ [(List.replicate 32 0)]).length) c431) = (.agg #[.int .i64 sh, .int .i64 sl, .slice a235 v.length c236, .slice a430 ((p ++ [(List.replicate 32 0)]).length) c431] : Value).cells := rfl
  rw [hE437] at S436
  refine Nr (Ai (hl := by first | rfl | simp [hVs, *]) 4 S436 ?_)
  refine Ag (hl := by first | rfl | simp [hVs, *]) (hl2 := by first | rfl | simp [hVs, *]) (h1 := by exact one_all rfl) 3 S436 fun w438 S439 => (T_nil (W_ret ?_))
  obtain ⟨G441, hl442, S440, r443⟩ := S439.stillRow 2 rfl
  have r444 := RdH.mk h1.1 (by decide) r443
  obtain ⟨G446, hl447, S445, r448⟩ := S440.stillRow 1 rfl
  have r449 := RdH.mk (all_app h2.1 (all_h1 List.length_replicate)) (by decide) r448
  refine ⟨_, ⟨_, _, _, rfl, rfl, run_loadVarA rfl rfl (by first | rfl | simp [hVs, *]) (S445.cells 1 rfl), rfl⟩, ?_⟩
  exact sp_end (if_neg (by omega)).symm (if_neg (by omega)).symm (spV_n (by omega) (by omega)) (spP_6 (by omega)) (r444.mono hl447) r449 S445.fin S445.below
 refine W_skip (Wr (Ai (hl := by first | rfl | simp [hVs, *]) 3 S257 ?_))
 refine Ag (hl := by first | rfl | simp [hVs, *]) (hl2 := by first | rfl | simp [hVs, *]) (h1 := by exact one_all rfl) 2 S257 fun w450 S451 => (T_nil (W_ret ?_))
 obtain ⟨G453, hl454, S452, r455⟩ := S451.stillRow 1 rfl
 have r456 := RdH.mk h1.1 (by decide) r455
 obtain ⟨G458, hl459, S457, r460⟩ := S452.stillRow 0 rfl
 have r461 := RdH.mk h2.1 (by decide) r460
 refine ⟨_, ⟨_, _, _, rfl, rfl, run_loadVarA rfl rfl (by first | rfl | simp [hVs, *]) (S457.cells 0 rfl), rfl⟩, ?_⟩
 exact sp_end (if_neg (by omega)).symm (if_neg (by omega)).symm (spV_n (by omega) (by omega)) (spP_n (by omega) (by omega)) (r456.mono hl459) r461 S457.fin S457.below


theorem textP_bd {d : List UInt8} (h : d.length = 64) : (textP d).length < 10000 := text2 (by decide) (by rw [List.length_take]; omega) (by rw [List.length_drop]; omega)
theorem textP2 {x : List UInt8} (h : x.length = 64) : Go.Au.text [110, 111, 100, 101] [x.take 32, (x.drop 32).take 32] = textP x := by
 rw [List.take_of_length_le (l := List.drop 32 _) (by rw [List.length_drop]; omega)]; rfl
theorem unl_end {W w : World} {H G : Hp} {D1 D2 E1 E2 : List UInt8} {a1 a2 : Option Addr} {c1 c2 : Nat} (h1 : D1 = E1) (h2 : D2 = E2) (r1 : Rd G (.slice a1 D1.length c1) D1.length 1 (D1.map bV)) (r2 : Rd G (.slice a2 D2.length c2) D2.length 1 (D2.map bV)) (hG : G.le (F.ext H W.heap.size w)) (hB : Below W.heap.size W w) :
  ∃ a c a' c', Ending.returned (.agg #[.slice a1 D1.length c1, .slice a2 D2.length c2]) = .returned (.agg #[.slice a E1.length c, .slice a' E2.length c']) ∧ Rd (F.ext H W.heap.size w) (.slice a E1.length c) E1.length 1 (E1.map bV) ∧ Rd (F.ext H W.heap.size w) (.slice a' E2.length c') E2.length 1 (E2.map bV) ∧ Below W.heap.size W w := by
 subst h1; subst h2; exact ⟨a1, c1, a2, c2, rfl, r1.mono hG, r2.mono hG, hB⟩
theorem br_end {W w : World} {H G : Hp} {A B : List UInt8} {o : Option (List UInt8 × List UInt8)} {a1 a2 : Option Addr} {c1 c2 : Nat} (h : o = some (A, B)) (r1 : Rd G (.slice a1 A.length c1) A.length 1 (A.map bV)) (r2 : Rd G (.slice a2 B.length c2) B.length 1 (B.map bV)) (hG : G.le (F.ext H W.heap.size w)) (hB : Below W.heap.size W w) :
  ∃ a c a' c', Ending.returned (.tuple #[.agg #[.slice a1 A.length c1, .slice a2 B.length c2], .bool true]) = .returned (.tuple #[.agg #[.slice a (brA o).length c, .slice a' (brB o).length c'], .bool o.isSome]) ∧ Rd (F.ext H W.heap.size w) (.slice a (brA o).length c) (brA o).length 1 ((brA o).map bV) ∧ Rd (F.ext H W.heap.size w) (.slice a' (brB o).length c') (brB o).length 1 ((brB o).map bV) ∧ Below W.heap.size W w := by
 subst h; exact ⟨a1, c1, a2, c2, rfl, r1.mono hG, r2.mono hG, hB⟩
theorem beq_ok {H : Hp} {w : World} (hH : H.le (hw w)) {l : List UInt8} {aa0 : Option Addr} {nn0 cc0 : Nat} (hv : Rd H (.slice aa0 nn0 cc0) nn0 1 (l.map bV)) {m : List UInt8} {aa1 : Option Addr} {nn1 cc1 : Nat} (hu : Rd H (.slice aa1 nn1 cc1) nn1 1 (m.map bV)) :
  Calls Tryz.prog 23 #[.slice aa0 nn0 cc0, .slice aa1 nn1 cc1] w fun e w' => e = .returned (.bool (decide (l = m))) ∧ Below w.heap.size w w' := by
 obtain rfl : nn0 = l.length := hv.lenB
 have hvcap : l.length ≤ cc0 := hv.capOf
 obtain rfl : nn1 = m.length := hu.lenB
 have hucap : m.length ≤ cc1 := hu.capOf
 refine enter2 _ Tryz.func23 rfl Tryz.ntmps23 Tryz.results23 rfl ?_
 have S0 := St.start w hH
 refine Wr (Pv (Nr ?_))
 refine Pv ?_
 refine T_convG S0 hv rfl rfl rfl rfl rfl rfl rfl rfl rfl (Pv ?_)
 refine T_convG S0 hu rfl rfl rfl rfl rfl rfl rfl rfl rfl (T_streq rfl rfl rfl rfl rfl rfl (Pv (T_nil (W_ret ?_))))
 refine ⟨_, ⟨_, _, rfl, rfl, rfl⟩, ?_⟩
 exact ⟨rfl, S0.below⟩


theorem isbr_ok {H : Hp} {w : World} (hH : H.le (hw w)) (hT : Tabs H) {A B : List UInt8} {a1 a2 : Option Addr} {n1 c1 n2 c2 : Nat} (hA : Rd H (.slice a1 n1 c1) n1 1 (A.map bV)) (hB : Rd H (.slice a2 n2 c2) n2 1 (B.map bV)) (hbA : A.length ≤ 100000) (hbB : B.length ≤ 100000) :
  Calls Tryz.prog 55 #[.agg #[.slice a1 n1 c1, .slice a2 n2 c2]] w fun e w' => e = .returned (.bool (!decide (A = B) && decide (Go.Sha.sha A = Go.Sha.sha B))) ∧ Below w.heap.size w w' := by
 obtain rfl : n1 = A.length := hA.lenB
 obtain rfl : n2 = B.length := hB.lenB
 refine enter1 _ Tryz.func55 rfl Tryz.ntmps55 Tryz.results55 rfl ?_
 have S0 := St.start w hH
 refine Wr (Ah S0 fun b1 w2 S3 => ?_)
 refine Pv (T_nil (W_seq ?_))
 obtain ⟨G5, hl6, S4, r7⟩ := S3.stillBlk 0 rfl
 refine W_plan (planF Tryz.prog G5 [14]) rfl (by kernel_rfl) S4.le ?_
 have S8 := S4.drew
 refine Fl 0 ?_
 refine Ab (r := by exact still_cell r7 rfl) S8 ?_
 refine Fl 1 ?_
 refine Ab (r := by exact still_cell r7 rfl) S8 ?_
 refine Cs g_bytes_Equal ((beq_ok S8.le (hA.mono hl6) (hB.mono hl6)).mono ?_)
 rintro e w10 ⟨rfl, hB9⟩
 have S11 := S8.call hB9
 refine ⟨_, rfl, (((Hp.le.refl _)).trans S11.le), ?_⟩
 refine P2 ?_
 refine Tn 9 (fun h12 => ?_) (fun h12 => ?_)
 ·refine Ys ?_
  refine Fl 0 ?_
  refine Ys ?_
  refine Ab (r := by exact still_cell r7 rfl) S11 ?_
  refine Ys ?_
  refine Cs g_aumbry_sha_Sum ((sumN_ok S11.le (hA.mono hl6) (by omega)).mono ?_)
  rintro e w14 ⟨rfl, hB13⟩
  have S15 := S11.call hB13
  refine ⟨_, rfl, (((Hp.le.refl _)).trans S15.le), ?_⟩
  refine Ys ?_
  refine Fl 1 ?_
  refine Ys ?_
  refine Ak (r := by exact still_cell r7 rfl) ?_
  refine Ys ?_
  refine Cs g_aumbry_sha_Sum ((sumN_ok S15.le (hB.mono hl6) (by omega)).mono ?_)
  rintro e w17 ⟨rfl, hB16⟩
  have S18 := S15.call hB16
  refine ⟨_, rfl, (((Hp.le.refl _)).trans S18.le), ?_⟩
  refine Ys ?_
  refine T_eqB (xs := Go.Sha.sha A) (ys := Go.Sha.sha B) rfl rfl rfl rfl rfl rfl rfl rfl rfl rfl rfl (Go.Sha.sha_len _) (Go.Sha.sha_len _) (P2 (T_nil (W_ret ?_)))
  refine ⟨_, ⟨_, _, rfl, rfl, rfl⟩, ?_⟩
  exact ⟨by simp [h12]; rfl, S18.below⟩
 iterate 7 refine No ?_
 refine P2 (T_nil (W_ret ?_))
 refine ⟨_, ⟨_, _, rfl, rfl, rfl⟩, ?_⟩
 exact ⟨by simp [h12]; rfl, S11.below⟩


theorem isbrR_ok {H : Hp} {w : World} (hH : H.le (hw w)) {A B : List UInt8} {a1 a2 : Option Addr} {n1 c1 n2 c2 : Nat} (hA : Rd H (.slice a1 n1 c1) n1 1 (A.map bV)) (hB : Rd H (.slice a2 n2 c2) n2 1 (B.map bV)) (hbA : A.length ≤ 100000) (hbB : B.length ≤ 100000) :
  Calls Tryz.prog 58 #[.agg #[.slice a1 n1 c1, .slice a2 n2 c2]] w fun e w' => e = .returned (.bool (!decide (A = B) && decide (Go.Sha.sha A = Go.Sha.sha B))) ∧ Below w.heap.size w w' := by
 obtain rfl : n1 = A.length := hA.lenB
 obtain rfl : n2 = B.length := hB.lenB
 refine enter1 _ Tryz.func58 rfl Tryz.ntmps58 Tryz.results58 rfl ?_
 have S0 := St.start w hH
 refine Wr (Ah S0 fun b1 w2 S3 => ?_)
 refine Pv (T_nil (W_seq ?_))
 obtain ⟨G5, hl6, S4, r7⟩ := S3.stillBlk 0 rfl
 refine W_plan (planF Tryz.prog G5 [15]) rfl (by kernel_rfl) S4.le ?_
 have S8 := S4.drew
 refine Fl 0 ?_
 refine Ab (r := by exact still_cell r7 rfl) S8 ?_
 refine T_convG S8 (hA.mono hl6) rfl rfl rfl rfl rfl rfl rfl rfl rfl (Fl 1 ?_)
 refine Ab (r := by exact still_cell r7 rfl) S8 ?_
 refine T_convG S8 (hB.mono hl6) rfl rfl rfl rfl rfl rfl rfl rfl rfl (T_strne rfl rfl rfl rfl rfl rfl (Pv ?_))
 refine Tn 10 (fun h9 => ?_) (fun h9 => ?_)
 ·refine Ys ?_
  refine Fl 0 ?_
  refine Ys ?_
  refine Ab (r := by exact still_cell r7 rfl) S8 ?_
  refine Ys ?_
  refine Cs g_aumbry_aumbryref01_Sum ((sumR_ok S8.le (hA.mono hl6) (by omega)).mono ?_)
  rintro e w11 ⟨rfl, hB10⟩
  have S12 := S8.call hB10
  refine ⟨_, rfl, (((Hp.le.refl _)).trans S12.le), ?_⟩
  refine Ys ?_
  refine Fl 1 ?_
  refine Ys ?_
  refine Ak (r := by exact still_cell r7 rfl) ?_
  refine Ys ?_
  refine Cs g_aumbry_aumbryref01_Sum ((sumR_ok S12.le (hB.mono hl6) (by omega)).mono ?_)
  rintro e w14 ⟨rfl, hB13⟩
  have S15 := S12.call hB13
  refine ⟨_, rfl, (((Hp.le.refl _)).trans S15.le), ?_⟩
  refine Ys ?_
  refine T_eqB (xs := Go.Sha.sha A) (ys := Go.Sha.sha B) rfl rfl rfl rfl rfl rfl rfl rfl rfl rfl rfl (Go.Sha.sha_len _) (Go.Sha.sha_len _) (P2 (T_nil (W_ret ?_)))
  refine ⟨_, ⟨_, _, rfl, rfl, rfl⟩, ?_⟩
  exact ⟨by simp [h9]; rfl, S15.below⟩
 iterate 7 refine No ?_
 refine P2 (T_nil (W_ret ?_))
 refine ⟨_, ⟨_, _, rfl, rfl, rfl⟩, ?_⟩
 exact ⟨by simp [h9]; rfl, S8.below⟩


theorem unlike_ok {H : Hp} {w : World} (hH : H.le (hw w)) (hT : Tabs H) {x y : List UInt8} (hx : x.length = 64) (hy : y.length = 64) :
  Calls Tryz.prog 69 #[hV x, hV y] w fun e w' => ∃ a1 c1 a2 c2, e = .returned (.agg #[.slice a1 (textP x).length c1, .slice a2 (textP y).length c2]) ∧ Rd (F.ext H w.heap.size w') (.slice a1 (textP x).length c1) (textP x).length 1 ((textP x).map bV) ∧ Rd (F.ext H w.heap.size w') (.slice a2 (textP y).length c2) (textP y).length 1 ((textP y).map bV) ∧ Below w.heap.size w w' := by
 refine enter2 _ Tryz.func69 rfl Tryz.ntmps69 Tryz.results69 rfl ?_
 have S0 := St.start w hH
 refine Wr (Ah S0 fun b1 w2 S3 => ?_)
 refine Ah S3 fun b4 w5 S6 => ?_
 refine Ac S6 fun b7 w8 S9 => (T_nil (W_seq ?_))
 obtain ⟨G11, hl12, S10, r13⟩ := S9.stillBlk 1 rfl
 refine W_plan (planF Tryz.prog G11 [11, 13]) rfl (by kernel_rfl) S10.le ?_
 have S14 := S10.drew
 refine T_idxAm 0 rfl rfl rfl rfl rfl rfl rfl rfl (by decide) rfl ?_
 have hl16 : x.length = 64 := hx
 have hl15 : (x.take 32).length = 32 := by simp only [List.length_take, List.length_drop]; omega
 refine T_loadAS ((x.take 32).map bV).toArray 1 S14 rfl rfl rfl rfl rfl rfl rfl rfl rfl (hVs hl15) (hV_cut (l := x) (q := 0) (m := 32) (by omega)) ?_
 refine T_idxAm 32 rfl rfl rfl rfl rfl rfl rfl rfl (by decide) rfl ?_
 have hl18 : x.length = 64 := hx
 have hl17 : ((x.drop 32).take 32).length = 32 := by simp only [List.length_take, List.length_drop]; omega
 refine T_loadAS (((x.drop 32).take 32).map bV).toArray 1 S14 rfl rfl rfl rfl rfl rfl rfl rfl rfl (hVs hl17) (hV_cut (l := x) (q := 32) (m := 32) (by omega)) ?_
 refine Cs g_aumbry_tree_text ((ntext_ok S14.le (hT.mono hl12) hl15 hl17).mono ?_)
 rintro e w24 ⟨a19, c20, hc21, rfl, ho22, hB23⟩
 have S25 := S14.own hB23 ho22
 refine ⟨_, rfl, (((Hp.le.refl _)).trans S25.le), ?_⟩
 refine T_idxAm 0 rfl rfl rfl rfl rfl rfl rfl rfl (by decide) rfl ?_
 have hl26 : y.length = 64 := hy
 have hl27 : (y.take 32).length = 32 := by simp only [List.length_take, List.length_drop]; omega
 refine T_loadGAP _ (fun _ h => h) (still_part r13 (hV_cut (l := y) (q := 0) (m := 32) (by omega))) rfl rfl rfl rfl rfl rfl rfl rfl (hVs hl27) ?_
 refine T_idxAm 32 rfl rfl rfl rfl rfl rfl rfl rfl (by decide) rfl ?_
 have hl28 : y.length = 64 := hy
 have hl29 : ((y.drop 32).take 32).length = 32 := by simp only [List.length_take, List.length_drop]; omega
 refine T_loadGAP _ (fun _ h => h) (still_part r13 (hV_cut (l := y) (q := 32) (m := 32) (by omega))) rfl rfl rfl rfl rfl rfl rfl rfl (hVs hl29) ?_
 refine Cs g_aumbry_tree_text ((ntext_ok S25.le (hT.mono hl12) hl27 hl29).mono ?_)
 rintro e w35 ⟨a30, c31, hc32, rfl, ho33, hB34⟩
 have S36 := S25.own hB34 ho33
 refine ⟨_, rfl, (((Hp.le.refl _)).trans S36.le), ?_⟩
 obtain ⟨G38, hl39, S37, r40⟩ := S36.stillRow 1 rfl
 obtain ⟨G42, hl43, S41, r44⟩ := S37.stillRow 0 rfl
 refine T_buildS (cells := #[.slice a19 ((Go.Au.text [110, 111, 100, 101] [(x.take 32), ((x.drop 32).take 32)]).length) c20, .slice a30 ((Go.Au.text [110, 111, 100, 101] [(y.take 32), ((y.drop 32).take 32)]).length) c31]) rfl rfl rfl rfl rfl rfl rfl rfl rfl rfl (Ag (hC := fun _ h => ((hl39.trans hl43)).trans h) (hl := by first | rfl | simp [hVs, *]) (hl2 := by first | rfl | simp [hVs, *]) (h1 := by exact one_all rfl) 0 S41 fun w45 S46 => (T_nil (W_ret ?_)))
 refine ⟨_, ⟨_, _, _, rfl, rfl, run_loadVarA rfl rfl (by first | rfl | simp [hVs, *]) (S46.cells 0 rfl), rfl⟩, ?_⟩
 exact unl_end (textP2 hx) (textP2 hy) (r40.mono hl43) r44 S46.fin S46.below


theorem break_ok {H : Hp} {w : World} (hH : H.le (hw w)) (hT : Tabs H) (n i : Int) {x y : List UInt8} (hx : x.length = 32) (hy : y.length = 32) {p : List (List UInt8)} {aa4 : Option Addr} {nn4 cc4 : Nat} (hp : RdH H (.slice aa4 nn4 cc4) 32 p) {q : List (List UInt8)} {aa5 : Option Addr} {nn5 cc5 : Nat} (hq : RdH H (.slice aa5 nn5 cc5) 32 q) :
  Calls Tryz.prog 31 #[.int .i64 n, .int .i64 i, hV x, hV y, .slice aa4 nn4 cc4, .slice aa5 nn5 cc5] w fun e w' => ∃ a1 c1 a2 c2, e = .returned (.tuple #[.agg #[.slice a1 (brA (brk n i x y p q)).length c1, .slice a2 (brB (brk n i x y p q)).length c2], .bool (brk n i x y p q).isSome]) ∧ Rd (F.ext H w.heap.size w') (.slice a1 (brA (brk n i x y p q)).length c1) (brA (brk n i x y p q)).length 1 ((brA (brk n i x y p q)).map bV) ∧ Rd (F.ext H w.heap.size w') (.slice a2 (brB (brk n i x y p q)).length c2) (brB (brk n i x y p q)).length 1 ((brB (brk n i x y p q)).map bV) ∧ Below w.heap.size w w' := by
 obtain rfl : nn4 = p.length := hp.len
 have hpcap : p.length ≤ cc4 := hp.2.capOf
 obtain rfl : nn5 = q.length := hq.len
 have hqcap : q.length ≤ cc5 := hq.2.capOf
 refine enter6 _ Tryz.func31 rfl Tryz.ntmps31 Tryz.results31 rfl ?_
 have S0 := St.start w hH
 refine Wr (Ah S0 fun b1 w2 S3 => ?_)
 refine Ah S3 fun b4 w5 S6 => ?_
 refine Ac S6 fun b7 w8 S9 => ?_
 refine Pv (Nr ?_)
 refine P2 ?_
 refine Ai (hl := by exact hVs hx) 2 S9 ?_
 refine Pv ?_
 refine Cs g_aumbry_tree_way ((way_ok S9.le hT n i hx hp).mono ?_)
 rintro e w15 ⟨a10, c11, hc12, rfl, hr13, hB14⟩
 obtain ⟨G17, eG19⟩ : ∃ G, G = F.ext H w8.heap.size w15 := ⟨_, rfl⟩
 obtain ⟨hl18, S16⟩ := S9.ext hB14
 rw [← eG19] at hl18 S16 hr13
 refine ⟨_, rfl, trivial, ?_⟩
 iterate 4 refine Pv ?_
 refine Ac S16 fun b20 w21 S22 => ?_
 refine Pv ?_
 refine Ag (hl := by exact hVs (climbH_len _ _ hx _)) (hl2 := by exact hVs (climbH_len _ _ hx _)) (h1 := by exact one_hA _) 0 S22 fun w23 S24 => ?_
 refine Pv (Nr ?_)
 refine P2 ?_
 refine Ai (hl := by exact hVs hy) 2 S24 ?_
 refine Pv ?_
 refine Cs g_aumbry_tree_way ((way_ok S24.le (hT.mono hl18) n i hy (hq.mono hl18)).mono ?_)
 rintro e w30 ⟨a25, c26, hc27, rfl, hr28, hB29⟩
 obtain ⟨G32, eG34⟩ : ∃ G, G = F.ext G17 w23.heap.size w30 := ⟨_, rfl⟩
 obtain ⟨hl33, S31⟩ := S24.ext hB29
 rw [← eG34] at hl33 S31 hr28
 refine ⟨_, rfl, trivial, ?_⟩
 iterate 4 refine Pv ?_
 refine Ac S31 fun b35 w36 S37 => ?_
 refine Pv ?_
 refine Ag (hl := by exact hVs (climbH_len _ _ hy _)) (hl2 := by exact hVs (climbH_len _ _ hy _)) (h1 := by exact one_hA _) 0 S37 fun w38 S39 => ?_
 refine Pv (T_nil (W_seq (Wr ?_)))
 refine P3 ?_
 refine Tp 41 (fun h40' => ?_) (fun h40' => ?_)
 ·have h40 := h40'
  iterate 2 refine No ?_
  refine P2 ?_
  iterate 3 refine No ?_
  refine Pv (T_nil ?_)
  refine W_cond_true rfl (Wr (T_buildS (cells := #[.slice none 0 0, .slice none 0 0]) rfl rfl rfl rfl rfl rfl rfl rfl rfl rfl (Ag (hl := by first | rfl | simp [hVs, *]) (hl2 := by first | rfl | simp [hVs, *]) (h1 := by exact one_all rfl) 2 S39 fun w41 S42 => ?_)))
  refine Pv (T_nil (W_ret ?_))
  refine ⟨_, ⟨_, _, _, rfl, rfl, run_loadVarA rfl rfl (by first | rfl | simp [hVs, *]) (S42.cells 2 rfl), ⟨_, _, rfl, rfl, rfl⟩⟩, ?_⟩
  have hno : (brk n i x y p q) = none := brk_no1 (by simpa using h40)
  rw [hno]
  exact ⟨none, 0, none, 0, rfl, nilB _, nilB _, S42.below⟩
 have h40 := h40'
 iterate 2 (refine Ys ?_; refine Pv ?_)
 refine P2 ?_
 refine Tp 45 (fun h43' => ?_) (fun h43' => ?_)
 ·have h43 := h43'
  iterate 3 refine No ?_
  refine Pv (T_nil ?_)
  refine W_cond_true rfl (Wr (T_buildS (cells := #[.slice none 0 0, .slice none 0 0]) rfl rfl rfl rfl rfl rfl rfl rfl rfl rfl (Ag (hl := by first | rfl | simp [hVs, *]) (hl2 := by first | rfl | simp [hVs, *]) (h1 := by exact one_all rfl) 2 S39 fun w44 S45 => ?_)))
  refine Pv (T_nil (W_ret ?_))
  refine ⟨_, ⟨_, _, _, rfl, rfl, run_loadVarA rfl rfl (by first | rfl | simp [hVs, *]) (S45.cells 2 rfl), ⟨_, _, rfl, rfl, rfl⟩⟩, ?_⟩
  have hno : (brk n i x y p q) = none := brk_no2 (by simpa using h43)
  rw [hno]
  exact ⟨none, 0, none, 0, rfl, nilB _, nilB _, S45.below⟩
 have h43 := h43'
 refine Ys ?_
 refine Ai (hl := by exact hVs (climbH_len _ _ hx _)) 1 S39 ?_
 refine Ys ?_
 refine Ai (hl := by exact hVs (climbH_len _ _ hy _)) 0 S39 ?_
 refine Ys ?_
 refine T_neB (xs := climbH n i x p) (ys := climbH n i y q) rfl rfl rfl rfl rfl rfl rfl rfl rfl rfl rfl (climbH_len _ _ hx _) (climbH_len _ _ hy _) (Pv (T_nil ?_))
 refine W_cond_not rfl (fun h46 => ?_) (fun h46 => ?_)
 ·refine Wr (T_buildS (cells := #[.slice none 0 0, .slice none 0 0]) rfl rfl rfl rfl rfl rfl rfl rfl rfl rfl (Ag (hl := by first | rfl | simp [hVs, *]) (hl2 := by first | rfl | simp [hVs, *]) (h1 := by exact one_all rfl) 2 S39 fun w47 S48 => ?_))
  refine Pv (T_nil (W_ret ?_))
  refine ⟨_, ⟨_, _, _, rfl, rfl, run_loadVarA rfl rfl (by first | rfl | simp [hVs, *]) (S48.cells 2 rfl), ⟨_, _, rfl, rfl, rfl⟩⟩, ?_⟩
  have hno : (brk n i x y p q) = none := brk_no3 h46
  rw [hno]
  exact ⟨none, 0, none, 0, rfl, nilB _, nilB _, S48.below⟩
 refine W_skip (W_seq (Wr ?_))
 have hok1 : okW n i p.length = true := by simpa using h40
 have hok2 : okW n i q.length = true := by simpa using h43
 have hcl : climbH n i x p = climbH n i y q := by simpa using h46
 have hXl := waysH_len (x := x) hok1
 have hYl := waysH_len (x := y) hok2
 have hO1 := okW_of hok1
 have hO2 := okW_of hok2
 have hlg := lg_le (n := n.toNat) (m := 8) (by omega)
 refine P2 ?_
 refine Ar ?_
 refine Pv (T_nil (W_block ?_))
 refine W_loop (fun M ρ w' => ∃ (k : Nat) (G49 : Hp), M = 1 + k ∧ k ≤ p.length ∧ lastNe (waysH n i x p) (waysH n i y q) p.length = lastNe (waysH n i x p) (waysH n i y q) k ∧ ρ = [(12, .pointer (some ⟨b7, 0, none⟩)), (14, .slice a10 (waysH n i x p).length c11), (17, .slice a25 (waysH n i y q).length c26), (20, .int .i64 (((k : Nat) : Int) - 1))] ∧ G32.le G49 ∧ St w H G49 [.blk b35 (hV (climbH n i y q) : Value).cells 37, .blk b20 (hV (climbH n i x p) : Value).cells 37, .blk b7 (.agg #[.slice none 0 0, .slice none 0 0] : Value).cells 35, .blk b4 (hV y : Value).cells 37, .blk b1 (hV x : Value).cells 37] w')
  (1 + p.length) [(12, .pointer (some ⟨b7, 0, none⟩)), (14, .slice a10 (waysH n i x p).length c11), (17, .slice a25 (waysH n i y q).length c26), (20, .int .i64 (((p.length : Nat) : Int) - 1))] ⟨rfl, rfl, rfl, ciI, trivial⟩ ⟨p.length, G32, rfl, (by omega), (by rfl), rfl, Hp.le.refl _, S39⟩ ?_
 rintro M ρ w51 ⟨k, G49, rfl, hp53, hinv, rfl, hl50, S52⟩
 refine W_seq (Wr (P2 (T_nil ?_)))
 refine Aa (fun h55 => ?_) (fun h55 => ?_)
 ·refine W_skip (W_seq (W_block (W_seq (W_draw rfl (by kernel_rfl) ?_))))
  have S56 := S52.drew
  obtain ⟨j, rfl⟩ : ∃ j, k = j + 1 := ⟨k - 1, by omega⟩
  refine P2 ?_
  refine Af j (hr13.mono (hl33.trans hl50)).2 fun b57 o58 hc59 => ?_
  have hc60 := cells_h (hr13.mono (hl33.trans hl50)).1 j (by omega) hc59
  have hl61 := len_h (hr13.mono (hl33.trans hl50)).1 j (by omega)
  refine T_loadGA _ S56 hc60 rfl rfl rfl rfl rfl rfl rfl rfl (hVs hl61) (P2 ?_)
  refine Af j (hr28.mono hl50).2 fun b62 o63 hc64 => ?_
  have hc65 := cells_h (hr28.mono hl50).1 j (by omega) hc64
  have hl66 := len_h (hr28.mono hl50).1 j (by omega)
  refine T_loadGA _ S56 hc65 rfl rfl rfl rfl rfl rfl rfl rfl (hVs hl66) (T_neP (len := 32) (xs := (waysH n i x p).getD j []) (ys := (waysH n i y q).getD j []) rfl rfl rfl rfl rfl rfl rfl rfl rfl rfl rfl rfl rfl rfl rfl hl61 hl66 (T_nil (W_cond_not rfl (fun h67 => ?_) (fun h67 => ?_))))
  ·refine W_seq (W_draw rfl (by kernel_rfl) ?_)
   have S68 := S56.drew
   refine P2 ?_
   refine Af j (hr13.mono (hl33.trans hl50)).2 fun b69 o70 hc71 => ?_
   have hc72 := cells_h (hr13.mono (hl33.trans hl50)).1 j (by omega) hc71
   have hl73 := len_h (hr13.mono (hl33.trans hl50)).1 j (by omega)
   refine T_loadGA _ S68 hc72 rfl rfl rfl rfl rfl rfl rfl rfl (hVs hl73) (P2 ?_)
   refine Af j (hr28.mono hl50).2 fun b74 o75 hc76 => ?_
   have hc77 := cells_h (hr28.mono hl50).1 j (by omega) hc76
   have hl78 := len_h (hr28.mono hl50).1 j (by omega)
   refine T_loadGA _ S68 hc77 rfl rfl rfl rfl rfl rfl rfl rfl (hVs hl78) (Cs g_aumbry_tree_unlike ((unlike_ok S68.le (hT.mono (hl18.trans (hl33.trans hl50))) hl73 hl78).mono ?_))
   rintro e w86 ⟨a79, c80, a81, c82, rfl, r83, r84, hB85⟩
   obtain ⟨G88, eG90⟩ : ∃ G, G = F.ext G49 w51.drew.drew.heap.size w86 := ⟨_, rfl⟩
   obtain ⟨hl89, S87⟩ := S68.ext hB85
   rw [← eG90] at hl89 S87 r83 r84
   refine ⟨_, rfl, trivial, ?_⟩
   refine Ag (hl := by first | rfl | simp [hVs, *]) (hl2 := by first | rfl | simp [hVs, *]) (h1 := by exact one_all rfl) 2 S87 fun w91 S92 => ?_
   refine Pv (T_nil (W_ret ?_))
   refine ⟨_, ⟨_, _, _, rfl, rfl, run_loadVarA rfl rfl (by first | rfl | simp [hVs, *]) (S92.cells 2 rfl), ⟨_, _, rfl, rfl, rfl⟩⟩, ?_⟩
   have hyes := brk_eq (a := x) (b := y) hok1 hok2 hcl (hinv.trans (lastNe_at h67))
   exact br_end hyes r83 r84 S92.fin S92.below
  refine W_skip (W_region (Pv ?_))
  refine Ar ?_
  refine Pv (T_nil ?_)
  have HEQ := hinv.trans (lastNe_eq h67)
  exact ⟨1 + j, [(12, .pointer (some ⟨b7, 0, none⟩)), (14, .slice a10 (waysH n i x p).length c11), (17, .slice a25 (waysH n i y q).length c26), (20, .int .i64 (((j : Nat) : Int) - 1))], by omega, ⟨rfl, rfl, rfl, ciI, trivial⟩, j, G49, rfl, (by omega), (by exact HEQ), rfl, hl50, S56⟩
 refine W_exit (Wr (T_buildS (cells := #[.slice none 0 0, .slice none 0 0]) rfl rfl rfl rfl rfl rfl rfl rfl rfl rfl (Ag (hl := by first | rfl | simp [hVs, *]) (hl2 := by first | rfl | simp [hVs, *]) (h1 := by exact one_all rfl) 2 S52 fun w93 S94 => ?_)))
 refine Pv (T_nil (W_ret ?_))
 refine ⟨_, ⟨_, _, _, rfl, rfl, run_loadVarA rfl rfl (by first | rfl | simp [hVs, *]) (S94.cells 2 rfl), ⟨_, _, rfl, rfl, rfl⟩⟩, ?_⟩
 obtain rfl : k = 0 := by omega
 have hno : (brk n i x y p q) = none := brk_eq hok1 hok2 hcl hinv
 rw [hno]
 exact ⟨none, 0, none, 0, rfl, nilB _, nilB _, S94.below⟩


theorem sameRef_ok {H : Hp} {w : World} (hH : H.le (hw w)) {l : List (List UInt8)} {aa0 : Option Addr} {nn0 cc0 : Nat} (hv : RdH H (.slice aa0 nn0 cc0) 32 l) {m : List (List UInt8)} {aa1 : Option Addr} {nn1 cc1 : Nat} (hu : RdH H (.slice aa1 nn1 cc1) 32 m) (hb : l.length ≤ 9223372036854775806) :
  Calls Tryz.prog 78 #[.slice aa0 nn0 cc0, .slice aa1 nn1 cc1] w fun e w' => e = .returned (.bool (decide (l = m))) ∧ Below w.heap.size w w' := by
 obtain rfl : nn0 = l.length := hv.len
 have hvcap : l.length ≤ cc0 := hv.2.capOf
 obtain rfl : nn1 = m.length := hu.len
 have hucap : m.length ≤ cc1 := hu.2.capOf
 refine enter2 _ Tryz.func78 rfl Tryz.ntmps78 Tryz.results78 rfl ?_
 have S0 := St.start w hH
 refine Wr (Pv (T_nil (W_seq (Wr ?_))))
 iterate 5 refine Pv ?_
 refine T_nil (W_cond_not rfl (fun h1 => ?_) (fun h1 => ?_))
 ·refine Wr (Pv (T_nil (W_ret ?_)))
  refine ⟨_, ⟨_, _, rfl, rfl, rfl⟩, ?_⟩
  exact ⟨congrArg (fun z => Ending.returned (Value.bool z)) (decide_eq_false (fun e => h1 (by rw [e]))).symm, S0.below⟩
 refine W_skip (W_seq (Wr (P3 (T_nil (W_block ?_)))))
 refine W_loop (fun M ρ w' => ∃ (k : Nat) (G2 : Hp), M = l.length - k ∧ k ≤ l.length ∧ l.take k = m.take k ∧ ρ = [(0, .slice aa0 l.length cc0), (1, .slice aa1 m.length cc1), (12, .int .i64 ((l.length : Nat) : Int)), (13, .int .i64 (k : Int))] ∧ H.le G2 ∧ St w H G2 [] w')
  (l.length - 0) [(0, .slice aa0 l.length cc0), (1, .slice aa1 m.length cc1), (12, .int .i64 ((l.length : Nat) : Int)), (13, .int .i64 ((0 : Nat) : Int))] ⟨rfl, rfl, ciI, ciI, trivial⟩ ⟨0, H, rfl, (by omega), (by simp), rfl, Hp.le.refl _, S0⟩ ?_
 rintro M ρ w4 ⟨k, G2, rfl, hp6, hq, rfl, hl3, S5⟩
 refine Wr (Pv (T_nil (W_seq ?_)))
 refine Aa (fun h8 => ?_) (fun h8 => ?_)
 ·refine W_skip (W_seq (W_block (Wr (P2 (T_nil (W_seq ?_))))))
  refine W_draw rfl (by kernel_rfl) ?_
  have S9 := S5.drew
  refine P2 ?_
  refine Af k (hv.mono hl3).2 fun b10 o11 hc12 => ?_
  have hc13 := cells_h (hv.mono hl3).1 k (by omega) hc12
  have hl14 := len_h (hv.mono hl3).1 k (by omega)
  refine T_loadGA _ S9 hc13 rfl rfl rfl rfl rfl rfl rfl rfl (hVs hl14) (P2 ?_)
  refine Af k (hu.mono hl3).2 fun b15 o16 hc17 => ?_
  have hc18 := cells_h (hu.mono hl3).1 k (by omega) hc17
  have hl19 := len_h (hu.mono hl3).1 k (by omega)
  refine T_loadGA _ S9 hc18 rfl rfl rfl rfl rfl rfl rfl rfl (hVs hl19) (T_neB (xs := l.getD k []) (ys := m.getD k []) rfl rfl rfl rfl rfl rfl rfl rfl rfl rfl rfl hl14 hl19 (T_nil (W_cond_not rfl (fun h20 => ?_) (fun h20 => ?_))))
  ·refine Wr (Pv (T_nil (W_ret ?_)))
   refine ⟨_, ⟨_, _, rfl, rfl, rfl⟩, ?_⟩
   exact ⟨congrArg (fun z => Ending.returned (Value.bool z)) (decide_eq_false (getD_ne (d := []) h20)).symm, S9.below⟩
  refine W_skip (W_region (Ar ?_))
  refine Pv (T_nil ?_)
  have HEQ : l.getD k [] = m.getD k [] := by exact h20
  exact ⟨l.length - (k + 1), [(0, .slice aa0 l.length cc0), (1, .slice aa1 m.length cc1), (12, .int .i64 ((l.length : Nat) : Int)), (13, .int .i64 ((k + 1 : Nat) : Int))], by omega, ⟨rfl, rfl, ciI, ciI, trivial⟩, k + 1, G2, rfl, (by omega), (by exact take_ext (d := []) (by omega) (by omega) hq HEQ), rfl, hl3, S9⟩
 refine W_exit (Wr (Pv (T_nil (W_ret ?_))))
 refine ⟨_, ⟨_, _, rfl, rfl, rfl⟩, ?_⟩
 have hk : k = l.length := by omega
 have heq : l = m := by rw [hk, List.take_length, List.take_of_length_le (by omega)] at hq; exact hq
 exact ⟨congrArg (fun z => Ending.returned (Value.bool z)) (decide_eq_true heq).symm, S5.below⟩

end Go.Proofs.YtfcejolipdcoaaaGreatDoor
