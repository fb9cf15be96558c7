/- Files of other sizes: the statement. -/
import Derived.Test.YtmjmjjkigblbgaaGreatDoorMad
import Derived.Test.YtmjmjjkigblbgaaGreatDoorLayZB
import Derived.Test.YtmjmjjkigblbgaaGreatDoorAuDoor
import Derived.Test.YtmjmjjkigblbgaaGreatDoorAuMade
set_option linter.unusedVariables false
set_option linter.unusedSimpArgs false
set_option maxRecDepth 8192
namespace Go.Proofs.YtmjmjjkigblbgaaGreatDoor
open Go Go.F Go.RowKit
open Go.Au

set_option maxHeartbeats 2000000 in
theorem layoutOthers_ok {H : Hp} {w : World} (hH : H.le (hw w)) (hT : Tabs H) {key : List UInt8} (hky : key.length = 16) {l : List UInt8} {aa1 : Option Addr} {nn1 cc1 : Nat} (hv : Rd H (.slice aa1 nn1 cc1) nn1 1 (l.map bV)) (k0 n0 i0 j0 : Int) :
  Calls Tryz.prog 3 #[hV key, .slice aa1 nn1 cc1, .int .i64 k0, .int .i64 n0, .int .i64 i0, .int .i64 j0] w fun e w' => e = .returned (.bool true) ∧ Below w.heap.size w w' := by
 obtain rfl : nn1 = l.length := hv.lenB
 have hvcap : l.length ≤ cc1 := hv.capOf
 obtain ⟨n, hn⟩ : ∃ z : Nat, 1 + n0 % 5 = (z : Int) := ⟨(1 + n0 % 5).toNat, by omega⟩
 have hn5 : 1 ≤ n ∧ n ≤ 5 := by omega
 have hk1 := Int.emod_nonneg k0 (show ((n : Nat) : Int) ≠ 0 by omega)
 have hk2 := Int.emod_lt_of_pos k0 (show 0 < ((n : Nat) : Int) by omega)
 obtain ⟨k, hk⟩ : ∃ z : Nat, 1 + k0 % ((n : Nat) : Int) = (z : Int) := ⟨(1 + k0 % ((n : Nat) : Int)).toNat, by omega⟩
 have hkn : 1 ≤ k ∧ k ≤ n := by omega
 have hl1 : (l.take 100).length ≤ 100 := List.length_take_le _ _
 obtain ⟨L, hL⟩ : ∃ L, ((l.take 100).take 150).length + 1 = L := ⟨_, rfl⟩
 obtain ⟨M, hM⟩ : ∃ M, (([(3 : UInt8)] ++ l.take 100).take 150).length + 1 = M := ⟨_, rfl⟩
 have hd2 : ([(3 : UInt8)] ++ l.take 100).length = 1 + (l.take 100).length := by rw [List.length_append]; rfl
 have hL1 : L = (l.take 100).length + 1 := by rw [← hL, List.take_of_length_le (by omega)]
 have hM1 : M = L + 1 := by rw [← hM, List.take_of_length_le (by omega), hd2, hL1]; omega
 have hi1 := Int.emod_nonneg i0 (show ((n : Nat) : Int) ≠ 0 by omega)
 have hi2 := Int.emod_lt_of_pos i0 (show 0 < ((n : Nat) : Int) by omega)
 obtain ⟨i, hi⟩ : ∃ z : Nat, i0 % ((n : Nat) : Int) = (z : Int) := ⟨(i0 % ((n : Nat) : Int)).toNat, by omega⟩
 have hj1 := Int.emod_nonneg j0 (show ((n : Nat) : Int) ≠ 0 by omega)
 have hj2 := Int.emod_lt_of_pos j0 (show 0 < ((n : Nat) : Int) by omega)
 obtain ⟨j, hj⟩ : ∃ z : Nat, j0 % ((n : Nat) : Int) = (z : Int) := ⟨(j0 % ((n : Nat) : Int)).toNat, by omega⟩
 refine enter6 _ Tryz.func3 rfl Tryz.ntmps3 Tryz.results3 rfl ?_
 have S0 := St.start w hH
 refine Wr (Al S0 fun b81 w82 S83 => ?_)
 refine Pv (Nr ?_)
 refine Pv ?_
 refine Cs g_aumbry_aumbrykeep_Cut_byte ((cutB_ok S83.le hv 100).mono ?_)
 rintro e w89 ⟨a84, c85, hc86, rfl, hr87, hB88⟩
 have S90 := S83.call hB88
 refine ⟨_, rfl, trivial, ?_⟩
 refine Pv (Nr ?_)
 refine Ak (hl := by exact hVs hky) 0 S90 ?_
 iterate 3 refine Pv ?_
 refine Cs g_aumbry_aumbrylaw14_made ((made_ok S90.le hky hr87 k0 n0 k n hn hk hL).mono ?_)
 rintro e w99 ⟨a91, c92, E93, ch94, rfl, hch96, r95, hE97, hB98⟩
 obtain ⟨G101, eG103⟩ : ∃ G, G = F.ext H w89.heap.size w99 := ⟨_, rfl⟩
 obtain ⟨hl102, S100⟩ := S90.ext hB98
 rw [← eG103] at hl102 S100 r95
 refine ⟨_, rfl, trivial, ?_⟩
 iterate 4 refine Pv ?_
 refine Ad S100 fun b104 w105 S106 => ?_
 refine Ah (hl := by exact gV_size (L := [[.int .i64 1], key.map bV, (tagged [117, 101, 98] [(lay k n L E93 ch94)]).map bV, [.int .i64 ((k : Nat) : Int)], [.int .i64 ((n : Nat) : Int)], [.int .i64 ((L : Nat) : Int)], [.slice none 0 0]]) (shCp hky (tagged_len _ _)) rfl) (hl2 := by exact gV_size (L := [[.int .i64 1], key.map bV, (tagged [117, 101, 98] [(lay k n L E93 ch94)]).map bV, [.int .i64 ((k : Nat) : Int)], [.int .i64 ((n : Nat) : Int)], [.int .i64 ((L : Nat) : Int)], [.slice none 0 0]]) (shCp hky (tagged_len _ _)) rfl) (h1 := by exact gV_one (OneL.one rfl (OneL.arr (OneL.arr (OneL.one rfl (OneL.one rfl (OneL.one rfl (OneL.one rfl OneL.nil)))))))) 0 S106 fun w107 S108 => ?_
 iterate 2 refine Pv ?_
 refine T_nil (W_j1 (fun ρ w' => ∃ (b141 : Nat) (a128 : Option Addr) (c129 : Nat) (E130 : List (List (List UInt8))) (ch131 : List UInt8) (G147 : Hp), ρ = [(4, .int .i64 i0), (5, .int .i64 j0), (13, .pointer (some ⟨b104, 0, none⟩)), (14, .slice a91 n c92), (15, .int .i64 ((n : Nat) : Int)), (16, .pointer (some ⟨b141, 0, none⟩)), (17, .slice a128 n c129)] ∧ G101.le G147 ∧ St w H G147 [.blk b104 (gV [[.int .i64 1], key.map bV, (tagged [117, 101, 98] [(lay k n L E93 ch94)]).map bV, [.int .i64 ((k : Nat) : Int)], [.int .i64 ((n : Nat) : Int)], [.int .i64 ((L : Nat) : Int)], [.slice none 0 0]] : Value).cells 29, .blk b141 (gV [[.int .i64 1], key.map bV, (tagged [117, 101, 98] [(lay k n M E130 ch131)]).map bV, [.int .i64 ((k : Nat) : Int)], [.int .i64 ((n : Nat) : Int)], [.int .i64 ((M : Nat) : Int)], [.slice none 0 0]] : Value).cells 29] w' ∧ Rd G147 (.slice none 0 0) 0 1 (([] : List UInt8).map bV) ∧ RdSh G147 (.slice a128 n c129) n (lay k n M E130 ch131) (fun z => Go.Au.beside (rowP (lvs n E130)) z (lg (lvs n E130).length)) (blk E130) ∧ ch131.length = 32 ∧ EOK k n M E130) ?_ (fun J151 => ?_))
 ·rintro ρ w150 ⟨b141, a128, c129, E130, ch131, G147, rfl, hl148, S149, r152, r153, hch133, hE134⟩
  refine Wr ?_
  iterate 2 refine Pv ?_
  refine Cs g_aumbry_aumbrykeep_Within ((withinN_ok S149.le i0 ((n : Nat) : Int) (by omega)).mono ?_)
  rintro e w155 ⟨rfl, hB154⟩
  have S156 := S149.call hB154
  refine ⟨_, rfl, trivial, ?_⟩
  refine T_re (v' := .int .i64 ((i : Nat) : Int)) (congrArg (Value.int .i64) hi) ?_
  iterate 2 refine Pv ?_
  refine Cs g_aumbry_aumbrykeep_Within ((withinN_ok S156.le j0 ((n : Nat) : Int) (by omega)).mono ?_)
  rintro e w158 ⟨rfl, hB157⟩
  have S159 := S156.call hB157
  refine ⟨_, rfl, trivial, ?_⟩
  refine T_re (v' := .int .i64 ((j : Nat) : Int)) (congrArg (Value.int .i64) hj) ?_
  iterate 2 refine Pv ?_
  refine Nr ?_
  iterate 2 refine Pv ?_
  obtain ⟨f163, f164, f165, f166, r167, hs168⟩ := (r95.mono hl148)
  refine Ag i r167 fun b160 o161 hc162 => ?_
  obtain ⟨a169, c170, a171, c172, a173, c174, e175, e176, e177, e178, r179, r180, r181⟩ := hs168 i (by omega)
  have hc182 : ∀ (j : Nat) (u : Value), (#[.int .i64 ((i : Nat) : Int), .slice a169 (lay k n L E93 ch94).length c170, .slice a171 (Go.Au.beside (rowP (lvs n E93)) i (lg (lvs n E93).length)).length c172, .slice a173 (blk E93 i).length c174] : Array Value)[j]? = some u → hcell G147 b160 (o161 + j) = some u := fun j u hu => hc162 j u (shrC_agg (fa := f163) (fb := f164) (fc := f165) (fd := f166) (by omega) j u (by rw [e175, e176, e177, e178]; exact hu))
  have r183 : Rd G147 (.slice a169 (lay k n L E93 ch94).length c170) (lay k n L E93 ch94).length 1 ((lay k n L E93 ch94).map bV) := r179
  have r184 : RdH G147 (.slice a171 (Go.Au.beside (rowP (lvs n E93)) i (lg (lvs n E93).length)).length c172) 32 (Go.Au.beside (rowP (lvs n E93)) i (lg (lvs n E93).length)) := r180
  have r185 : RdL G147 (.slice a173 (blk E93 i).length c174) (blk E93 i) := r181
  refine T_loadGA _ S159 hc182 rfl rfl rfl rfl rfl rfl rfl rfl (by first | rfl | simp [hVs, *]) ?_
  refine Ad S159 fun b186 w187 S188 => ?_
  refine Ah (hl := by first | rfl | simp [hVs, *]) (hl2 := by first | rfl | simp [hVs, *]) (h1 := by exact one_all rfl) 0 S188 fun w189 S190 => (T_nil ?_)
  iterate 2 refine W_seq ?_
  have hok1 := made_right (k := k) (n := n) (L := L) (E := E93) (ch := ch94) (by omega) (by omega) hch96 hE97 (show i < n by omega)
  have hul : (lay k n L E93 ch94).length ≤ 200 := lay_len hch96
  have hpl : (Go.Au.beside (rowP (lvs n E93)) i (lg (lvs n E93).length)).length ≤ 6 := Nat.le_trans (prf_len (by omega)) (by decide)
  have hbl := blk_no (by omega) hE97 i
  have HX1 : ∀ x ∈ blk E93 i, x.length < 1000 := blkE_lt rfl hE97.2 (by omega)
  have hbl2 := blk_no (by omega) hE134 i
  have HX2 : ∀ x ∈ blk E130 i, x.length < 1000 := blkE_lt rfl hE134.2 (by omega)
  have HB : 4 ≤ 20 := by decide
  refine W_region (Ak (hl := by exact gV_size (L := [[.int .i64 1], key.map bV, (tagged [117, 101, 98] [(lay k n L E93 ch94)]).map bV, [.int .i64 ((k : Nat) : Int)], [.int .i64 ((n : Nat) : Int)], [.int .i64 ((L : Nat) : Int)], [.slice none 0 0]]) (shCp hky (tagged_len _ _)) rfl) 1 S190 ?_)
  refine Ak (hl := by first | rfl | simp [hVs, *]) 0 S190 ?_
  refine Cs g_aumbry_layout_RightShare ((rightS_ok S190.le (hT.mono (hl102.trans hl148)) (1 : Int) ((k : Nat) : Int) ((n : Nat) : Int) ((L : Nat) : Int) hky (tagged_len _ _) ((nilB _).mono hl148) ((i : Nat) : Int) r183 r184 r185 hul hpl (Nat.le_trans hbl HB) HX1).mono ?_)
  rintro e w192 ⟨rfl, hB191⟩
  have S193 := S190.call hB191
  refine ⟨_, rfl, trivial, ?_⟩
  iterate 3 refine Pv ?_
  refine Ad S193 fun b194 w195 S196 => ?_
  refine Ah (hl := by exact qV_sz (q_len (rsH4 _ _) (rsH5 _ _) rfl)) (hl2 := by exact qV_sz (q_len (rsH4 _ _) (rsH5 _ _) rfl)) (h1 := by exact qV_one) 0 S196 fun w197 S198 => ?_
  refine Pv (Nr ?_)
  iterate 2 refine Pv ?_
  refine T_nil (W_bool 73 false rfl (ndec_f hok1) (W_cond_false rfl (W_skip (W_seq (Wr (Ak (hl := by exact gV_size (L := [[.int .i64 1], key.map bV, (tagged [117, 101, 98] [(lay k n M E130 ch131)]).map bV, [.int .i64 ((k : Nat) : Int)], [.int .i64 ((n : Nat) : Int)], [.int .i64 ((M : Nat) : Int)], [.slice none 0 0]]) (shCp hky (tagged_len _ _)) rfl) 3 S198 ?_))))))
  refine Ak (hl := by first | rfl | simp [hVs, *]) 1 S198 ?_
  refine Cs g_aumbry_layout_RightShare ((rightS_ok S198.le (hT.mono (hl102.trans hl148)) (1 : Int) ((k : Nat) : Int) ((n : Nat) : Int) ((M : Nat) : Int) hky (tagged_len _ _) r152 ((i : Nat) : Int) r183 r184 r185 hul hpl (Nat.le_trans hbl HB) HX1).mono ?_)
  rintro e w200 ⟨rfl, hB199⟩
  have S201 := S198.call hB199
  refine ⟨_, rfl, trivial, ?_⟩
  iterate 3 refine Pv ?_
  refine Ad S201 fun b202 w203 S204 => ?_
  refine Ah (hl := by exact qV_sz (q_len (rsH4 _ _) (rsH5 _ _) rfl)) (hl2 := by exact qV_sz (q_len (rsH4 _ _) (rsH5 _ _) rfl)) (h1 := by exact qV_one) 0 S204 fun w205 S206 => ?_
  refine Pv (Nr ?_)
  refine Pv (T_nil ?_)
  refine W_bool 80 false rfl (decide_eq_false (made_wrong (by omega) (by omega) hch96 (by omega))) ?_
  refine W_cond_false rfl (W_skip (W_j1 (fun ρ w' => ∃ (b212 : Nat) (b215 : Nat) (G228 : Hp), ρ = [(4, .int .i64 ((i : Nat) : Int)), (5, .int .i64 ((j : Nat) : Int)), (13, .pointer (some ⟨b104, 0, none⟩)), (17, .slice a128 n c129), (24, .pointer (some ⟨b212, 0, none⟩)), (25, .pointer (some ⟨b215, 0, none⟩))] ∧ G147.le G228 ∧ St w H G228 [.blk b104 (gV [[.int .i64 1], key.map bV, (tagged [117, 101, 98] [(lay k n L E93 ch94)]).map bV, [.int .i64 ((k : Nat) : Int)], [.int .i64 ((n : Nat) : Int)], [.int .i64 ((L : Nat) : Int)], [.slice none 0 0]] : Value).cells 29, .blk b212 (.agg #[.int .i64 ((i : Nat) : Int), .slice a169 (lay k n L E93 ch94).length c170, .slice a171 (Go.Au.beside (rowP (lvs n E93)) i (lg (lvs n E93).length)).length c172, .slice a173 (blk E93 i).length c174] : Value).cells 37, .blk b215 (.agg #[.int .i64 ((i : Nat) : Int), .slice a169 (lay k n L E93 ch94).length c170, .slice a171 (Go.Au.beside (rowP (lvs n E93)) i (lg (lvs n E93).length)).length c172, .slice a173 (blk E93 i).length c174] : Value).cells 37] w') ?_ (fun J232 => ?_)))
  ·rintro ρ w231 ⟨b212, b215, G228, rfl, hl229, S230⟩
   refine Wr ?_
   iterate 2 refine Pv ?_
   obtain ⟨f236, f237, f238, f239, r240, hs241⟩ := (r153.mono hl229)
   refine Ag i r240 fun b233 o234 hc235 => ?_
   obtain ⟨a242, c243, a244, c245, a246, c247, e248, e249, e250, e251, r252, r253, r254⟩ := hs241 i (by omega)
   have hc255 : ∀ (j : Nat) (u : Value), (#[.int .i64 ((i : Nat) : Int), .slice a242 (lay k n M E130 ch131).length c243, .slice a244 (Go.Au.beside (rowP (lvs n E130)) i (lg (lvs n E130).length)).length c245, .slice a246 (blk E130 i).length c247] : Array Value)[j]? = some u → hcell G228 b233 (o234 + j) = some u := fun j u hu => hc235 j u (shrC_agg (fa := f236) (fb := f237) (fc := f238) (fd := f239) (by omega) j u (by rw [e248, e249, e250, e251]; exact hu))
   have r256 : Rd G228 (.slice a242 (lay k n M E130 ch131).length c243) (lay k n M E130 ch131).length 1 ((lay k n M E130 ch131).map bV) := r252
   have r257 : RdH G228 (.slice a244 (Go.Au.beside (rowP (lvs n E130)) i (lg (lvs n E130).length)).length c245) 32 (Go.Au.beside (rowP (lvs n E130)) i (lg (lvs n E130).length)) := r253
   have r258 : RdL G228 (.slice a246 (blk E130 i).length c247) (blk E130 i) := r254
   have hc259 := hc255 3 (.slice a246 (blk E130 i).length c247) rfl
   refine T_fldm (o234 + 3) rfl rfl rfl rfl rfl rfl (by decide) rfl rfl rfl ?_
   refine Ac S230 hc259 ?_
   refine Pv ?_
   refine Fl 3 ?_
   refine T_store1S 1 3 S230 (fun _ _ => trivial) rfl rfl rfl rfl rfl rfl rfl rfl rfl rfl rfl rfl (show 3 < 4 by decide) fun w260 S261 => ?_
   have hE262 : (.agg #[.int .i64 ((i : Nat) : Int), .slice a169 (lay k n L E93 ch94).length c170, .slice a171 (Go.Au.beside (rowP (lvs n E93)) i (lg (lvs n E93).length)).length c172, .slice a173 (blk E93 i).length c174] : Value).cells.setIfInBounds 3 (.slice a246 (blk E130 i).length c247) = (.agg #[.int .i64 ((i : Nat) : Int), .slice a169 (lay k n L E93 ch94).length c170, .slice a171 (Go.Au.beside (rowP (lvs n E93)) i (lg (lvs n E93).length)).length c172, .slice a246 (blk E130 i).length c247] : Value).cells := rfl
   rw [hE262] at S261
   refine Fl 0 ?_
   refine T_store1S 2 0 S261 (fun _ _ => trivial) rfl rfl rfl rfl rfl rfl rfl rfl rfl rfl rfl rfl (show 0 < 4 by decide) fun w263 S264 => ?_
   have hE265 : (.agg #[.int .i64 ((i : Nat) : Int), .slice a169 (lay k n L E93 ch94).length c170, .slice a171 (Go.Au.beside (rowP (lvs n E93)) i (lg (lvs n E93).length)).length c172, .slice a173 (blk E93 i).length c174] : Value).cells.setIfInBounds 0 (.int .i64 ((j : Nat) : Int)) = (.agg #[.int .i64 ((j : Nat) : Int), .slice a169 (lay k n L E93 ch94).length c170, .slice a171 (Go.Au.beside (rowP (lvs n E93)) i (lg (lvs n E93).length)).length c172, .slice a173 (blk E93 i).length c174] : Value).cells := rfl
   rw [hE265] at S264
   refine Nr (Ak (hl := by exact gV_size (L := [[.int .i64 1], key.map bV, (tagged [117, 101, 98] [(lay k n L E93 ch94)]).map bV, [.int .i64 ((k : Nat) : Int)], [.int .i64 ((n : Nat) : Int)], [.int .i64 ((L : Nat) : Int)], [.slice none 0 0]]) (shCp hky (tagged_len _ _)) rfl) 0 S264 ?_)
   refine Ak (hl := by first | rfl | simp [hVs, *]) 1 S264 ?_
   refine Cs g_aumbry_layout_RightShare ((rightS_ok S264.le (hT.mono (hl102.trans (hl148.trans hl229))) (1 : Int) ((k : Nat) : Int) ((n : Nat) : Int) ((L : Nat) : Int) hky (tagged_len _ _) ((nilB _).mono (hl148.trans hl229)) ((i : Nat) : Int) (r183.mono hl229) (r184.mono hl229) r258 hul hpl (Nat.le_trans hbl2 HB) HX2).mono ?_)
   rintro e w267 ⟨rfl, hB266⟩
   have S268 := S264.call hB266
   refine ⟨_, rfl, trivial, ?_⟩
   iterate 3 refine Pv ?_
   refine Ad S268 fun b269 w270 S271 => ?_
   refine Ah (hl := by exact qV_sz (q_len (rsH4 _ _) (rsH5 _ _) rfl)) (hl2 := by exact qV_sz (q_len (rsH4 _ _) (rsH5 _ _) rfl)) (h1 := by exact qV_one) 0 S271 fun w272 S273 => ?_
   refine Pv (Nr ?_)
   refine Ak (hl := by exact gV_size (L := [[.int .i64 1], key.map bV, (tagged [117, 101, 98] [(lay k n L E93 ch94)]).map bV, [.int .i64 ((k : Nat) : Int)], [.int .i64 ((n : Nat) : Int)], [.int .i64 ((L : Nat) : Int)], [.slice none 0 0]]) (shCp hky (tagged_len _ _)) rfl) 1 S273 ?_
   refine Ak (hl := by first | rfl | simp [hVs, *]) 2 S273 ?_
   refine Cs g_aumbry_aumbryref13_RightShare ((rightSR_ok S273.le (1 : Int) ((k : Nat) : Int) ((n : Nat) : Int) ((L : Nat) : Int) hky (tagged_len _ _) ((nilB _).mono (hl148.trans hl229)) ((i : Nat) : Int) (r183.mono hl229) (r184.mono hl229) r258 hul hpl (Nat.le_trans hbl2 HB) HX2).mono ?_)
   rintro e w275 ⟨rfl, hB274⟩
   have S276 := S273.call hB274
   refine ⟨_, rfl, trivial, ?_⟩
   iterate 3 refine Pv ?_
   refine Ad S276 fun b277 w278 S279 => ?_
   refine Ah (hl := by exact qV_sz (q_len (rsH4 _ _) (rsH5 _ _) rfl)) (hl2 := by exact qV_sz (q_len (rsH4 _ _) (rsH5 _ _) rfl)) (h1 := by exact qV_one) 0 S279 fun w280 S281 => ?_
   refine Pv (Nr ?_)
   refine Ak (hl := by exact gV_size (L := [[.int .i64 1], key.map bV, (tagged [117, 101, 98] [(lay k n L E93 ch94)]).map bV, [.int .i64 ((k : Nat) : Int)], [.int .i64 ((n : Nat) : Int)], [.int .i64 ((L : Nat) : Int)], [.slice none 0 0]]) (shCp hky (tagged_len _ _)) rfl) 2 S281 ?_
   refine Ak (hl := by first | rfl | simp [hVs, *]) 4 S281 ?_
   refine Cs g_aumbry_layout_RightShare ((rightS_ok S281.le (hT.mono (hl102.trans (hl148.trans hl229))) (1 : Int) ((k : Nat) : Int) ((n : Nat) : Int) ((L : Nat) : Int) hky (tagged_len _ _) ((nilB _).mono (hl148.trans hl229)) ((j : Nat) : Int) (r183.mono hl229) (r184.mono hl229) (r185.mono hl229) hul hpl (Nat.le_trans hbl HB) HX1).mono ?_)
   rintro e w283 ⟨rfl, hB282⟩
   have S284 := S281.call hB282
   refine ⟨_, rfl, trivial, ?_⟩
   iterate 3 refine Pv ?_
   refine Ad S284 fun b285 w286 S287 => ?_
   refine Ah (hl := by exact qV_sz (q_len (rsH4 _ _) (rsH5 _ _) rfl)) (hl2 := by exact qV_sz (q_len (rsH4 _ _) (rsH5 _ _) rfl)) (h1 := by exact qV_one) 0 S287 fun w288 S289 => ?_
   refine Pv (Nr ?_)
   refine Ak (hl := by exact gV_size (L := [[.int .i64 1], key.map bV, (tagged [117, 101, 98] [(lay k n L E93 ch94)]).map bV, [.int .i64 ((k : Nat) : Int)], [.int .i64 ((n : Nat) : Int)], [.int .i64 ((L : Nat) : Int)], [.slice none 0 0]]) (shCp hky (tagged_len _ _)) rfl) 3 S289 ?_
   refine Ak (hl := by first | rfl | simp [hVs, *]) 5 S289 ?_
   refine Cs g_aumbry_aumbryref13_RightShare ((rightSR_ok S289.le (1 : Int) ((k : Nat) : Int) ((n : Nat) : Int) ((L : Nat) : Int) hky (tagged_len _ _) ((nilB _).mono (hl148.trans hl229)) ((j : Nat) : Int) (r183.mono hl229) (r184.mono hl229) (r185.mono hl229) hul hpl (Nat.le_trans hbl HB) HX1).mono ?_)
   rintro e w291 ⟨rfl, hB290⟩
   have S292 := S289.call hB290
   refine ⟨_, rfl, trivial, ?_⟩
   iterate 3 refine Pv ?_
   refine Ad S292 fun b293 w294 S295 => ?_
   refine Ah (hl := by exact qV_sz (q_len (rsH4 _ _) (rsH5 _ _) rfl)) (hl2 := by exact qV_sz (q_len (rsH4 _ _) (rsH5 _ _) rfl)) (h1 := by exact qV_one) 0 S295 fun w296 S297 => ?_
   refine Pv (T_nil (W_seq ?_))
   have hokj : ((i : Nat) : Int) = ((j : Nat) : Int) → (RsOk (1 : Int) ((k : Nat) : Int) ((n : Nat) : Int) ((L : Nat) : Int) ([] : List UInt8) (tagged [117, 101, 98] [(lay k n L E93 ch94)]) ((j : Nat) : Int) (lay k n L E93 ch94) (Go.Au.beside (rowP (lvs n E93)) i (lg (lvs n E93).length)) (blk E93 i)) := fun e => by
    have e2 : i = j := by omega
    subst e2
    exact hok1
   refine W_region ?_
   iterate 2 refine Pv ?_
   refine T_beq rfl rfl rfl rfl rfl rfl rfl (Pv ?_)
   refine T_bool 118 true rfl (decide_eq_true (by first | rfl | omega | exact hokj (by assumption) | exact hokj (by omega))) ?_
   iterate 2 (refine Ys ?_; refine Pv ?_)
   refine Ys ?_
   refine T_beq rfl rfl rfl rfl rfl rfl rfl ?_
   iterate 2 refine Pv ?_
   refine T_bool 123 true rfl (decide_eq_true (by first | rfl | omega | exact hokj (by assumption) | exact hokj (by omega))) ?_
   iterate 4 (refine Ys ?_; refine Pv ?_)
   refine Tp 127 (fun h298' => ?_) (fun h298' => ?_)
   ·have h298 := of_ndec_t h298'
    refine No ?_
    refine Ys ?_
    iterate 3 refine Pv ?_
    refine Ys ?_
    refine Cs g_aumbry_aumbrylaw14_wakes ((wakes_ok S297.le (hT.mono (hl102.trans (hl148.trans hl229)))).mono ?_)
    rintro e w300 ⟨rfl, hB299⟩
    have S301 := S297.call hB299
    refine ⟨_, rfl, trivial, ?_⟩
    iterate 2 refine Pv ?_
    refine T_nil (W_ret ?_)
    refine ⟨_, ⟨_, _, rfl, rfl, rfl⟩, ?_⟩
    exact ⟨rfl, S301.below⟩
   have h298 := of_ndec_f h298'
   iterate 2 (refine Ys ?_; refine Pv ?_)
   iterate 2 refine Pv ?_
   refine T_bool 131 true rfl (decide_eq_true (by first | rfl | omega | exact hokj (by assumption) | exact hokj (by omega))) ?_
   refine Ys ?_
   refine Cs g_aumbry_aumbrylaw14_wakes ((wakes_ok S297.le (hT.mono (hl102.trans (hl148.trans hl229)))).mono ?_)
   rintro e w303 ⟨rfl, hB302⟩
   have S304 := S297.call hB302
   refine ⟨_, rfl, trivial, ?_⟩
   iterate 2 refine Pv ?_
   refine T_nil (W_ret ?_)
   refine ⟨_, ⟨_, _, rfl, rfl, rfl⟩, ?_⟩
   exact ⟨rfl, S304.below⟩
  refine W_seq ?_
  obtain ⟨G306, hl307, S305, r308⟩ := S206.stillBlk 2 rfl
  refine W_tree (planF Tryz.prog G306 [81, 82]) (.step 0 (.step 1 (.fork 2 3 (.step 3 (.step 4 (.step 5 .done))) (.step 2 (.step 4 (.step 5 .done)))))) rfl (by kernel_rfl) S305.le ?_
  have S309 := S305.drew
  refine TT_step rfl (T_loadGAP _ (fun _ h => h) (still_cells r308) rfl rfl rfl rfl rfl rfl rfl rfl (by first | rfl | simp [hVs, *]) ?_)
  refine Nt rfl (T_loadGAP _ (fun _ h => h) (still_cells r308) rfl rfl rfl rfl rfl rfl rfl rfl (by first | rfl | simp [hVs, *]) (T_nil ?_))
  refine TT_fork rfl rfl ?_ ?_
  ·refine Ad (hC := fun _ h => ((Hp.le.refl _)).trans h) S309 fun b310 w311 S312 => ?_
   refine Nt rfl (Ad (hC := fun _ h => ((Hp.le.refl _)).trans h) S312 fun b313 w314 S315 => ?_)
   refine Nt rfl (Ah (hC := fun _ h => ((Hp.le.refl _)).trans h) (hl := by first | rfl | simp [hVs, *]) (hl2 := by first | rfl | simp [hVs, *]) (h1 := by exact one_all rfl) 1 S315 fun w316 S317 => ?_)
   refine Nt rfl (Ah (hC := fun _ h => ((Hp.le.refl _)).trans h) (hl := by first | rfl | simp [hVs, *]) (hl2 := by first | rfl | simp [hVs, *]) (h1 := by exact one_all rfl) 0 S317 fun w318 S319 => (T_nil (TT_done ?_)))
   have S320 := S319.drop 5
   have S321 := S320.drop 3
   have S322 := S321.drop 2
   have S323 := S322.swap12
   have S324 := S323.swap01
   have S325 := S324.swap12
   exact Ws (J232 _ _ ⟨_, _, G306, rfl, hl307, S325⟩) ⟨rfl, rfl, rfl, rfl, rfl, rfl, trivial⟩
  refine Ad (hC := fun _ h => ((Hp.le.refl _)).trans h) S309 fun b326 w327 S328 => ?_
  refine Nt rfl (Ad (hC := fun _ h => ((Hp.le.refl _)).trans h) S328 fun b329 w330 S331 => ?_)
  refine Nt rfl (Ah (hC := fun _ h => ((Hp.le.refl _)).trans h) (hl := by first | rfl | simp [hVs, *]) (hl2 := by first | rfl | simp [hVs, *]) (h1 := by exact one_all rfl) 0 S331 fun w332 S333 => ?_)
  refine Nt rfl (Ah (hC := fun _ h => ((Hp.le.refl _)).trans h) (hl := by first | rfl | simp [hVs, *]) (hl2 := by first | rfl | simp [hVs, *]) (h1 := by exact one_all rfl) 1 S333 fun w334 S335 => (T_nil (TT_done ?_)))
  have S336 := S335.drop 5
  have S337 := S336.drop 3
  have S338 := S337.drop 2
  have S339 := S338.swap12
  have S340 := S339.swap01
  exact Ws (J232 _ _ ⟨_, _, G306, rfl, hl307, S340⟩) ⟨rfl, rfl, rfl, rfl, rfl, rfl, trivial⟩
 refine W_seq ?_
 obtain ⟨G342, hl343, S341, r344⟩ := S108.stillBlk 1 rfl
 refine W_tree (planF Tryz.prog G342 [46]) (.step 0 (.step 2 (.step 4 (.step 5 (.fork 1 11 (.fork 3 11 (.fork 6 11 (.step 7 (.step 8 (.step 9 (.step 10 (.step 11 (.step 12 (.step 13 (.step 14 .done)))))))) (.step 6 (.step 7 (.step 8 (.step 9 (.step 10 (.step 12 (.step 13 (.step 14 .done))))))))) (.step 3 (.step 6 (.step 7 (.step 8 (.step 9 (.step 10 (.step 12 (.step 13 (.step 14 .done)))))))))) (.step 1 (.step 3 (.step 6 (.step 7 (.step 8 (.step 9 (.step 10 (.step 12 (.step 13 (.step 14 .done))))))))))))))) rfl (by kernel_rfl) S341.le ?_
 have S345 := S341.drew
 refine TT_step rfl (T_loadGAP _ (fun _ h => h) (still_cells r344) rfl rfl rfl rfl rfl rfl rfl rfl (hVs hky) ?_)
 iterate 3 (refine T_nil ?_; refine TT_step rfl ?_; refine Pv ?_)
 refine T_nil (TT_fork rfl rfl ?_ ?_)
 ·refine Ae (hone := by simp [Value.cells]; rfl) ([(3 : UInt8)].map bV) fun a346 w347 hB348 ho349 => ?_
  have S350 := S345.own hB348 ho349
  refine ⟨(((Hp.le.refl _)).trans S350.le), ?_⟩
  refine T_nil (TT_fork rfl rfl ?_ ?_)
  ·refine Af (hC := fun _ h => ((Hp.le.refl _)).trans h) (h1 := by exact one_bV _) (hn' := by first | rfl | (simp; done) | (simp; omega) | omega) (hx' := by simp) (h63 := by unfold maxLen; simp only [List.length_append, List.length_cons, List.length_nil]; omega) (hbytes := by show _ * 1 ≤ _; simp only [List.length_append, List.length_cons, List.length_nil]; omega) 0 (([(3 : UInt8)] ++ (l.take 100)).length) (([(3 : UInt8)] ++ (l.take 100)).map bV) S350 ((hr87.mono (hl102.trans hl343)).mono S350.le) fun a351 c352 w353 hc354 S355 => (T_nil ?_)
   refine TT_fork rfl rfl ?_ ?_
   ·obtain ⟨G357, hl358, S356, r359⟩ := S355.stillRow 0 rfl
    refine Cs g_aumbry_aumbrylaw14_made ((made_ok S356.le hky r359 k0 n0 k n hn hk hM).mono ?_)
    rintro e w368 ⟨a360, c361, E362, ch363, rfl, hch365, r364, hE366, hB367⟩
    obtain ⟨G370, eG372⟩ : ∃ G, G = F.ext G357 w353.heap.size w368 := ⟨_, rfl⟩
    obtain ⟨hl371, S369⟩ := S356.ext hB367
    rw [← eG372] at hl371 S369 r364
    refine ⟨_, rfl, (((hl358.trans hl371)).trans S369.le), ?_⟩
    iterate 4 (refine T_nil ?_; refine TT_step rfl ?_; refine Pv ?_)
    refine Nt rfl (Ad (hC := fun _ h => ((hl358.trans hl371)).trans h) S369 fun b373 w374 S375 => ?_)
    refine Nt rfl (Ah (hC := fun _ h => ((hl358.trans hl371)).trans h) (hl := by exact gV_size (L := [[.int .i64 1], key.map bV, (tagged [117, 101, 98] [(lay k n M E362 ch363)]).map bV, [.int .i64 ((k : Nat) : Int)], [.int .i64 ((n : Nat) : Int)], [.int .i64 ((M : Nat) : Int)], [.slice none 0 0]]) (shCp hky (tagged_len _ _)) rfl) (hl2 := by exact gV_size (L := [[.int .i64 1], key.map bV, (tagged [117, 101, 98] [(lay k n M E362 ch363)]).map bV, [.int .i64 ((k : Nat) : Int)], [.int .i64 ((n : Nat) : Int)], [.int .i64 ((M : Nat) : Int)], [.slice none 0 0]]) (shCp hky (tagged_len _ _)) rfl) (h1 := by exact gV_one (OneL.one rfl (OneL.arr (OneL.arr (OneL.one rfl (OneL.one rfl (OneL.one rfl (OneL.one rfl OneL.nil)))))))) 0 S375 fun w376 S377 => ?_)
    iterate 2 (refine T_nil ?_; refine TT_step rfl ?_; refine Pv ?_)
    refine T_nil (TT_done ?_)
    have S378 := S377.swap01
    exact Ws (J151 _ _ ⟨_, _, _, _, _, G370, rfl, (hl343.trans (hl358.trans hl371)), S378, (nilB _), r364, hch365, hE366⟩) ⟨rfl, rfl, rfl, rfl, rfl, rfl, rfl, trivial⟩
   refine Ad (hC := fun _ h => ((Hp.le.refl _)).trans h) S355 fun b379 w380 S381 => ?_
   refine Nt rfl ?_
   obtain ⟨G383, hl384, S382, r385⟩ := S381.stillRow 1 rfl
   refine Cs g_aumbry_aumbrylaw14_made ((made_ok S382.le hky r385 k0 n0 k n hn hk hM).mono ?_)
   rintro e w394 ⟨a386, c387, E388, ch389, rfl, hch391, r390, hE392, hB393⟩
   obtain ⟨G396, eG398⟩ : ∃ G, G = F.ext G383 w380.heap.size w394 := ⟨_, rfl⟩
   obtain ⟨hl397, S395⟩ := S382.ext hB393
   rw [← eG398] at hl397 S395 r390
   refine ⟨_, rfl, (((hl384.trans hl397)).trans S395.le), ?_⟩
   iterate 4 (refine T_nil ?_; refine TT_step rfl ?_; refine Pv ?_)
   refine Nt rfl (Ah (hC := fun _ h => ((hl384.trans hl397)).trans h) (hl := by exact gV_size (L := [[.int .i64 1], key.map bV, (tagged [117, 101, 98] [(lay k n M E388 ch389)]).map bV, [.int .i64 ((k : Nat) : Int)], [.int .i64 ((n : Nat) : Int)], [.int .i64 ((M : Nat) : Int)], [.slice none 0 0]]) (shCp hky (tagged_len _ _)) rfl) (hl2 := by exact gV_size (L := [[.int .i64 1], key.map bV, (tagged [117, 101, 98] [(lay k n M E388 ch389)]).map bV, [.int .i64 ((k : Nat) : Int)], [.int .i64 ((n : Nat) : Int)], [.int .i64 ((M : Nat) : Int)], [.slice none 0 0]]) (shCp hky (tagged_len _ _)) rfl) (h1 := by exact gV_one (OneL.one rfl (OneL.arr (OneL.arr (OneL.one rfl (OneL.one rfl (OneL.one rfl (OneL.one rfl OneL.nil)))))))) 0 S395 fun w399 S400 => ?_)
   iterate 2 (refine T_nil ?_; refine TT_step rfl ?_; refine Pv ?_)
   refine T_nil (TT_done ?_)
   have S401 := S400.swap01
   exact Ws (J151 _ _ ⟨_, _, _, _, _, G396, rfl, (hl343.trans (hl384.trans hl397)), S401, (nilB _), r390, hch391, hE392⟩) ⟨rfl, rfl, rfl, rfl, rfl, rfl, rfl, trivial⟩
  refine Ad (hC := fun _ h => ((Hp.le.refl _)).trans h) S350 fun b402 w403 S404 => ?_
  refine Nt rfl (Af (hC := fun _ h => ((Hp.le.refl _)).trans h) (h1 := by exact one_bV _) (hn' := by first | rfl | (simp; done) | (simp; omega) | omega) (hx' := by simp) (h63 := by unfold maxLen; simp only [List.length_append, List.length_cons, List.length_nil]; omega) (hbytes := by show _ * 1 ≤ _; simp only [List.length_append, List.length_cons, List.length_nil]; omega) 1 (([(3 : UInt8)] ++ (l.take 100)).length) (([(3 : UInt8)] ++ (l.take 100)).map bV) S404 ((hr87.mono (hl102.trans hl343)).mono S404.le) fun a405 c406 w407 hc408 S409 => ?_)
  refine Nt rfl ?_
  obtain ⟨G411, hl412, S410, r413⟩ := S409.stillRow 1 rfl
  refine Cs g_aumbry_aumbrylaw14_made ((made_ok S410.le hky r413 k0 n0 k n hn hk hM).mono ?_)
  rintro e w422 ⟨a414, c415, E416, ch417, rfl, hch419, r418, hE420, hB421⟩
  obtain ⟨G424, eG426⟩ : ∃ G, G = F.ext G411 w407.heap.size w422 := ⟨_, rfl⟩
  obtain ⟨hl425, S423⟩ := S410.ext hB421
  rw [← eG426] at hl425 S423 r418
  refine ⟨_, rfl, (((hl412.trans hl425)).trans S423.le), ?_⟩
  iterate 4 (refine T_nil ?_; refine TT_step rfl ?_; refine Pv ?_)
  refine Nt rfl (Ah (hC := fun _ h => ((hl412.trans hl425)).trans h) (hl := by exact gV_size (L := [[.int .i64 1], key.map bV, (tagged [117, 101, 98] [(lay k n M E416 ch417)]).map bV, [.int .i64 ((k : Nat) : Int)], [.int .i64 ((n : Nat) : Int)], [.int .i64 ((M : Nat) : Int)], [.slice none 0 0]]) (shCp hky (tagged_len _ _)) rfl) (hl2 := by exact gV_size (L := [[.int .i64 1], key.map bV, (tagged [117, 101, 98] [(lay k n M E416 ch417)]).map bV, [.int .i64 ((k : Nat) : Int)], [.int .i64 ((n : Nat) : Int)], [.int .i64 ((M : Nat) : Int)], [.slice none 0 0]]) (shCp hky (tagged_len _ _)) rfl) (h1 := by exact gV_one (OneL.one rfl (OneL.arr (OneL.arr (OneL.one rfl (OneL.one rfl (OneL.one rfl (OneL.one rfl OneL.nil)))))))) 0 S423 fun w427 S428 => ?_)
  iterate 2 (refine T_nil ?_; refine TT_step rfl ?_; refine Pv ?_)
  refine T_nil (TT_done ?_)
  have S429 := S428.swap01
  exact Ws (J151 _ _ ⟨_, _, _, _, _, G424, rfl, (hl343.trans (hl412.trans hl425)), S429, (nilB _), r418, hch419, hE420⟩) ⟨rfl, rfl, rfl, rfl, rfl, rfl, rfl, trivial⟩
 refine Ad (hC := fun _ h => ((Hp.le.refl _)).trans h) S345 fun b430 w431 S432 => ?_
 refine Nt rfl (Ae (hone := by simp [Value.cells]; rfl) ([(3 : UInt8)].map bV) fun a433 w434 hB435 ho436 => ?_)
 have S437 := S432.own hB435 ho436
 refine ⟨(((Hp.le.refl _)).trans S437.le), ?_⟩
 refine Nt rfl (Af (hC := fun _ h => ((Hp.le.refl _)).trans h) (h1 := by exact one_bV _) (hn' := by first | rfl | (simp; done) | (simp; omega) | omega) (hx' := by simp) (h63 := by unfold maxLen; simp only [List.length_append, List.length_cons, List.length_nil]; omega) (hbytes := by show _ * 1 ≤ _; simp only [List.length_append, List.length_cons, List.length_nil]; omega) 0 (([(3 : UInt8)] ++ (l.take 100)).length) (([(3 : UInt8)] ++ (l.take 100)).map bV) S437 ((hr87.mono (hl102.trans hl343)).mono S437.le) fun a438 c439 w440 hc441 S442 => ?_)
 refine Nt rfl ?_
 obtain ⟨G444, hl445, S443, r446⟩ := S442.stillRow 0 rfl
 refine Cs g_aumbry_aumbrylaw14_made ((made_ok S443.le hky r446 k0 n0 k n hn hk hM).mono ?_)
 rintro e w455 ⟨a447, c448, E449, ch450, rfl, hch452, r451, hE453, hB454⟩
 obtain ⟨G457, eG459⟩ : ∃ G, G = F.ext G444 w440.heap.size w455 := ⟨_, rfl⟩
 obtain ⟨hl458, S456⟩ := S443.ext hB454
 rw [← eG459] at hl458 S456 r451
 refine ⟨_, rfl, (((hl445.trans hl458)).trans S456.le), ?_⟩
 iterate 4 (refine T_nil ?_; refine TT_step rfl ?_; refine Pv ?_)
 refine Nt rfl (Ah (hC := fun _ h => ((hl445.trans hl458)).trans h) (hl := by exact gV_size (L := [[.int .i64 1], key.map bV, (tagged [117, 101, 98] [(lay k n M E449 ch450)]).map bV, [.int .i64 ((k : Nat) : Int)], [.int .i64 ((n : Nat) : Int)], [.int .i64 ((M : Nat) : Int)], [.slice none 0 0]]) (shCp hky (tagged_len _ _)) rfl) (hl2 := by exact gV_size (L := [[.int .i64 1], key.map bV, (tagged [117, 101, 98] [(lay k n M E449 ch450)]).map bV, [.int .i64 ((k : Nat) : Int)], [.int .i64 ((n : Nat) : Int)], [.int .i64 ((M : Nat) : Int)], [.slice none 0 0]]) (shCp hky (tagged_len _ _)) rfl) (h1 := by exact gV_one (OneL.one rfl (OneL.arr (OneL.arr (OneL.one rfl (OneL.one rfl (OneL.one rfl (OneL.one rfl OneL.nil)))))))) 0 S456 fun w460 S461 => ?_)
 iterate 2 (refine T_nil ?_; refine TT_step rfl ?_; refine Pv ?_)
 refine T_nil (TT_done ?_)
 have S462 := S461.swap01
 exact Ws (J151 _ _ ⟨_, _, _, _, _, G457, rfl, (hl343.trans (hl445.trans hl458)), S462, (nilB _), r451, hch452, hE453⟩) ⟨rfl, rfl, rfl, rfl, rfl, rfl, rfl, trivial⟩

end Go.Proofs.YtmjmjjkigblbgaaGreatDoor
