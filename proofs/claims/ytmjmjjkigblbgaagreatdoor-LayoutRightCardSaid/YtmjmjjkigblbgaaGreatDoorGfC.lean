/- Walks of the program's functions. -/
import Derived.Test.YtmjmjjkigblbgaaGreatDoorRefB
import Derived.Test.YtmjmjjkigblbgaaGreatDoorFDoor
import Derived.Test.YtmjmjjkigblbgaaGreatDoorAuDoor
set_option linter.unusedVariables false
set_option linter.unusedSimpArgs false
set_option maxRecDepth 8192
namespace Go.Proofs.YtmjmjjkigblbgaaGreatDoor
open Go Go.F Go.RowKit
open Go.Au

theorem piv_lt {M : Mat} {c k p : Nat} (hq : pivF M c k (k - c) c = pivF M c k (k - p) p) (h : pivF M c k (k - c) c < k) (hp : p ≤ k) : p < k := by
 rcases Nat.lt_or_ge p k with h1 | h1
 ·exact h1
 ·rw [hq, show k - p = 0 by omega] at h
  exact h
set_option maxHeartbeats 4000000 in
theorem rinverse_ok {H : Hp} {w : World} (hH : H.le (hw w)) {V : List (List UInt8)} {aa0 : Option Addr} {nn0 cc0 : Nat} (hv : RdL H (.slice aa0 nn0 cc0) V) (k : Nat) (hk : 1 ≤ k ∧ k ≤ 16) (hV : V.length = k) (hVx : ∀ x ∈ V, x.length = k) (hp : ∀ c, c < k → pivF (gaussTo V k c) c k (k - c) c < k) :
  Calls Tryz.prog 153 #[.slice aa0 nn0 cc0] w fun e w' => ∃ a c, e = .returned (.tuple #[.slice a k c, .bool true]) ∧ RdL (F.ext H w.heap.size w') (.slice a k c) (invTo V k k) ∧ (∀ x ∈ invTo V k k, x.length = k) ∧ Below w.heap.size w w' := by
 obtain rfl : nn0 = V.length := hv.len
 have hul0 := unitM_len k k
 refine Aa Tryz.func153 Tryz.ntmps153 Tryz.results153 ?_
 have S0 := St.start w hH
 refine Wr (P2 (Nr ?_))
 refine P2 ?_
 refine T_re (v' := .int .i64 ((k : Nat) : Int)) (congrArg (Value.int .i64) (by rw [hV])) ?_
 refine Pv (Nr ?_)
 refine Pv (Nr ?_)
 refine Pv ?_
 refine Cs g_aumbry_aumbryref04_Unit ((runit_ok S0.le k (by omega)).mono ?_)
 rintro e w5 ⟨a1, c2, rfl, r3, hB4⟩
 obtain ⟨G7, eG9⟩ : ∃ G, G = F.ext H w.heap.size w5 := ⟨_, rfl⟩
 obtain ⟨hl8, S6⟩ := S0.ext hB4
 rw [← eG9] at hl8 S6 r3
 refine ⟨_, rfl, trivial, ?_⟩
 refine Pv (T_nil (W_seq (Wr ?_)))
 refine P2 ?_
 refine T_re (v' := .int .i64 ((k : Nat) : Int)) (congrArg (Value.int .i64) (by rw [hV])) ?_
 refine Pv (T_nil (W_block ?_))
 have S10 := S6.nilRow 24 1
 refine W_loop (fun M ρ w' => ∃ (i : Nat) (a13 : Option Addr) (c14 : Nat) (vs15 : List Value) (G11 : Hp), M = k - i ∧ i ≤ k ∧ ρ = [(0, .slice aa0 V.length cc0), (4, .int .i64 ((k : Nat) : Int)), (5, .slice a13 i c14), (6, .slice a1 k c2), (22, .int .i64 ((k : Nat) : Int)), (23, .int .i64 (i : Int))] ∧ G7.le G11 ∧ St w H G11 (.row 24 1 (.slice a13 i c14) i vs15 :: (mrows 5 vs15 (augTo V k i) ++ [])) w' ∧ i ≤ c14 ∧ vs15.length = i ∧ MShape i (2 * k) (augTo V k i))
  (k - 0) [(0, .slice aa0 V.length cc0), (4, .int .i64 ((k : Nat) : Int)), (5, .slice none 0 0), (6, .slice a1 k c2), (22, .int .i64 ((k : Nat) : Int)), (23, .int .i64 ((0 : Nat) : Int))] ⟨rfl, ciI, rfl, rfl, ciI, ciI, trivial⟩ ⟨0, none, 0, [], G7, rfl, (by omega), rfl, Hp.le.refl _, S10, (Nat.le_refl _), rfl, (MShape.nil _)⟩ ?_
 rintro M ρ w19 ⟨i, a13, c14, vs15, G11, rfl, hp21, rfl, hl12, S20, hc16, hv17, hs18⟩
 refine Wr (Pv (T_nil (W_seq ?_)))
 refine Ab (fun h22 => ?_) (fun h22 => ?_)
 ·refine W_skip (W_seq (W_block (Wr (P2 (T_nil ?_)))))
  refine W_plan (planF Tryz.prog G11 [35]) rfl (by kernel_rfl) S20.le ?_
  have S23 := S20.drew
  refine P3 ?_
  obtain ⟨hs27, r28, r29⟩ := (hv.mono (hl8.trans hl12))
  refine Aj i r28 fun b24 o25 hc26 => ?_
  obtain ⟨a32, c33, hc35, hv31, r34⟩ := r29.at i (by omega)
  have hc36 := hc26 0 (.slice a32 (V.getD i []).length c33) (by simpa using hv31)
  simp only [Nat.add_zero] at hc36
  refine Ad S23 hc36 ?_
  have hvl : (V.getD i []).length = k := by rw [List.getD_eq_getElem?_getD, List.getElem?_eq_getElem (by omega)]; exact hVx _ (List.getElem_mem _)
  have S37 := S23.nilRow 5 1
  refine Ai (hC := fun _ h => ((Hp.le.refl _)).trans h) (h1 := by exact one_bV _) (hn' := by first | rfl | (simp; done) | (simp; omega) | omega) (hx' := by simp) (h63 := by unfold maxLen; first | omega | (rw [List.length_append]; omega)) (hbytes := by show _ * 1 ≤ _; first | omega | (rw [List.length_append]; omega)) 0 ((V.getD i []).length) ((V.getD i []).map bV) S37 (r34.mono S37.le) fun a38 c39 w40 hc41 S42 => ?_
  refine P2 ?_
  obtain ⟨hs46, r47, r48⟩ := (r3.mono hl12)
  refine Aj i r47 fun b43 o44 hc45 => ?_
  obtain ⟨a51, c52, hc54, hv50, r53⟩ := r48.at i (by omega)
  have hc55 := hc45 0 (.slice a51 ((unitM k k).getD i []).length c52) (by simpa using hv50)
  simp only [Nat.add_zero] at hc55
  refine Am hc55 ?_
  have hul : ((unitM k k).getD i []).length = k := by rw [List.getD_eq_getElem?_getD, List.getElem?_eq_getElem (by rw [unitM_len]; omega)]; exact unitM_el _ _ _ (List.getElem_mem _)
  refine Ai (hC := fun _ h => ((Hp.le.refl _)).trans h) (h1 := by exact one_bV _) (hn' := by first | rfl | (simp; done) | (simp; omega) | omega) (hx' := by simp) (h63 := by unfold maxLen; first | omega | (rw [List.length_append]; omega)) (hbytes := by show _ * 1 ≤ _; first | omega | (rw [List.length_append]; omega)) 0 (((V.getD i []) ++ ((unitM k k).getD i [])).length) (((V.getD i []) ++ ((unitM k k).getD i [])).map bV) S42 (r53.mono S42.le) fun a56 c57 w58 hc59 S60 => ?_
  refine Ah (hone := by simp [Value.cells]; rfl) [.slice a56 (((V.getD i []) ++ ((unitM k k).getD i [])).length) c57] fun a61 w62 hB63 ho64 => ?_
  have S65 := S60.own hB63 ho64
  refine ⟨(((Hp.le.refl _)).trans S65.le), ?_⟩
  refine Ai (hC := fun _ h => ((Hp.le.refl _)).trans h) (h1 := by exact one_all rfl) (hn' := by omega) (hx' := by exact rfl) (hbytes := by show _ * 24 ≤ _; omega) 2 (i + 1) (vs15 ++ [(Value.slice a56 (((V.getD i []) ++ ((unitM k k).getD i [])).length) c57)]) S65 (S65.rd 0 rfl) fun a66 c67 w68 hc69 S70 => ?_
  have S71 := (S70.drop 0).matPush0 (uT := 5) (vs := vs15) (D := augTo V k i) (its := []) (v := (Value.slice a56 (((V.getD i []) ++ ((unitM k k).getD i [])).length) c57)) (l := ((V.getD i []) ++ ((unitM k k).getD i []))) (by rw [hv17, (hs18).1])
  have hv72 : (vs15 ++ [(Value.slice a56 (((V.getD i []) ++ ((unitM k k).getD i [])).length) c57)]).length = (i + 1) := by rw [List.length_append, hv17]; rfl
  have hs73 := MShape.push (l := ((V.getD i []) ++ ((unitM k k).getD i []))) hs18 (by rw [List.length_append]; omega)
  have hD74 : (augTo V k i ++ [((V.getD i []) ++ ((unitM k k).getD i []))]) = augTo V k (i + 1) := (augTo_snoc V k i)
  rw [hD74] at S71 hs73
  refine Pv (T_nil (W_region ?_))
  refine Ar ?_
  refine Pv (T_nil ?_)
  exact ⟨k - (i + 1), [(0, .slice aa0 V.length cc0), (4, .int .i64 ((k : Nat) : Int)), (5, .slice a66 (i + 1) c67), (6, .slice a1 k c2), (22, .int .i64 ((k : Nat) : Int)), (23, .int .i64 ((i + 1 : Nat) : Int))], by omega, ⟨rfl, ciI, rfl, rfl, ciI, ciI, trivial⟩, i + 1, a66, c67, (vs15 ++ [(Value.slice a56 (((V.getD i []) ++ ((unitM k k).getD i [])).length) c57)]), G11, rfl, (by omega), rfl, hl12, S71, hc69, hv72, hs73⟩
 refine W_exit (W_seq (Wr (Pv (T_nil (W_block ?_)))))
 obtain rfl : k = i := by omega
 refine W_loop (fun M ρ w' => ∃ (c : Nat) (a77 : Option Addr) (c78 : Nat) (vs79 : List Value) (G75 : Hp), M = k - c ∧ c ≤ k ∧ ρ = [(4, .int .i64 ((k : Nat) : Int)), (5, .slice a77 k c78), (8, .int .i64 (c : Int))] ∧ G11.le G75 ∧ St w H G75 (.row 24 1 (.slice a77 k c78) k vs79 :: (mrows 5 vs79 (gaussTo V k c) ++ [])) w' ∧ k ≤ c78 ∧ vs79.length = k ∧ MShape k (2 * k) (gaussTo V k c))
  (k - 0) [(4, .int .i64 ((k : Nat) : Int)), (5, .slice a13 k c14), (8, .int .i64 ((0 : Nat) : Int))] ⟨ciI, rfl, ciI, trivial⟩ ⟨0, a13, c14, vs15, G11, rfl, (by omega), rfl, Hp.le.refl _, S20, hc16, hv17, hs18⟩ ?_
 rintro M ρ w83 ⟨c, a77, c78, vs79, G75, rfl, hp85, rfl, hl76, S84, hc80, hv81, hs82⟩
 refine W_seq (Wr (P3 (T_nil ?_)))
 refine Ab (fun h86 => ?_) (fun h86 => ?_)
 ·refine W_skip (W_seq (W_block (Wr (P2 (T_nil (W_seq (W_block ?_)))))))
  obtain ⟨MA, hMA⟩ : ∃ M, gaussTo V k c = M := ⟨_, rfl⟩
  have hlt := hp c (by omega)
  rw [hMA] at hlt
  have S87 : St w H G75 (.row 24 1 (.slice a77 k c78) k vs79 :: (mrows 5 vs79 MA ++ [])) w83 := by rw [show MA = gaussTo V k c from hMA.symm]; exact S84
  have hs88 : MShape k (2 * k) MA := by rw [show MA = gaussTo V k c from hMA.symm]; exact hs82
  refine W_loop (fun M ρ w' => ∃ (p : Nat) (a91 : Option Addr) (c92 : Nat) (vs93 : List Value) (G89 : Hp), M = k - p ∧ c ≤ p ∧ p ≤ k ∧ pivF MA c k (k - c) c = pivF MA c k (k - p) p ∧ ρ = [(4, .int .i64 ((k : Nat) : Int)), (5, .slice a91 k c92), (8, .int .i64 (c : Int)), (9, .int .i64 (p : Int))] ∧ G75.le G89 ∧ St w H G89 (.row 24 1 (.slice a91 k c92) k vs93 :: (mrows 5 vs93 MA ++ [])) w' ∧ k ≤ c92 ∧ vs93.length = k ∧ MShape k (2 * k) MA)
   (k - c) [(4, .int .i64 ((k : Nat) : Int)), (5, .slice a77 k c78), (8, .int .i64 (c : Int)), (9, .int .i64 ((c : Nat) : Int))] ⟨ciI, rfl, ciI, ciI, trivial⟩ ⟨c, a77, c78, vs79, G75, rfl, (by omega), (by omega), (by rfl), rfl, Hp.le.refl _, S87, hc80, hv81, hs88⟩ ?_
  rintro M ρ w97 ⟨p, a91, c92, vs93, G89, rfl, hp99, hp100, hq, rfl, hl90, S98, hc94, hv95, hs96⟩
  refine W_seq (Wr ?_)
  iterate 4 refine Pv ?_
  have hpk : p < k := piv_lt hq hlt (by omega)
  refine T_bool 49 true rfl (decide_eq_true (by omega)) ?_
  iterate 2 (refine Ys ?_; refine Pv ?_)
  refine Ys ?_
  obtain ⟨g102, rfl⟩ := S98.rowAt 0 rfl (by omega)
  refine Al (hm := by show 0 + Int.toNat _ * 1 = _; omega) (p * 1) ?_
  refine Ys ?_
  obtain ⟨g103, c104, hv105, hc106, hr107, hm108⟩ := S98.matCell hs96 hv95 (by omega) (show p < k by omega)
  refine T_load rfl rfl rfl rfl rfl rfl rfl (S98.rowCell 0 rfl (by rw [Nat.mul_one]; exact hv105)) ?_
  refine Ys ?_
  refine Pv ?_
  refine Ys ?_
  refine Al (hm := by show 0 + Int.toNat _ * 1 = _; omega) (c * 1) ?_
  refine Ys ?_
  refine T_load rfl rfl rfl rfl rfl rfl rfl (S98.matAt hv105 hr107 hm108 (by omega)) ?_
  refine Ys ?_
  refine P2 (T_nil ?_)
  refine Ab (fun h109 => ?_) (fun h109 => ?_)
  ·refine W_skip (W_block (W_region (Pv ?_)))
   refine Ar ?_
   refine Pv (T_nil ?_)
   have HZZ := h109
   exact ⟨k - (p + 1), [(4, .int .i64 ((k : Nat) : Int)), (5, .slice (some ⟨g102, 0, none⟩) k c92), (8, .int .i64 (c : Int)), (9, .int .i64 ((p + 1 : Nat) : Int))], by omega, ⟨ciI, rfl, ciI, ciI, trivial⟩, p + 1, (some ⟨g102, 0, none⟩), c92, vs93, G89, rfl, (by omega), (by omega), (by exact hq.trans (piv_yes (by omega) (u8_zero HZZ))), rfl, hl90, S98, hc94, hv95, hs96⟩
  refine W_exit ?_
  iterate 2 refine W_seq ?_
  have hpv : pivF MA c k (k - c) c = p := hq.trans (piv_end (fun _ => fun e => h109 (by rw [show (MA.getD p []).getD c 0 = 0 from e]; rfl)) (by omega))
  rw [hpv] at hlt
  refine W_region (P3 (T_nil ?_))
  refine W_bool 63 false rfl (decide_eq_false (by omega)) ?_
  refine W_cond_false rfl (W_skip (W_seq (W_draw rfl (by kernel_rfl) ?_)))
  have S110 := S98.drew
  iterate 6 refine Pv ?_
  refine Al (hm := by show 0 + Int.toNat _ * 1 = _; omega) (p * 1) ?_
  obtain ⟨g111, c112, hv113, hc114, hr115, hm116⟩ := S110.matCell hs96 hv95 (by omega) (show p < k by omega)
  refine T_load rfl rfl rfl rfl rfl rfl rfl (S110.rowCell 0 rfl (by rw [Nat.mul_one]; exact hv113)) ?_
  refine P2 ?_
  refine Al (hm := by show 0 + Int.toNat _ * 1 = _; omega) (c * 1) ?_
  obtain ⟨g117, c118, hv119, hc120, hr121, hm122⟩ := S110.matCell hs96 hv95 (by omega) (show c < k by omega)
  refine T_load rfl rfl rfl rfl rfl rfl rfl (S110.rowCell 0 rfl (by rw [Nat.mul_one]; exact hv119)) ?_
  refine Al (hm := by show 0 + Int.toNat _ * 1 = _; omega) (c * 1) ?_
  refine T_storeRow 0 (vs93.set c (.slice (some ⟨g111, 0, none⟩) (2 * k) c112)) S110 (fun _ _ => trivial) rfl rfl rfl rfl rfl rfl rfl rfl rfl (by show _ + 1 ≤ _ * 1; omega) (one_all rfl) (set_cells (by first | omega | (simp only [List.length_set]; omega)) rfl) fun w123 S124 => ?_
  refine Al (hm := by show 0 + Int.toNat _ * 1 = _; omega) (p * 1) ?_
  refine T_storeRow 0 ((vs93.set c (.slice (some ⟨g111, 0, none⟩) (2 * k) c112)).set p (.slice (some ⟨g117, 0, none⟩) (2 * k) c118)) S124 (fun _ _ => trivial) rfl rfl rfl rfl rfl rfl rfl rfl rfl (by show _ + 1 ≤ _ * 1; omega) (one_all rfl) (set_cells (by first | omega | (simp only [List.length_set]; omega)) rfl) fun w125 S126 => ?_
  have S127 := S126.matSwap0 (its := []) hs96 hv95 (show c < k by omega) (show p < k by omega) hv119 hv113
  have hv128 : ((vs93.set c (.slice (some ⟨g111, 0, none⟩) (2 * k) c112)).set p (.slice (some ⟨g117, 0, none⟩) (2 * k) c118)).length = k := by rw [List.length_set, List.length_set]; exact hv95
  have hs129 := hs96.swap (show c < k by omega) (show p < k by omega)
  have hD130 : ((MA.set c (MA.getD p [])).set p (MA.getD c [])) = swapR MA c p := rfl
  rw [hD130] at S127 hs129
  refine T_nil (W_seq ?_)
  obtain ⟨MB, hMB⟩ : ∃ M, swapR MA c p = M := ⟨_, rfl⟩
  have S131 : St w H G89 (.row 24 1 (.slice (some ⟨g102, 0, none⟩) k c92) k ((vs93.set c (.slice (some ⟨g111, 0, none⟩) (2 * k) c112)).set p (.slice (some ⟨g117, 0, none⟩) (2 * k) c118)) :: (mrows 5 ((vs93.set c (.slice (some ⟨g111, 0, none⟩) (2 * k) c112)).set p (.slice (some ⟨g117, 0, none⟩) (2 * k) c118)) MB ++ [])) w125 := by rw [show MB = swapR MA c p from hMB.symm]; exact S127
  have hs132 : MShape k (2 * k) MB := by rw [show MB = swapR MA c p from hMB.symm]; exact hs129
  refine W_region (P2 ?_)
  refine Al (hm := by show 0 + Int.toNat _ * 1 = _; omega) (c * 1) ?_
  obtain ⟨g133, c134, hv135, hc136, hr137, hm138⟩ := S131.matCell hs132 hv128 (by omega) (show c < k by omega)
  refine T_load rfl rfl rfl rfl rfl rfl rfl (S131.rowCell 0 rfl (by rw [Nat.mul_one]; exact hv135)) ?_
  refine Pv ?_
  refine Al (hm := by show 0 + Int.toNat _ * 1 = _; omega) (c * 1) ?_
  refine T_load rfl rfl rfl rfl rfl rfl rfl (S131.matAt hv135 hr137 hm138 (by omega)) ?_
  obtain ⟨z, hz⟩ : ∃ z, ginv ((MB.getD c []).getD c 0) = z := ⟨_, rfl⟩
  refine Cs g_aumbry_aumbryref04_Inv ((rinv_ok S131.le ((MB.getD c []).getD c 0) ).mono ?_)
  rintro e w140 ⟨rfl, hB139⟩
  have S141 := S131.call hB139
  refine ⟨_, rfl, trivial, ?_⟩
  refine T_re (v' := bV (z)) (congrArg bV hz) (Pv (T_nil (W_seq (Wr ?_))))
  refine P2 ?_
  refine Al (hm := by show 0 + Int.toNat _ * 1 = _; omega) (c * 1) ?_
  obtain ⟨g142, c143, hv144, hc145, hr146, hm147⟩ := S141.matCell hs132 hv128 (by omega) (show c < k by omega)
  refine T_load rfl rfl rfl rfl rfl rfl rfl (S141.rowCell 0 rfl (by rw [Nat.mul_one]; exact hv144)) ?_
  refine P2 (T_nil (W_block ?_))
  have S148 : St w H G89 (.row 24 1 (.slice (some ⟨g102, 0, none⟩) k c92) k ((vs93.set c (.slice (some ⟨g111, 0, none⟩) (2 * k) c112)).set p (.slice (some ⟨g117, 0, none⟩) (2 * k) c118)) :: (mrows 5 ((vs93.set c (.slice (some ⟨g111, 0, none⟩) (2 * k) c112)).set p (.slice (some ⟨g117, 0, none⟩) (2 * k) c118)) (MB.set c (scaleTo z (MB.getD c []) 0)) ++ [])) w140 := by rw [show (MB.set c (scaleTo z (MB.getD c []) 0)) = MB from (row_self (by rw [(hs132).1]; omega))]; exact S141
  have hs149 : MShape k (2 * k) (MB.set c (scaleTo z (MB.getD c []) 0)) := by rw [show (MB.set c (scaleTo z (MB.getD c []) 0)) = MB from (row_self (by rw [(hs132).1]; omega))]; exact hs132
  refine W_loop (fun M ρ w' => ∃ (j : Nat) (a152 : Option Addr) (c153 : Nat) (vs154 : List Value) (G150 : Hp), M = (2 * k) - j ∧ j ≤ 2 * k ∧ ρ = [(4, .int .i64 ((k : Nat) : Int)), (5, .slice a152 k c153), (8, .int .i64 (c : Int)), (10, bV (z)), (51, .int .i64 (p : Int)), (54, .int .i64 (c : Int)), (56, bV ((MA.getD p []).getD c 0)), (57, .bool (decide ((((MA.getD p []).getD c 0).toNat : Int) = (0 : Int)))), (90, .int .i64 (((2 * k) : Nat) : Int)), (91, .int .i64 (j : Int))] ∧ G89.le G150 ∧ St w H G150 (.row 24 1 (.slice a152 k c153) k vs154 :: (mrows 5 vs154 (MB.set c (scaleTo z (MB.getD c []) j)) ++ [])) w' ∧ k ≤ c153 ∧ vs154.length = k ∧ MShape k (2 * k) (MB.set c (scaleTo z (MB.getD c []) j)))
   ((2 * k) - 0) [(4, .int .i64 ((k : Nat) : Int)), (5, .slice (some ⟨g102, 0, none⟩) k c92), (8, .int .i64 (c : Int)), (10, bV (z)), (51, .int .i64 (p : Int)), (54, .int .i64 (c : Int)), (56, bV ((MA.getD p []).getD c 0)), (57, .bool (decide ((((MA.getD p []).getD c 0).toNat : Int) = (0 : Int)))), (90, .int .i64 (((2 * k) : Nat) : Int)), (91, .int .i64 ((0 : Nat) : Int))] ⟨ciI, rfl, ciI, rfl, ciI, ciI, rfl, rfl, ciI, ciI, trivial⟩ ⟨0, (some ⟨g102, 0, none⟩), c92, ((vs93.set c (.slice (some ⟨g111, 0, none⟩) (2 * k) c112)).set p (.slice (some ⟨g117, 0, none⟩) (2 * k) c118)), G89, rfl, (by omega), rfl, Hp.le.refl _, S148, hc94, hv128, hs149⟩ ?_
  rintro M ρ w158 ⟨j, a152, c153, vs154, G150, rfl, hp160, rfl, hl151, S159, hc155, hv156, hs157⟩
  refine Wr (Pv (T_nil (W_seq ?_)))
  refine Ab (fun h161 => ?_) (fun h161 => ?_)
  ·refine W_skip (W_seq (W_block (Wr (P2 (T_nil ?_)))))
   refine W_plan (planF Tryz.prog G150 [107]) rfl (by kernel_rfl) S159.le ?_
   have S162 := S159.drew
   refine P2 ?_
   obtain ⟨g163, rfl⟩ := S162.rowAt 0 rfl (by omega)
   refine Al (hm := by show 0 + Int.toNat _ * 1 = _; omega) (c * 1) ?_
   obtain ⟨g164, c165, hv166, hc167, hr168, hm169⟩ := S162.matCell hs157 hv156 (by omega) (show c < k by omega)
   refine T_load rfl rfl rfl rfl rfl rfl rfl (S162.rowCell 0 rfl (by rw [Nat.mul_one]; exact hv166)) ?_
   refine P3 ?_
   refine Al (hm := by show 0 + Int.toNat _ * 1 = _; omega) (c * 1) ?_
   obtain ⟨g170, c171, hv172, hc173, hr174, hm175⟩ := S162.matCell hs157 hv156 (by omega) (show c < k by omega)
   refine T_load rfl rfl rfl rfl rfl rfl rfl (S162.rowCell 0 rfl (by rw [Nat.mul_one]; exact hv172)) ?_
   refine Pv ?_
   refine Al (hm := by show 0 + Int.toNat _ * 1 = _; omega) (j * 1) ?_
   refine T_load rfl rfl rfl rfl rfl rfl rfl (S162.matAt hv172 hr174 hm175 (by omega)) ?_
   refine Pv ?_
   refine T_callQ rfl rfl g_aumbry_aumbryref04_Mul (by kernel_rfl) rfl rfl rfl rfl (fun u => rmul_ok (H := fun _ => none) (w := u) (fun _ _ h => by cases h) (((MB.set c (scaleTo z (MB.getD c []) j)).getD c []).getD j 0) (z) ) ?_
   refine Al (hm := by show 0 + Int.toNat _ * 1 = _; omega) (j * 1) ?_
   refine T_matStore (u := (gmul (((MB.set c (scaleTo z (MB.getD c []) j)).getD c []).getD j 0) (z))) c j S162 (fun _ h => ((Hp.le.refl _)).trans h) hv166 hr168 hm169 (by omega) rfl rfl rfl rfl rfl rfl rfl rfl rfl fun w176 S177 => ?_
   have hs178 := MShape.set (r := c) (l := ((MB.set c (scaleTo z (MB.getD c []) j)).getD c []).set j (gmul (((MB.set c (scaleTo z (MB.getD c []) j)).getD c []).getD j 0) (z))) hs157 (by rw [List.length_set]; exact hm169)
   have hD179 : ((MB.set c (scaleTo z (MB.getD c []) j)).set c (((MB.set c (scaleTo z (MB.getD c []) j)).getD c []).set j (gmul (((MB.set c (scaleTo z (MB.getD c []) j)).getD c []).getD j 0) (z)))) = (MB.set c (scaleTo z (MB.getD c []) (j + 1))) := (row_step (by have h := (hs157).1; rw [List.length_set] at h; omega) (fun l => l.set j (gmul (l.getD j 0) z)))
   rw [hD179] at S177 hs178
   refine T_nil (W_region (Ar ?_))
   refine Pv (T_nil ?_)
   exact ⟨(2 * k) - (j + 1), [(4, .int .i64 ((k : Nat) : Int)), (5, .slice (some ⟨g163, 0, none⟩) k c153), (8, .int .i64 (c : Int)), (10, bV (z)), (51, .int .i64 (p : Int)), (54, .int .i64 (c : Int)), (56, bV ((MA.getD p []).getD c 0)), (57, .bool (decide ((((MA.getD p []).getD c 0).toNat : Int) = (0 : Int)))), (90, .int .i64 (((2 * k) : Nat) : Int)), (91, .int .i64 ((j + 1 : Nat) : Int))], by omega, ⟨ciI, rfl, ciI, rfl, ciI, ciI, rfl, rfl, ciI, ciI, trivial⟩, j + 1, (some ⟨g163, 0, none⟩), c153, vs154, G150, rfl, (by omega), rfl, hl151, S177, hc155, hv156, hs178⟩
  refine W_exit (Wr (Pv (T_nil (W_block ?_))))
  obtain rfl : 2 * k = j := by omega
  obtain ⟨MC, hMC⟩ : ∃ M, (MB.set c (scaleTo z (MB.getD c []) (2 * k))) = M := ⟨_, rfl⟩
  have S180 : St w H G150 (.row 24 1 (.slice a152 k c153) k vs154 :: (mrows 5 vs154 (elimAll MC c (2 * k) 0) ++ [])) w158 := by rw [show (elimAll MC c (2 * k) 0) = (MB.set c (scaleTo z (MB.getD c []) (2 * k))) from hMC.symm]; exact S159
  have hs181 : MShape k (2 * k) (elimAll MC c (2 * k) 0) := by rw [show (elimAll MC c (2 * k) 0) = (MB.set c (scaleTo z (MB.getD c []) (2 * k))) from hMC.symm]; exact hs157
  refine W_loop (fun M ρ w' => ∃ (r : Nat) (a184 : Option Addr) (c185 : Nat) (vs186 : List Value) (G182 : Hp), M = k - r ∧ r ≤ k ∧ ρ = [(4, .int .i64 ((k : Nat) : Int)), (5, .slice a184 k c185), (8, .int .i64 (c : Int)), (12, .int .i64 (r : Int)), (51, .int .i64 (p : Int)), (54, .int .i64 (c : Int)), (56, bV ((MA.getD p []).getD c 0)), (57, .bool (decide ((((MA.getD p []).getD c 0).toNat : Int) = (0 : Int))))] ∧ G150.le G182 ∧ St w H G182 (.row 24 1 (.slice a184 k c185) k vs186 :: (mrows 5 vs186 (elimAll MC c (2 * k) r) ++ [])) w' ∧ k ≤ c185 ∧ vs186.length = k ∧ MShape k (2 * k) (elimAll MC c (2 * k) r))
   (k - 0) [(4, .int .i64 ((k : Nat) : Int)), (5, .slice a152 k c153), (8, .int .i64 (c : Int)), (12, .int .i64 ((0 : Nat) : Int)), (51, .int .i64 (p : Int)), (54, .int .i64 (c : Int)), (56, bV ((MA.getD p []).getD c 0)), (57, .bool (decide ((((MA.getD p []).getD c 0).toNat : Int) = (0 : Int))))] ⟨ciI, rfl, ciI, ciI, ciI, ciI, rfl, rfl, trivial⟩ ⟨0, a152, c153, vs154, G150, rfl, (by omega), rfl, Hp.le.refl _, S180, hc155, hv156, hs181⟩ ?_
  rintro M ρ w190 ⟨r, a184, c185, vs186, G182, rfl, hp192, rfl, hl183, S191, hc187, hv188, hs189⟩
  obtain ⟨ME, hME⟩ : ∃ M, (elimAll MC c (2 * k) r) = M := ⟨_, rfl⟩
  have S193 : St w H G182 (.row 24 1 (.slice a184 k c185) k vs186 :: (mrows 5 vs186 ME ++ [])) w190 := by rw [show ME = (elimAll MC c (2 * k) r) from hME.symm]; exact S191
  have hs194 : MShape k (2 * k) ME := by rw [show ME = (elimAll MC c (2 * k) r) from hME.symm]; exact hs189
  refine W_seq (Wr (P3 (T_nil ?_)))
  refine Ab (fun h195 => ?_) (fun h195 => ?_)
  ·refine W_skip (W_seq (W_block (Wr (P2 ?_))))
   obtain ⟨g196, rfl⟩ := S193.rowAt 0 rfl (by omega)
   refine Al (hm := by show 0 + Int.toNat _ * 1 = _; omega) (r * 1) ?_
   obtain ⟨g197, c198, hv199, hc200, hr201, hm202⟩ := S193.matCell hs194 hv188 (by omega) (show r < k by omega)
   refine T_load rfl rfl rfl rfl rfl rfl rfl (S193.rowCell 0 rfl (by rw [Nat.mul_one]; exact hv199)) ?_
   refine Pv ?_
   refine Al (hm := by show 0 + Int.toNat _ * 1 = _; omega) (c * 1) ?_
   refine T_load rfl rfl rfl rfl rfl rfl rfl (S193.matAt hv199 hr201 hm202 (by omega)) ?_
   refine Pv (T_nil (W_seq (Wr ?_)))
   iterate 4 refine Pv ?_
   refine Td 125 (fun h203 => ?_) (fun h203 => ?_)
   ·iterate 2 refine No ?_
    refine Pv (T_nil ?_)
    refine W_cond_true rfl (W_exit (W_region (Pv ?_)))
    refine Ar ?_
    refine Pv (T_nil ?_)
    have S204 : St w H G182 (.row 24 1 (.slice (some ⟨g196, 0, none⟩) k c185) k vs186 :: (mrows 5 vs186 (elimAll MC c (2 * k) (r + 1)) ++ [])) w190 := by rw [show (elimAll MC c (2 * k) (r + 1)) = ME from ((elim_skip (by rw [hME]; first | (left; omega) | exact Or.inr (u8_zero h203))).trans hME)]; exact S193
    have hs205 : MShape k (2 * k) (elimAll MC c (2 * k) (r + 1)) := by rw [show (elimAll MC c (2 * k) (r + 1)) = ME from ((elim_skip (by rw [hME]; first | (left; omega) | exact Or.inr (u8_zero h203))).trans hME)]; exact hs194
    exact ⟨k - (r + 1), [(4, .int .i64 ((k : Nat) : Int)), (5, .slice (some ⟨g196, 0, none⟩) k c185), (8, .int .i64 (c : Int)), (12, .int .i64 ((r + 1 : Nat) : Int)), (51, .int .i64 (p : Int)), (54, .int .i64 (c : Int)), (56, bV ((MA.getD p []).getD c 0)), (57, .bool (decide ((((MA.getD p []).getD c 0).toNat : Int) = (0 : Int))))], by omega, ⟨ciI, rfl, ciI, ciI, ciI, ciI, rfl, rfl, trivial⟩, r + 1, (some ⟨g196, 0, none⟩), c185, vs186, G182, rfl, (by omega), rfl, hl183, S204, hc187, hv188, hs205⟩
   iterate 2 (refine Ys ?_; refine Pv ?_)
   refine Pv (T_nil ?_)
   refine Ab (fun h206 => ?_) (fun h206 => ?_)
   ·refine W_exit (W_region (Pv ?_))
    refine Ar ?_
    refine Pv (T_nil ?_)
    have S207 : St w H G182 (.row 24 1 (.slice (some ⟨g196, 0, none⟩) k c185) k vs186 :: (mrows 5 vs186 (elimAll MC c (2 * k) (r + 1)) ++ [])) w190 := by rw [show (elimAll MC c (2 * k) (r + 1)) = ME from ((elim_skip (by rw [hME]; first | (left; omega) | exact Or.inr (u8_zero h206))).trans hME)]; exact S193
    have hs208 : MShape k (2 * k) (elimAll MC c (2 * k) (r + 1)) := by rw [show (elimAll MC c (2 * k) (r + 1)) = ME from ((elim_skip (by rw [hME]; first | (left; omega) | exact Or.inr (u8_zero h206))).trans hME)]; exact hs194
    exact ⟨k - (r + 1), [(4, .int .i64 ((k : Nat) : Int)), (5, .slice (some ⟨g196, 0, none⟩) k c185), (8, .int .i64 (c : Int)), (12, .int .i64 ((r + 1 : Nat) : Int)), (51, .int .i64 (p : Int)), (54, .int .i64 (c : Int)), (56, bV ((MA.getD p []).getD c 0)), (57, .bool (decide ((((MA.getD p []).getD c 0).toNat : Int) = (0 : Int))))], by omega, ⟨ciI, rfl, ciI, ciI, ciI, ciI, rfl, rfl, trivial⟩, r + 1, (some ⟨g196, 0, none⟩), c185, vs186, G182, rfl, (by omega), rfl, hl183, S207, hc187, hv188, hs208⟩
   refine W_skip (Wr (P2 ?_))
   refine Al (hm := by show 0 + Int.toNat _ * 1 = _; omega) (r * 1) ?_
   obtain ⟨g209, c210, hv211, hc212, hr213, hm214⟩ := S193.matCell hs194 hv188 (by omega) (show r < k by omega)
   refine T_load rfl rfl rfl rfl rfl rfl rfl (S193.rowCell 0 rfl (by rw [Nat.mul_one]; exact hv211)) ?_
   refine P2 (T_nil (W_block ?_))
   have hnz := h206
   have S215 : St w H G182 (.row 24 1 (.slice (some ⟨g196, 0, none⟩) k c185) k vs186 :: (mrows 5 vs186 (ME.set r (elimTo ((ME.getD r []).getD c 0) (ME.getD c []) (ME.getD r []) 0)) ++ [])) w190 := by rw [show (ME.set r (elimTo ((ME.getD r []).getD c 0) (ME.getD c []) (ME.getD r []) 0)) = ME from (row_self (by rw [(hs194).1]; omega))]; exact S193
   have hs216 : MShape k (2 * k) (ME.set r (elimTo ((ME.getD r []).getD c 0) (ME.getD c []) (ME.getD r []) 0)) := by rw [show (ME.set r (elimTo ((ME.getD r []).getD c 0) (ME.getD c []) (ME.getD r []) 0)) = ME from (row_self (by rw [(hs194).1]; omega))]; exact hs194
   refine W_loop (fun M ρ w' => ∃ (j : Nat) (a219 : Option Addr) (c220 : Nat) (vs221 : List Value) (G217 : Hp), M = (2 * k) - j ∧ j ≤ 2 * k ∧ ρ = [(4, .int .i64 ((k : Nat) : Int)), (5, .slice a219 k c220), (8, .int .i64 (c : Int)), (12, .int .i64 (r : Int)), (13, bV ((ME.getD r []).getD c 0)), (51, .int .i64 (p : Int)), (54, .int .i64 (c : Int)), (56, bV ((MA.getD p []).getD c 0)), (57, .bool (decide ((((MA.getD p []).getD c 0).toNat : Int) = (0 : Int)))), (126, bV ((ME.getD r []).getD c 0)), (127, .bool (decide ((((ME.getD r []).getD c 0).toNat : Int) = (0 : Int)))), (133, .int .i64 (((2 * k) : Nat) : Int)), (134, .int .i64 (j : Int))] ∧ G182.le G217 ∧ St w H G217 (.row 24 1 (.slice a219 k c220) k vs221 :: (mrows 5 vs221 (ME.set r (elimTo ((ME.getD r []).getD c 0) (ME.getD c []) (ME.getD r []) j)) ++ [])) w' ∧ k ≤ c220 ∧ vs221.length = k ∧ MShape k (2 * k) (ME.set r (elimTo ((ME.getD r []).getD c 0) (ME.getD c []) (ME.getD r []) j)))
    ((2 * k) - 0) [(4, .int .i64 ((k : Nat) : Int)), (5, .slice (some ⟨g196, 0, none⟩) k c185), (8, .int .i64 (c : Int)), (12, .int .i64 (r : Int)), (13, bV ((ME.getD r []).getD c 0)), (51, .int .i64 (p : Int)), (54, .int .i64 (c : Int)), (56, bV ((MA.getD p []).getD c 0)), (57, .bool (decide ((((MA.getD p []).getD c 0).toNat : Int) = (0 : Int)))), (126, bV ((ME.getD r []).getD c 0)), (127, .bool (decide ((((ME.getD r []).getD c 0).toNat : Int) = (0 : Int)))), (133, .int .i64 (((2 * k) : Nat) : Int)), (134, .int .i64 ((0 : Nat) : Int))] ⟨ciI, rfl, ciI, ciI, rfl, ciI, ciI, rfl, rfl, rfl, rfl, ciI, ciI, trivial⟩ ⟨0, (some ⟨g196, 0, none⟩), c185, vs186, G182, rfl, (by omega), rfl, Hp.le.refl _, S215, hc187, hv188, hs216⟩ ?_
   rintro M ρ w225 ⟨j, a219, c220, vs221, G217, rfl, hp227, rfl, hl218, S226, hc222, hv223, hs224⟩
   refine Wr (Pv (T_nil (W_seq ?_)))
   refine Ab (fun h228 => ?_) (fun h228 => ?_)
   ·refine W_skip (W_seq (W_block (Wr (P2 (T_nil ?_)))))
    refine W_plan (planF Tryz.prog G217 [152]) rfl (by kernel_rfl) S226.le ?_
    have S229 := S226.drew
    refine P2 ?_
    obtain ⟨g230, rfl⟩ := S229.rowAt 0 rfl (by omega)
    refine Al (hm := by show 0 + Int.toNat _ * 1 = _; omega) (r * 1) ?_
    obtain ⟨g231, c232, hv233, hc234, hr235, hm236⟩ := S229.matCell hs224 hv223 (by omega) (show r < k by omega)
    refine T_load rfl rfl rfl rfl rfl rfl rfl (S229.rowCell 0 rfl (by rw [Nat.mul_one]; exact hv233)) ?_
    refine Pv ?_
    refine Al (hm := by show 0 + Int.toNat _ * 1 = _; omega) (j * 1) ?_
    refine T_load rfl rfl rfl rfl rfl rfl rfl (S229.matAt hv233 hr235 hm236 (by omega)) ?_
    refine P3 ?_
    refine Al (hm := by show 0 + Int.toNat _ * 1 = _; omega) (c * 1) ?_
    obtain ⟨g237, c238, hv239, hc240, hr241, hm242⟩ := S229.matCell hs224 hv223 (by omega) (show c < k by omega)
    refine T_load rfl rfl rfl rfl rfl rfl rfl (S229.rowCell 0 rfl (by rw [Nat.mul_one]; exact hv239)) ?_
    refine Pv ?_
    refine Al (hm := by show 0 + Int.toNat _ * 1 = _; omega) (j * 1) ?_
    refine T_load rfl rfl rfl rfl rfl rfl rfl (S229.matAt hv239 hr241 hm242 (by omega)) ?_
    refine T_re (v' := bV ((ME.getD c []).getD j 0)) (congrArg (fun z => bV (List.getD z j 0)) (row_other (by omega))) ?_
    refine T_callQ rfl rfl g_aumbry_aumbryref04_Mul (by kernel_rfl) rfl rfl rfl rfl (fun u => rmul_ok (H := fun _ => none) (w := u) (fun _ _ h => by cases h) ((ME.getD r []).getD c 0) ((ME.getD c []).getD j 0) ) ?_
    refine Pv ?_
    refine T_re (v' := bV (((ME.set r (elimTo ((ME.getD r []).getD c 0) (ME.getD c []) (ME.getD r []) j)).getD r []).getD j 0 ^^^ gmul ((ME.getD r []).getD c 0) ((ME.getD c []).getD j 0))) (congrArg (Value.int .u8) (xorU8 _ _)) (Al (hm := by show 0 + Int.toNat _ * 1 = _; omega) (j * 1) ?_)
    refine T_matStore (u := (((ME.set r (elimTo ((ME.getD r []).getD c 0) (ME.getD c []) (ME.getD r []) j)).getD r []).getD j 0 ^^^ gmul ((ME.getD r []).getD c 0) ((ME.getD c []).getD j 0))) r j S229 (fun _ h => ((Hp.le.refl _)).trans h) hv233 hr235 hm236 (by omega) rfl rfl rfl rfl rfl rfl rfl rfl rfl fun w243 S244 => ?_
    have hs245 := MShape.set (r := r) (l := ((ME.set r (elimTo ((ME.getD r []).getD c 0) (ME.getD c []) (ME.getD r []) j)).getD r []).set j (((ME.set r (elimTo ((ME.getD r []).getD c 0) (ME.getD c []) (ME.getD r []) j)).getD r []).getD j 0 ^^^ gmul ((ME.getD r []).getD c 0) ((ME.getD c []).getD j 0))) hs224 (by rw [List.length_set]; exact hm236)
    have hD246 : ((ME.set r (elimTo ((ME.getD r []).getD c 0) (ME.getD c []) (ME.getD r []) j)).set r (((ME.set r (elimTo ((ME.getD r []).getD c 0) (ME.getD c []) (ME.getD r []) j)).getD r []).set j (((ME.set r (elimTo ((ME.getD r []).getD c 0) (ME.getD c []) (ME.getD r []) j)).getD r []).getD j 0 ^^^ gmul ((ME.getD r []).getD c 0) ((ME.getD c []).getD j 0)))) = (ME.set r (elimTo ((ME.getD r []).getD c 0) (ME.getD c []) (ME.getD r []) (j + 1))) := (row_step (by have h := (hs224).1; rw [List.length_set] at h; omega) (fun l => l.set j (l.getD j 0 ^^^ gmul ((ME.getD r []).getD c 0) ((ME.getD c []).getD j 0))))
    rw [hD246] at S244 hs245
    refine T_nil (W_region (Ar ?_))
    refine Pv (T_nil ?_)
    exact ⟨(2 * k) - (j + 1), [(4, .int .i64 ((k : Nat) : Int)), (5, .slice (some ⟨g230, 0, none⟩) k c220), (8, .int .i64 (c : Int)), (12, .int .i64 (r : Int)), (13, bV ((ME.getD r []).getD c 0)), (51, .int .i64 (p : Int)), (54, .int .i64 (c : Int)), (56, bV ((MA.getD p []).getD c 0)), (57, .bool (decide ((((MA.getD p []).getD c 0).toNat : Int) = (0 : Int)))), (126, bV ((ME.getD r []).getD c 0)), (127, .bool (decide ((((ME.getD r []).getD c 0).toNat : Int) = (0 : Int)))), (133, .int .i64 (((2 * k) : Nat) : Int)), (134, .int .i64 ((j + 1 : Nat) : Int))], by omega, ⟨ciI, rfl, ciI, ciI, rfl, ciI, ciI, rfl, rfl, rfl, rfl, ciI, ciI, trivial⟩, j + 1, (some ⟨g230, 0, none⟩), c220, vs221, G217, rfl, (by omega), rfl, hl218, S244, hc222, hv223, hs245⟩
   refine W_exit (W_region (Pv ?_))
   refine Ar ?_
   refine Pv (T_nil ?_)
   obtain rfl : 2 * k = j := by omega
   have S247 : St w H G217 (.row 24 1 (.slice a219 k c220) k vs221 :: (mrows 5 vs221 (elimAll MC c (2 * k) (r + 1)) ++ [])) w225 := by rw [show (elimAll MC c (2 * k) (r + 1)) = (ME.set r (elimTo ((ME.getD r []).getD c 0) (ME.getD c []) (ME.getD r []) (2 * k))) from (by have h := elim_do (M := MC) (c := c) (r := r) (w := 2 * k) (by omega) (by rw [hME]; exact fun e => hnz (by rw [show ((ME.getD r []).getD c 0) = 0 from e]; rfl)); rw [hME] at h; exact h)]; exact S226
   have hs248 : MShape k (2 * k) (elimAll MC c (2 * k) (r + 1)) := by rw [show (elimAll MC c (2 * k) (r + 1)) = (ME.set r (elimTo ((ME.getD r []).getD c 0) (ME.getD c []) (ME.getD r []) (2 * k))) from (by have h := elim_do (M := MC) (c := c) (r := r) (w := 2 * k) (by omega) (by rw [hME]; exact fun e => hnz (by rw [show ((ME.getD r []).getD c 0) = 0 from e]; rfl)); rw [hME] at h; exact h)]; exact hs224
   exact ⟨k - (r + 1), [(4, .int .i64 ((k : Nat) : Int)), (5, .slice a219 k c220), (8, .int .i64 (c : Int)), (12, .int .i64 ((r + 1 : Nat) : Int)), (51, .int .i64 (p : Int)), (54, .int .i64 (c : Int)), (56, bV ((MA.getD p []).getD c 0)), (57, .bool (decide ((((MA.getD p []).getD c 0).toNat : Int) = (0 : Int))))], by omega, ⟨ciI, rfl, ciI, ciI, ciI, ciI, rfl, rfl, trivial⟩, r + 1, a219, c220, vs221, G217, rfl, (by omega), rfl, (hl183.trans hl218), S247, hc222, hv223, hs248⟩
  refine W_exit (W_region (Pv ?_))
  refine Ar ?_
  refine Pv (T_nil ?_)
  obtain rfl : k = r := by omega
  have S249 : St w H G182 (.row 24 1 (.slice a184 k c185) k vs186 :: (mrows 5 vs186 (gaussTo V k (c + 1)) ++ [])) w190 := by rw [show gaussTo V k (c + 1) = ME from (by show sweep _ _ _ _ _ = _; rw [hMA, hpv]; unfold sweep ent; rw [hMB, hz, hMC]; exact hME)]; exact S193
  have hs250 : MShape k (2 * k) (gaussTo V k (c + 1)) := by rw [show gaussTo V k (c + 1) = ME from (by show sweep _ _ _ _ _ = _; rw [hMA, hpv]; unfold sweep ent; rw [hMB, hz, hMC]; exact hME)]; exact hs194
  exact ⟨k - (c + 1), [(4, .int .i64 ((k : Nat) : Int)), (5, .slice a184 k c185), (8, .int .i64 ((c + 1 : Nat) : Int))], by omega, ⟨ciI, rfl, ciI, trivial⟩, c + 1, a184, c185, vs186, G182, rfl, (by omega), rfl, (hl76.trans (hl90.trans (hl151.trans hl183))), S249, hc187, hv188, hs250⟩
 refine W_exit (W_seq ?_)
 obtain rfl : k = c := by omega
 have hgl := (hs82).1
 have hgr : ∀ q, q < k → ((gaussTo V k k).getD q []).length = 2 * k := fun q hq => ((hs82).row hq).2
 refine W_region (Pv (T_nil (W_seq (Wr ?_))))
 refine P3 (T_nil (W_block ?_))
 obtain ⟨G251, hl252, S253, r254⟩ := S84.matAll (its := []) hs82 hv81
 have S255 := S253.nilRow 24 1
 have rs256 := Rds.nil G251
 refine W_loop (fun M ρ w' => ∃ (q : Nat) (a259 : Option Addr) (c260 : Nat) (hs262 : List Value) (G257 : Hp), M = k - q ∧ q ≤ k ∧ ρ = [(4, .int .i64 ((k : Nat) : Int)), (5, .slice a77 k c78), (15, .slice a259 q c260), (157, .int .i64 ((k : Nat) : Int)), (158, .int .i64 (q : Int))] ∧ G251.le G257 ∧ St w H G257 [.row 24 1 (.slice a259 q c260) q hs262] w' ∧ Rds G257 hs262 (invTo V k q) ∧ q ≤ c260)
  (k - 0) [(4, .int .i64 ((k : Nat) : Int)), (5, .slice a77 k c78), (15, .slice none 0 0), (157, .int .i64 ((k : Nat) : Int)), (158, .int .i64 ((0 : Nat) : Int))] ⟨ciI, rfl, rfl, ciI, ciI, trivial⟩ ⟨0, none, 0, _, G251, rfl, (by omega), rfl, Hp.le.refl _, S255, rs256, (Nat.le_refl _)⟩ ?_
 rintro M ρ w264 ⟨q, a259, c260, hs262, G257, rfl, hp266, rfl, hl258, S265, rs263, hc261⟩
 refine Wr (Pv (T_nil (W_seq ?_)))
 refine Ab (fun h267 => ?_) (fun h267 => ?_)
 ·refine W_skip (W_seq (W_block (Wr (P2 (T_nil (W_region ?_))))))
  refine P2 ?_
  have hgq := hgr q (by omega)
  refine Pv ?_
  obtain ⟨hs271, r272, r273⟩ := (r254.mono hl258)
  refine Aj q r272 fun b268 o269 hc270 => ?_
  obtain ⟨a276, c277, hc279, hv275, r278⟩ := r273.at q (by omega)
  have hc280 := hc270 0 (.slice a276 ((gaussTo V k k).getD q []).length c277) (by simpa using hv275)
  simp only [Nat.add_zero] at hc280
  refine Ad S265 hc280 ?_
  refine Pv ?_
  refine T_sliceR k (((gaussTo V k k).getD q []).length) r278 rfl rfl rfl rfl rfl rfl rfl rfl rfl rfl (by first | rfl | exact congrArg some (by omega)) (bound_of (by omega)) (by omega) (by omega) fun a281 c282 hc283 r284 => ?_
  have r285 := Rd.cutB r284
  have rs290 : Rds G257 [.slice a281 (((gaussTo V k k).getD q []).length - k) c282] [((((gaussTo V k k).getD q []).drop k).take (((gaussTo V k k).getD q []).length - k))] := Rds.cons (Rd.canonB r285) (Rds.nil _)
  refine Ah (hone := by simp [Value.cells]; rfl) [.slice a281 (((gaussTo V k k).getD q []).length - k) c282] fun a286 w287 hB288 ho289 => ?_
  have S291 := S265.own hB288 ho289
  refine ⟨trivial, ?_⟩
  have hD292 : (invTo V k q ++ [((((gaussTo V k k).getD q []).drop k).take (((gaussTo V k k).getD q []).length - k))]) = invTo V k (q + 1) := (by rw [List.take_of_length_le (by rw [List.length_drop]; omega)]; exact invTo_snoc V k q)
  refine T_appendS 1 (q + 1) _ S291 (fun _ _ => trivial) rfl rfl rfl rfl rfl rfl rfl rfl rfl rfl rfl rfl rfl rfl (S291.rd 0 rfl) rs290.one (by first | rfl | (simp; done) | (simp; omega) | omega) rfl (by unfold maxLen; first | omega | (rw [List.length_append]; omega)) (by show _ * 24 ≤ _; first | omega | (rw [List.length_append]; omega)) fun a293 c294 w295 hc296 S297 => ?_
  have rs298 := Rds.append rs263 rs290
  rw [hD292] at rs298
  refine Pv (T_nil (W_region ?_))
  refine Ar ?_
  refine Pv (T_nil ?_)
  have S299 := S297.drop 0
  exact ⟨k - (q + 1), [(4, .int .i64 ((k : Nat) : Int)), (5, .slice a77 k c78), (15, .slice a293 (q + 1) c294), (157, .int .i64 ((k : Nat) : Int)), (158, .int .i64 ((q + 1 : Nat) : Int))], by omega, ⟨ciI, rfl, rfl, ciI, ciI, trivial⟩, q + 1, a293, c294, _, G257, rfl, (by omega), rfl, hl258, S299, rs298, hc296⟩
 refine W_exit (Wr (P3 (T_nil (W_ret ?_))))
 refine ⟨_, ⟨_, _, rfl, rfl, ⟨_, _, rfl, rfl, rfl⟩⟩, ?_⟩
 obtain rfl : k = q := by omega
 obtain ⟨G301, hl302, S300, r303⟩ := S265.stillRow 0 rfl
 have r304 := RdL.mk r303 (rs263.mono hl302)
 have hix : ∀ x ∈ invTo V k k, x.length = k := fun x hx => by
  obtain ⟨q, hq, rfl⟩ := List.mem_map.1 hx
  have h2 := hgr q (List.mem_range.1 hq)
  rw [List.length_drop]; omega
 exact ⟨_, _, rfl, (r304).mono S300.fin, hix, S300.below⟩


theorem rprod_n {H : Hp} {w : World} (hH : H.le (hw w)) {A : List (List UInt8)} {aa0 : Option Addr} {nn0 cc0 : Nat} (hv : RdL H (.slice aa0 nn0 cc0) A) {B : List (List UInt8)} {aa1 : Option Addr} {nn1 cc1 : Nat} (hu : RdL H (.slice aa1 nn1 cc1) B) (k n : Nat) (hn : A.length = n) (hA : n ≤ 16) (hB : 1 ≤ B.length ∧ B.length ≤ 16) (hk : k ≤ 16) (hax : ∀ x ∈ A, x.length ≤ 16) (hbx : ∀ x ∈ B, x.length = k) :
  Calls Tryz.prog 154 #[.slice aa0 nn0 cc0, .slice aa1 nn1 cc1] w fun e w' => ∃ a c, e = .returned (.slice a n c) ∧ RdL (F.ext H w.heap.size w') (.slice a n c) (prod A B k n) ∧ Below w.heap.size w w' := by
 subst hn
 exact rprod_ok hH hv hu k hA hB hk hax hbx

theorem rmatrix_ok {H : Hp} {w : World} (hH : H.le (hw w)) (k n : Nat) (hk : 1 ≤ k ∧ k ≤ 5) (hn : k ≤ n ∧ n ≤ 16) :
  Calls Tryz.prog 116 #[.int .i64 ((k : Nat) : Int), .int .i64 ((n : Nat) : Int)] w fun e w' => ∃ a c, e = .returned (.slice a n c) ∧ RdL (F.ext H w.heap.size w') (.slice a n c) (prod (vand k n) (invTo (vand k k) k k) k n) ∧ Below w.heap.size w w' := by
 have hvl := vand_len k n
 have hvk := vand_len k k
 have hil := invTo_len (vand k k) k k
 refine enter2 _ Tryz.func116 rfl Tryz.ntmps116 Tryz.results116 rfl ?_
 have S0 := St.start w hH
 refine Wr (Pv (Nr ?_))
 refine P2 ?_
 refine Cs g_aumbry_aumbryref04_Vandermonde ((rvand_ok S0.le n k (by omega) (by omega)).mono ?_)
 rintro e w5 ⟨a1, c2, rfl, r3, hB4⟩
 obtain ⟨G7, eG9⟩ : ∃ G, G = F.ext H w.heap.size w5 := ⟨_, rfl⟩
 obtain ⟨hl8, S6⟩ := S0.ext hB4
 rw [← eG9] at hl8 S6 r3
 refine ⟨_, rfl, trivial, ?_⟩
 refine Pv (Nr ?_)
 refine P2 ?_
 obtain ⟨hs14, r15, r16⟩ := (id r3)
 refine T_sliceR 0 k r15 rfl rfl rfl rfl rfl rfl rfl rfl rfl rfl (bound_of (by omega)) rfl (by omega) (by omega) fun a10 c11 hc12 r13 => ?_
 have r17 := RdL.mk r13 (r16.cut 0 (k - 0))
 have hvt : (((vand k n).drop 0).take (k - 0)) = vand k k := vand_cut (by omega)
 have r22 := r17
 rw [hvt] at r22
 refine Cs g_aumbry_aumbryref04_Inverse ((rinverse_ok (V := vand k k) S6.le r22 k (by omega) (vand_len k k) (vand_el k k) (fun c hc => gauss_piv (by omega) (by omega) hc)).mono ?_)
 rintro e w23 ⟨a18, c19, rfl, r20, hix, hB21⟩
 obtain ⟨G25, eG27⟩ : ∃ G, G = F.ext G7 w5.heap.size w23 := ⟨_, rfl⟩
 obtain ⟨hl26, S24⟩ := S6.ext hB21
 rw [← eG27] at hl26 S24 r20
 refine ⟨_, rfl, trivial, ?_⟩
 iterate 5 refine Pv ?_
 refine Nr (P2 ?_)
 refine Cs g_aumbry_aumbryref04_Product ((rprod_n S24.le (r3.mono hl26) r20 k n (vand_len _ _) (by omega) (by rw [invTo_len]; omega) (by omega) (fun x hx => by have := vand_el _ _ x hx; omega) hix).mono ?_)
 rintro e w32 ⟨a28, c29, rfl, r30, hB31⟩
 obtain ⟨G34, eG36⟩ : ∃ G, G = F.ext G25 w23.heap.size w32 := ⟨_, rfl⟩
 obtain ⟨hl35, S33⟩ := S24.ext hB31
 rw [← eG36] at hl35 S33 r30
 refine ⟨_, rfl, trivial, ?_⟩
 refine Pv (T_nil (W_ret ?_))
 refine ⟨_, ⟨_, _, rfl, rfl, rfl⟩, ?_⟩
 
 exact ⟨_, _, rfl, (r30).mono S33.fin, S33.below⟩


theorem pad_z {n k : Nat} (h : 0 < k) : (n + (k - n % k) % k) % k = 0 := by
 rcases Nat.eq_zero_or_pos (n % k) with h0 | h0
 ·rw [h0, Nat.sub_zero, Nat.mod_self, Nat.add_zero]; exact h0
 ·have h1 := Nat.mod_lt n h
  rw [Nat.mod_eq_of_lt (show k - n % k < k by omega)]
  have h2 := Nat.div_add_mod n k
  rw [show n + (k - n % k) = k * (n / k) + k by omega, Nat.add_mod_right, Nat.mul_mod_right]
theorem all_snoc {R : List (List UInt8)} {r : List UInt8} {q : Nat} (h : ∀ x ∈ R, x.length = q) (h1 : r.length = q) : ∀ x ∈ R ++ [r], x.length = q := by
 intro x hx
 rcases List.mem_append.1 hx with h2 | h2
 ·exact h x h2
 ·rw [List.mem_singleton.1 h2]; exact h1
theorem rpad_ok {H : Hp} {w : World} (hH : H.le (hw w)) {l : List UInt8} {aa0 : Option Addr} {nn0 cc0 : Nat} (hv : Rd H (.slice aa0 nn0 cc0) nn0 1 (l.map bV)) (k : Nat) (hl : l.length ≤ 100000) (hk : 1 ≤ k ∧ k ≤ 16) :
  Calls Tryz.prog 115 #[.slice aa0 nn0 cc0, .int .i64 ((k : Nat) : Int)] w fun e w' => ∃ a c m, e = .returned (.slice a (l.length + m) c) ∧ l.length + m ≤ c ∧ rowZ w' w.heap.size 5 1 (.slice a (l.length + m) c) (l.length + m) ((l ++ List.replicate m (0 : UInt8)).map bV) ∧ (l.length + m) % k = 0 ∧ m < k ∧ Below w.heap.size w w' := by
 obtain rfl : nn0 = l.length := hv.lenB
 have hvcap : l.length ≤ cc0 := hv.capOf
 have hpz := pad_z (n := l.length) (k := k) (by omega)
 have hpk : ((k - l.length % k) % k) < k := Nat.mod_lt _ (by omega)
 refine enter2 _ Tryz.func115 rfl Tryz.ntmps115 Tryz.results115 rfl ?_
 have S0 := St.start w hH
 refine Wr (Pv (Nr ?_))
 refine P2 ?_
 refine T_re (v' := .int .i64 ((k : Nat) : Int)) (congrArg (Value.int .i64) (by omega)) ?_
 refine Pv (Nr ?_)
 refine Pv ?_
 have S1 := S0.nilRow 5 1
 have hD2 : l = (l ++ List.replicate 0 (0 : UInt8)) := (by simp)
 refine Ai (h1 := by exact one_bV _) (hn' := by first | rfl | (simp; done) | (simp; omega) | omega) (hx' := by rw [← hD2]; simp) (hbytes := by show _ * 1 ≤ _; omega) 0 (l.length + 0) ((l ++ List.replicate 0 (0 : UInt8)).map bV) S1 (hv.mono S1.le) fun a3 c4 w5 hc6 S7 => ?_
 refine Pv (T_nil (W_seq (W_block ?_)))
 refine W_loop (fun M ρ w' => ∃ (m : Nat) (a10 : Option Addr) (c11 : Nat) (G8 : Hp), M = ((k - l.length % k) % k) - m ∧ m ≤ ((k - l.length % k) % k) ∧ ρ = [(1, .int .i64 ((k : Nat) : Int)), (5, .slice a10 (l.length + m) c11)] ∧ H.le G8 ∧ St w H G8 [.row 5 1 (.slice a10 (l.length + m) c11) (l.length + m) ((l ++ List.replicate m (0 : UInt8)).map bV)] w' ∧ (l.length + m) ≤ c11)
  (((k - l.length % k) % k) - 0) [(1, .int .i64 ((k : Nat) : Int)), (5, .slice a3 (l.length + 0) c4)] ⟨ciI, rfl, trivial⟩ ⟨0, a3, c4, H, rfl, (by exact Nat.zero_le _), rfl, Hp.le.refl _, S7, hc6⟩ ?_
 rintro M ρ w13 ⟨m, a10, c11, G8, rfl, hp15, rfl, hl9, S14, hc12⟩
 refine W_seq (Wr (P3 ?_))
 refine T_rem rfl rfl rfl rfl rfl rfl (by omega) ?_
 refine Pv (T_nil ?_)
 refine W_cond_not rfl (fun h16 => ?_) (fun h16 => ?_)
 ·refine W_skip (W_block (W_region (Pv ?_)))
  refine Ah (hone := by simp [Value.cells]; rfl) ([(0 : UInt8)].map bV) fun a17 w18 hB19 ho20 => ?_
  have S21 := S14.own hB19 ho20
  refine ⟨trivial, ?_⟩
  have hD22 : ((l ++ List.replicate m (0 : UInt8)) ++ [(0 : UInt8)]) = (l ++ List.replicate (m + 1) (0 : UInt8)) := (by rw [List.append_assoc, ← List.replicate_succ'])
  refine Ai (h1 := by exact one_bV _) (hn' := by first | rfl | (simp; done) | (simp; omega) | omega) (hx' := by rw [← hD22]; simp) (hbytes := by show _ * 1 ≤ _; omega) 1 (l.length + (m + 1)) ((l ++ List.replicate (m + 1) (0 : UInt8)).map bV) S21 (S21.rd 0 rfl) fun a23 c24 w25 hc26 S27 => ?_
  refine Pv (T_nil ?_)
  have HNE : m ≠ ((k - l.length % k) % k) := fun e => h16 (by rw [e]; omega)
  have S28 := S27.drop 0
  exact ⟨((k - l.length % k) % k) - (m + 1), [(1, .int .i64 ((k : Nat) : Int)), (5, .slice a23 (l.length + (m + 1)) c24)], by omega, ⟨ciI, rfl, trivial⟩, m + 1, a23, c24, G8, rfl, (by omega), rfl, hl9, S28, hc26⟩
 refine W_exit (Wr (P2 (T_nil (W_ret ?_))))
 refine ⟨_, ⟨_, _, rfl, rfl, rfl⟩, ?_⟩
 exact ⟨_, _, m, rfl, hc12, S14.row 0 rfl, by omega, by omega, S14.below⟩


set_option maxHeartbeats 1000000 in
theorem rencode_ok {H : Hp} {w : World} (hH : H.le (hw w)) {l : List UInt8} {aa0 : Option Addr} {nn0 cc0 : Nat} (hv : Rd H (.slice aa0 nn0 cc0) nn0 1 (l.map bV)) (k n : Nat) (hl : l.length ≤ 100000) (hk : 1 ≤ k ∧ k ≤ 5) (hn : k ≤ n ∧ n ≤ 16) :
  Calls Tryz.prog 81 #[.slice aa0 nn0 cc0, .int .i64 ((k : Nat) : Int), .int .i64 ((n : Nat) : Int)] w fun e w' => ∃ a c q m D, e = .returned (.slice a n c) ∧ RdL (F.ext H w.heap.size w') (.slice a n c) D ∧ D.length = n ∧ (∀ x ∈ D, x.length = q) ∧ k * q = l.length + m ∧ m < k ∧ Below w.heap.size w w' := by
 obtain rfl : nn0 = l.length := hv.lenB
 have hvcap : l.length ≤ cc0 := hv.capOf
 have hml := prod_len (vand k n) (invTo (vand k k) k k) k n
 have hmx := prod_el (vand k n) (invTo (vand k k) k k) k n
 refine enter3 _ Tryz.func81 rfl Tryz.ntmps81 Tryz.results81 rfl ?_
 have S0 := St.start w hH
 refine Wr (Pv (Nr ?_))
 refine P2 ?_
 refine Cs g_aumbry_aumbryref04_Pad ((rpad_ok S0.le hv k (by omega) (by omega)).mono ?_)
 rintro e w9 ⟨a1, c2, m, rfl, hc4, ho5, hz, hm, hB8⟩
 have S10 := S0.own hB8 ho5
 refine ⟨_, rfl, trivial, ?_⟩
 obtain ⟨q, hqe⟩ : ∃ q, q = (l.length + m) / k := ⟨_, rfl⟩
 have hqk : k * q = l.length + m := by rw [hqe]; exact Nat.mul_div_cancel' (Nat.dvd_of_mod_eq_zero hz)
 have hq1 : q ≤ k * q := Nat.le_mul_of_pos_left q (by omega)
 refine Pv (Nr ?_)
 refine P3 ?_
 refine T_quo rfl rfl rfl rfl rfl rfl (by omega) ?_
 refine T_re (v' := .int .i64 ((q : Nat) : Int)) (congrArg (Value.int .i64) (by rw [hqe]; exact (Int.natCast_ediv _ _).symm)) ?_
 refine Pv (Nr ?_)
 refine P2 ?_
 refine Cs g_aumbry_aumbryref04_Matrix ((rmatrix_ok S10.le k n (by omega) (by omega)).mono ?_)
 rintro e w15 ⟨a11, c12, rfl, r13, hB14⟩
 obtain ⟨G17, eG19⟩ : ∃ G, G = F.ext H w9.heap.size w15 := ⟨_, rfl⟩
 obtain ⟨hl18, S16⟩ := S10.ext hB14
 rw [← eG19] at hl18 S16 r13
 refine ⟨_, rfl, trivial, ?_⟩
 refine Pv (Nr ?_)
 refine Pv (T_nil (W_seq (Wr ?_)))
 refine Pv (T_nil (W_block ?_))
 obtain ⟨G21, hl22, S20, r23⟩ := S16.stillRow 0 rfl
 have S24 := S20.nilRow 24 1
 have rs25 := Rds.nil G21
 refine W_loop (fun M ρ w' => ∃ (j : Nat) (R : List (List UInt8)) (a28 : Option Addr) (c29 : Nat) (hs31 : List Value) (G26 : Hp), M = n - j ∧ j ≤ n ∧ R.length = j ∧ ((∀ x ∈ R, x.length = q)) ∧ ρ = [(1, .int .i64 ((k : Nat) : Int)), (2, .int .i64 ((n : Nat) : Int)), (7, .slice a1 (l.length + m) c2), (8, .int .i64 ((q : Nat) : Int)), (9, .slice a11 n c12), (10, .slice a28 j c29), (11, .int .i64 (j : Int))] ∧ G21.le G26 ∧ St w H G26 [.row 24 1 (.slice a28 j c29) j hs31] w' ∧ Rds G26 hs31 R ∧ j ≤ c29)
  (n - 0) [(1, .int .i64 ((k : Nat) : Int)), (2, .int .i64 ((n : Nat) : Int)), (7, .slice a1 (l.length + m) c2), (8, .int .i64 ((q : Nat) : Int)), (9, .slice a11 n c12), (10, .slice none 0 0), (11, .int .i64 ((0 : Nat) : Int))] ⟨ciI, ciI, rfl, ciI, rfl, rfl, ciI, trivial⟩ ⟨0, [], none, 0, _, G21, rfl, (by exact Nat.zero_le _), (by rfl), (by exact fun _ h => by cases h), rfl, Hp.le.refl _, S24, rs25, (Nat.le_refl _)⟩ ?_
 rintro M ρ w33 ⟨j, R, a28, c29, hs31, G26, rfl, hp35, hRl, hRx, rfl, hl27, S34, rs32, hc30⟩
 refine W_seq (Wr (P3 (T_nil ?_)))
 refine Ab (fun h38 => ?_) (fun h38 => ?_)
 ·refine W_skip (W_seq (W_block (Wr (Pv ?_))))
  refine T_makeS q S34 (fun _ _ => trivial) rfl rfl rfl rfl rfl rfl rfl rfl rfl rfl (by omega) (by omega) (by show 1 * _ ≤ _; omega) (by unfold maxLen; omega) fun b39 w40 S41 => ?_
  have S42 := S41.toRow (size := 1) (m := q) (xs := (List.replicate q (0 : UInt8)).map bV) 0 rfl (made_b rfl) (by rw [List.length_map, List.length_replicate, Nat.mul_one]) (by unfold maxLen; omega)
  refine Pv (T_nil (W_seq (Wr ?_)))
  refine Pv (T_nil (W_block ?_))
  refine W_loop (fun M ρ w' => ∃ (i : Nat) (r : List UInt8) (a45 : Option Addr) (c46 : Nat) (hs48 : List Value) (a50 : Option Addr) (c51 : Nat) (G43 : Hp), M = k - i ∧ i ≤ k ∧ r.length = q ∧ ρ = [(1, .int .i64 ((k : Nat) : Int)), (2, .int .i64 ((n : Nat) : Int)), (7, .slice a1 (l.length + m) c2), (8, .int .i64 ((q : Nat) : Int)), (9, .slice a11 n c12), (10, .slice a45 j c46), (11, .int .i64 (j : Int)), (12, .slice a50 q c51), (13, .int .i64 (i : Int))] ∧ G26.le G43 ∧ St w H G43 [.row 5 1 (.slice a50 q c51) q (r.map bV), .row 24 1 (.slice a45 j c46) j hs48] w' ∧ Rds G43 hs48 R ∧ j ≤ c46 ∧ q ≤ c51)
   (k - 0) [(1, .int .i64 ((k : Nat) : Int)), (2, .int .i64 ((n : Nat) : Int)), (7, .slice a1 (l.length + m) c2), (8, .int .i64 ((q : Nat) : Int)), (9, .slice a11 n c12), (10, .slice a28 j c29), (11, .int .i64 (j : Int)), (12, .slice (some ⟨b39, 0, none⟩) q q), (13, .int .i64 ((0 : Nat) : Int))] ⟨ciI, ciI, rfl, ciI, rfl, rfl, ciI, rfl, ciI, trivial⟩ ⟨0, (List.replicate q (0 : UInt8)), a28, c29, _, (some ⟨b39, 0, none⟩), q, G26, rfl, (by exact Nat.zero_le _), (by exact List.length_replicate), rfl, Hp.le.refl _, S42, rs32, hc30, (Nat.le_refl _)⟩ ?_
  rintro M ρ w53 ⟨i, r, a45, c46, hs48, a50, c51, G43, rfl, hp55, hrl, rfl, hl44, S54, rs49, hc47, hc52⟩
  refine W_seq (Wr (P3 (T_nil ?_)))
  refine Ab (fun h57 => ?_) (fun h57 => ?_)
  ·refine W_skip (W_seq (W_block (Wr (Pv (T_nil (W_block ?_))))))
   refine W_loop (fun M ρ w' => ∃ (z : Nat) (s : List UInt8) (a60 : Option Addr) (c61 : Nat) (hs63 : List Value) (a65 : Option Addr) (c66 : Nat) (G58 : Hp), M = q - z ∧ z ≤ q ∧ s.length = q ∧ ρ = [(1, .int .i64 ((k : Nat) : Int)), (2, .int .i64 ((n : Nat) : Int)), (7, .slice a1 (l.length + m) c2), (8, .int .i64 ((q : Nat) : Int)), (9, .slice a11 n c12), (10, .slice a60 j c61), (11, .int .i64 (j : Int)), (12, .slice a65 q c66), (13, .int .i64 (i : Int)), (14, .int .i64 (z : Int))] ∧ G43.le G58 ∧ St w H G58 [.row 5 1 (.slice a65 q c66) q (s.map bV), .row 24 1 (.slice a60 j c61) j hs63] w' ∧ Rds G58 hs63 R ∧ j ≤ c61 ∧ q ≤ c66)
    (q - 0) [(1, .int .i64 ((k : Nat) : Int)), (2, .int .i64 ((n : Nat) : Int)), (7, .slice a1 (l.length + m) c2), (8, .int .i64 ((q : Nat) : Int)), (9, .slice a11 n c12), (10, .slice a45 j c46), (11, .int .i64 (j : Int)), (12, .slice a50 q c51), (13, .int .i64 (i : Int)), (14, .int .i64 ((0 : Nat) : Int))] ⟨ciI, ciI, rfl, ciI, rfl, rfl, ciI, rfl, ciI, ciI, trivial⟩ ⟨0, r, a45, c46, _, a50, c51, G43, rfl, (by exact Nat.zero_le _), (by exact hrl), rfl, Hp.le.refl _, S54, rs49, hc47, hc52⟩ ?_
   rintro M ρ w68 ⟨z, s, a60, c61, hs63, a65, c66, G58, rfl, hp70, hsl, rfl, hl59, S69, rs64, hc62, hc67⟩
   refine W_seq (Wr (P3 (T_nil ?_)))
   refine Ab (fun h72 => ?_) (fun h72 => ?_)
   ·refine W_skip (W_seq (W_block (W_plan (planF Tryz.prog G58 [61]) rfl (by kernel_rfl) S69.le ?_)))
    have S73 := S69.drew
    refine P2 ?_
    obtain ⟨g74, rfl⟩ := S73.rowAt 0 rfl (by omega)
    refine Al (hm := by show 0 + Int.toNat _ * 1 = _; omega) (z * 1) ?_
    refine T_load rfl rfl rfl rfl rfl rfl rfl (S73.rowCell 0 rfl (cellB_at (by omega))) ?_
    refine P2 ?_
    obtain ⟨hs78, r79, r80⟩ := (r13.mono (hl22.trans (hl27.trans (hl44.trans hl59))))
    refine Aj j r79 fun b75 o76 hc77 => ?_
    obtain ⟨a83, c84, hc86, hv82, r85⟩ := r80.at j (by omega)
    have hc87 := hc77 0 (.slice a83 ((prod (vand k n) (invTo (vand k k) k k) k n).getD j []).length c84) (by simpa using hv82)
    simp only [Nat.add_zero] at hc87
    refine Ad S73 hc87 ?_
    refine Pv ?_
    have hmr : ((prod (vand k n) (invTo (vand k k) k k) k n).getD j []).length = k := by rw [List.getD_eq_getElem?_getD, List.getElem?_eq_getElem (by omega)]; exact hmx _ (List.getElem_mem _)
    refine Aj i r85 fun b88 o89 hc90 => ?_
    have hc91 := hc90 0 (bV (((prod (vand k n) (invTo (vand k k) k k) k n).getD j []).getD i 0)) (at_b ((prod (vand k n) (invTo (vand k k) k k) k n).getD j []) i (by omega))
    simp only [Nat.add_zero] at hc91
    refine Ad S73 hc91 ?_
    refine P3 ?_
    have hb1 : (i + 1) * q ≤ k * q := Nat.mul_le_mul_right q (by omega)
    have hb2 : (i + 1) * q = i * q + q := Nat.succ_mul i q
    have hb3 : ((i : Nat) : Int) * ((q : Nat) : Int) = ((i * q : Nat) : Int) := (Int.natCast_mul i q).symm
    have hb4 : (l ++ List.replicate m (0 : UInt8)).length = l.length + m := by rw [List.length_append, List.length_replicate]
    refine Ar ?_
    refine T_re (v' := .int .i64 (((i * q) : Nat) : Int)) (congrArg (Value.int .i64) hb3) (Pv ?_)
    refine Ar ?_
    refine Aj ((i * q) + z) (r23.mono (hl27.trans (hl44.trans hl59))) fun b92 o93 hc94 => ?_
    have hc95 := hc94 0 (bV ((l ++ List.replicate m (0 : UInt8)).getD ((i * q) + z) 0)) (at_b (l ++ List.replicate m (0 : UInt8)) ((i * q) + z) (by omega))
    simp only [Nat.add_zero] at hc95
    refine Ad S73 hc95 ?_
    refine T_callQ rfl rfl g_aumbry_aumbryref04_Mul (by kernel_rfl) rfl rfl rfl rfl (fun u => rmul_ok (H := fun _ => none) (w := u) (fun _ _ h => by cases h) (((prod (vand k n) (invTo (vand k k) k k) k n).getD j []).getD i 0) ((l ++ List.replicate m (0 : UInt8)).getD ((i * q) + z) 0) ) ?_
    refine Pv ?_
    refine T_re (v' := bV (s.getD z 0 ^^^ gmul (((prod (vand k n) (invTo (vand k k) k k) k n).getD j []).getD i 0) ((l ++ List.replicate m (0 : UInt8)).getD (i * q + z) 0))) (congrArg (Value.int .u8) (xorU8 _ _)) (Al (hm := by show 0 + Int.toNat _ * 1 = _; omega) (z * 1) ?_)
    refine T_storeRow 0 ((s.set z (s.getD z 0 ^^^ gmul (((prod (vand k n) (invTo (vand k k) k k) k n).getD j []).getD i 0) ((l ++ List.replicate m (0 : UInt8)).getD (i * q + z) 0))).map bV) S73 (fun _ h => ((Hp.le.refl _)).trans h) rfl rfl rfl rfl rfl rfl rfl rfl rfl (by show _ + 1 ≤ _ * 1; omega) (one_bV1 (b := (s.getD z 0 ^^^ gmul (((prod (vand k n) (invTo (vand k k) k k) k n).getD j []).getD i 0) ((l ++ List.replicate m (0 : UInt8)).getD (i * q + z) 0)))) (set_bytes (l := s) (q := z) (x := (s.getD z 0 ^^^ gmul (((prod (vand k n) (invTo (vand k k) k k) k n).getD j []).getD i 0) ((l ++ List.replicate m (0 : UInt8)).getD (i * q + z) 0))) (by omega)) fun w96 S97 => (T_nil (W_region ?_))
    refine Pv ?_
    refine Ar ?_
    refine Pv (T_nil ?_)
    exact ⟨q - (z + 1), [(1, .int .i64 ((k : Nat) : Int)), (2, .int .i64 ((n : Nat) : Int)), (7, .slice a1 (l.length + m) c2), (8, .int .i64 ((q : Nat) : Int)), (9, .slice a11 n c12), (10, .slice a60 j c61), (11, .int .i64 (j : Int)), (12, .slice (some ⟨g74, 0, none⟩) q c66), (13, .int .i64 (i : Int)), (14, .int .i64 ((z + 1 : Nat) : Int))], by omega, ⟨ciI, ciI, rfl, ciI, rfl, rfl, ciI, rfl, ciI, ciI, trivial⟩, z + 1, (s.set z (s.getD z 0 ^^^ gmul (((prod (vand k n) (invTo (vand k k) k k) k n).getD j []).getD i 0) ((l ++ List.replicate m (0 : UInt8)).getD (i * q + z) 0))), a60, c61, _, (some ⟨g74, 0, none⟩), c66, G58, rfl, (by omega), (by rw [List.length_set]; exact hsl), rfl, hl59, S97, rs64, hc62, hc67⟩
   refine W_exit (W_region (Pv ?_))
   refine Ar ?_
   refine Pv (T_nil ?_)
   exact ⟨k - (i + 1), [(1, .int .i64 ((k : Nat) : Int)), (2, .int .i64 ((n : Nat) : Int)), (7, .slice a1 (l.length + m) c2), (8, .int .i64 ((q : Nat) : Int)), (9, .slice a11 n c12), (10, .slice a60 j c61), (11, .int .i64 (j : Int)), (12, .slice a65 q c66), (13, .int .i64 ((i + 1 : Nat) : Int))], by omega, ⟨ciI, ciI, rfl, ciI, rfl, rfl, ciI, rfl, ciI, trivial⟩, i + 1, s, a60, c61, _, a65, c66, G58, rfl, (by omega), (by exact hsl), rfl, (hl44.trans hl59), S69, rs64, hc62, hc67⟩
  refine W_exit (W_region (P2 ?_))
  obtain ⟨G103, hl104, S102, r105⟩ := S54.stillRow 0 rfl
  have rs106 : Rds G103 [.slice a50 q c51] [r] := Rds.cons (Rd.canonB r105) (Rds.nil _)
  refine Ah (hone := by simp [Value.cells]; rfl) [.slice a50 q c51] fun a98 w99 hB100 ho101 => ?_
  have S107 := S102.own hB100 ho101
  refine ⟨trivial, ?_⟩
  have hD108 : (R ++ [r]) = (R ++ [r]) := rfl
  refine T_appendS 1 (j + 1) _ S107 (fun _ _ => trivial) rfl rfl rfl rfl rfl rfl rfl rfl rfl rfl rfl rfl rfl rfl (S107.rd 0 rfl) rs106.one (by first | rfl | (simp; done) | (simp; omega) | omega) rfl (by unfold maxLen; omega) (by show _ * 24 ≤ _; omega) fun a109 c110 w111 hc112 S113 => ?_
  have rs114 := Rds.append (rs49.mono hl104) rs106
  rw [hD108] at rs114
  refine Pv (T_nil (W_region ?_))
  refine Pv ?_
  refine Ar ?_
  refine Pv (T_nil ?_)
  have S115 := S113.drop 0
  exact ⟨n - (j + 1), [(1, .int .i64 ((k : Nat) : Int)), (2, .int .i64 ((n : Nat) : Int)), (7, .slice a1 (l.length + m) c2), (8, .int .i64 ((q : Nat) : Int)), (9, .slice a11 n c12), (10, .slice a109 (j + 1) c110), (11, .int .i64 ((j + 1 : Nat) : Int))], by omega, ⟨ciI, ciI, rfl, ciI, rfl, rfl, ciI, trivial⟩, j + 1, (R ++ [r]), a109, c110, _, G103, rfl, (by omega), (by rw [List.length_append, hRl]; rfl), (by exact all_snoc hRx hrl), rfl, (hl27.trans (hl44.trans hl104)), S115, rs114, hc112⟩
 refine W_exit (Wr (P2 (T_nil (W_ret ?_))))
 refine ⟨_, ⟨_, _, rfl, rfl, rfl⟩, ?_⟩
 obtain ⟨G117, hl118, S116, r119⟩ := S34.stillRow 0 rfl
 have r120 := RdL.mk r119 (rs32.mono hl118)
 obtain rfl : n = j := by omega
 exact ⟨_, _, q, m, R, rfl, (r120).mono S116.fin, hRl, hRx, hqk, hm, S116.below⟩


theorem tn_none {H : Hp} {w w' : World} {b : List UInt8} (h : ¬ NetOk b) (hB : Below w.heap.size w w') :
  ∃ a c a' c', Ending.returned (.tuple #[.slice none 0 0, .slice none 0 0, .bool false]) = .returned (.tuple #[.slice a (tn1 b).length c, .slice a' (tn2 b).length c', .bool (decide (NetOk b))]) ∧
   Rd (F.ext H w.heap.size w') (.slice a (tn1 b).length c) (tn1 b).length 1 ((tn1 b).map bV) ∧ Rd (F.ext H w.heap.size w') (.slice a' (tn2 b).length c') (tn2 b).length 1 ((tn2 b).map bV) ∧ Below w.heap.size w w' := by
 rw [tn1_no h, tn2_no h, decide_eq_false h]
 exact ⟨none, 0, none, 0, rfl, Rd.nil _ _, Rd.nil _ _, hB⟩
theorem tn_some {H : Hp} {w w' : World} {b : List UInt8} (h : NetOk b) {a a' : Option Addr} {n1 n2 c c' : Nat} (e1 : n1 = (tn1 b).length) (e2 : n2 = (tn2 b).length)
  (r1 : Rd (F.ext H w.heap.size w') (.slice a n1 c) n1 1 ((tn1 b).map bV)) (r2 : Rd (F.ext H w.heap.size w') (.slice a' n2 c') n2 1 ((tn2 b).map bV)) (hB : Below w.heap.size w w') :
  ∃ a1 c1 a1' c1', Ending.returned (.tuple #[.slice a n1 c, .slice a' n2 c', .bool true]) = .returned (.tuple #[.slice a1 (tn1 b).length c1, .slice a1' (tn2 b).length c1', .bool (decide (NetOk b))]) ∧
   Rd (F.ext H w.heap.size w') (.slice a1 (tn1 b).length c1) (tn1 b).length 1 ((tn1 b).map bV) ∧ Rd (F.ext H w.heap.size w') (.slice a1' (tn2 b).length c1') (tn2 b).length 1 ((tn2 b).map bV) ∧ Below w.heap.size w w' := by
 subst e1; subst e2
 rw [decide_eq_true h]
 exact ⟨a, c, a', c', rfl, r1, r2, hB⟩
theorem size_ok {H : Hp} {w : World} (hH : H.le (hw w)) {b : List UInt8} {aa0 : Option Addr} {nn0 cc0 : Nat} (hv : Rd H (.slice aa0 nn0 cc0) nn0 1 (b.map bV)) (hb : b.length ≤ 1000000) :
  Calls Tryz.prog 132 #[.slice aa0 nn0 cc0] w fun e w' => ∃ d, e = .returned (.tuple #[.int .i64 ((dval (b.take d) : Nat) : Int), .int .i64 ((d : Nat) : Int)]) ∧ d ≤ (Go.Au.lead b).length ∧ d ≤ 1000000 ∧ Go.Au.Told b d (dval (b.take d)) ∧ Below w.heap.size w w' := by
 obtain rfl : nn0 = b.length := hv.lenB
 have hvcap : b.length ≤ cc0 := hv.capOf
 have hld := lead_le b
 have hd0 : dval (b.take 0) = 0 := rfl
 refine Aa Tryz.func132 Tryz.ntmps132 Tryz.results132 ?_
 have S0 := St.start w hH
 refine Wr (P2 (T_nil (W_seq (W_block ?_))))
 refine W_loop (fun M ρ w' => ∃ (k : Nat) (G1 : Hp), M = (Go.Au.lead b).length - k ∧ k ≤ (Go.Au.lead b).length ∧ dval (b.take k) ≤ 1000000 ∧ ρ = [(0, .slice aa0 b.length cc0), (2, .int .i64 ((dval (b.take k) : Nat) : Int)), (3, .int .i64 (k : Int))] ∧ H.le G1 ∧ St w H G1 [] w')
  ((Go.Au.lead b).length - 0) [(0, .slice aa0 b.length cc0), (2, .int .i64 ((dval (b.take 0) : Nat) : Int)), (3, .int .i64 ((0 : Nat) : Int))] ⟨rfl, ciI, ciI, trivial⟩ ⟨0, H, rfl, (by exact Nat.zero_le _), (by omega), rfl, Hp.le.refl _, S0⟩ ?_
 rintro M ρ w3 ⟨k, G1, rfl, hp5, hp6, rfl, hl2, S4⟩
 have hat := lead_at b k (by assumption)
 have hbl := (b.getD k 0).toNat_lt
 refine W_seq (Wr ?_)
 iterate 5 refine Pv ?_
 refine Td 8 (fun h7 => ?_) (fun h7 => ?_)
 ·iterate 2 (refine Ys ?_; refine Pv ?_)
  refine Ys ?_
  refine Aj k (hv.mono hl2) fun b8 o9 hc10 => ?_
  have hc11 := hc10 0 (bV (b.getD k 0)) (at_b b k (by omega))
  simp only [Nat.add_zero] at hc11
  refine Ys ?_
  refine Ad S4 hc11 ?_
  refine Ys ?_
  refine P3 ?_
  refine Td 15 (fun h12 => ?_) (fun h12 => ?_)
  ·iterate 2 (refine Ys ?_; refine Pv ?_)
   refine Ys ?_
   refine Aj k (hv.mono hl2) fun b13 o14 hc15 => ?_
   have hc16 := hc15 0 (bV (b.getD k 0)) (at_b b k (by omega))
   simp only [Nat.add_zero] at hc16
   refine Ys ?_
   refine Ad S4 hc16 ?_
   refine Ys ?_
   refine P3 ?_
   refine Td 22 (fun h17 => ?_) (fun h17 => ?_)
   ·iterate 2 (refine Ys ?_; refine Pv ?_)
    refine Pv (T_nil ?_)
    refine Ab (fun h18 => ?_) (fun h18 => ?_)
    ·refine W_skip (W_block (Wr ?_))
     have hdv := dval_take (l := b) (k := k) (by omega)
     refine Pv ?_
     refine Ar ?_
     refine P2 ?_
     refine Aj k (hv.mono hl2) fun b19 o20 hc21 => ?_
     have hc22 := hc21 0 (bV (b.getD k 0)) (at_b b k (by omega))
     simp only [Nat.add_zero] at hc22
     refine Ad S4 hc22 ?_
     refine Pv ?_
     refine T_re (v' := .int .u8 (((b.getD k 0).toNat - 48 : Nat) : Int)) (congrArg (Value.int .u8) (by rw [IntKind.wrap_u8]; omega)) ?_
     refine Pv ?_
     refine T_re (v' := .int .i64 (((b.getD k 0).toNat - 48 : Nat) : Int)) (congrArg (Value.int .i64) (by rw [wrap64_id (by omega) (by omega)])) ?_
     refine Ar ?_
     refine Pv (T_nil (W_region ?_))
     refine Pv ?_
     refine Ar ?_
     refine Pv (T_nil ?_)
     exact ⟨(Go.Au.lead b).length - (k + 1), [(0, .slice aa0 b.length cc0), (2, .int .i64 ((dval (b.take (k + 1)) : Nat) : Int)), (3, .int .i64 ((k + 1 : Nat) : Int))], by omega, ⟨rfl, ciI, ciI, trivial⟩, k + 1, G1, rfl, (by omega), (by omega), rfl, hl2, S4⟩
    refine W_exit (Wr ?_)
    iterate 4 refine Pv ?_
    refine T_nil (W_ret ?_)
    refine ⟨_, ⟨_, _, rfl, rfl, ⟨_, _, rfl, rfl, rfl⟩⟩, ?_⟩
    exact ⟨k, rfl, by assumption, by omega, told_size (by assumption) (by omega), S4.below⟩
   iterate 2 refine No ?_
   refine Pv (T_nil ?_)
   refine W_cond_false rfl (W_exit (Wr ?_))
   iterate 4 refine Pv ?_
   refine T_nil (W_ret ?_)
   refine ⟨_, ⟨_, _, rfl, rfl, ⟨_, _, rfl, rfl, rfl⟩⟩, ?_⟩
   exact ⟨k, rfl, by assumption, by omega, told_size (by assumption) (by omega), S4.below⟩
  iterate 5 refine No ?_
  refine P2 ?_
  iterate 2 refine No ?_
  refine Pv (T_nil ?_)
  refine W_cond_false rfl (W_exit (Wr ?_))
  iterate 4 refine Pv ?_
  refine T_nil (W_ret ?_)
  refine ⟨_, ⟨_, _, rfl, rfl, ⟨_, _, rfl, rfl, rfl⟩⟩, ?_⟩
  exact ⟨k, rfl, by assumption, by omega, told_size (by assumption) (by omega), S4.below⟩
 iterate 5 refine No ?_
 refine P2 ?_
 iterate 5 refine No ?_
 refine P2 ?_
 iterate 2 refine No ?_
 refine Pv (T_nil ?_)
 refine W_cond_false rfl (W_exit (Wr ?_))
 iterate 4 refine Pv ?_
 refine T_nil (W_ret ?_)
 refine ⟨_, ⟨_, _, rfl, rfl, ⟨_, _, rfl, rfl, rfl⟩⟩, ?_⟩
 exact ⟨k, rfl, by assumption, by omega, told_size (by assumption) (by omega), S4.below⟩


theorem takeNet_ok {H : Hp} {w : World} (hH : H.le (hw w)) {b : List UInt8} {aa0 : Option Addr} {nn0 cc0 : Nat} (hv : Rd H (.slice aa0 nn0 cc0) nn0 1 (b.map bV)) (hb : b.length ≤ 1000000) :
  Calls Tryz.prog 104 #[.slice aa0 nn0 cc0] w fun e w' => ∃ a c a' c', e = .returned (.tuple #[.slice a (tn1 b).length c, .slice a' (tn2 b).length c', .bool (decide (NetOk b))]) ∧ Rd (F.ext H w.heap.size w') (.slice a (tn1 b).length c) (tn1 b).length 1 ((tn1 b).map bV) ∧ Rd (F.ext H w.heap.size w') (.slice a' (tn2 b).length c') (tn2 b).length 1 ((tn2 b).map bV) ∧ Below w.heap.size w w' := by
 obtain rfl : nn0 = b.length := hv.lenB
 have hvcap : b.length ≤ cc0 := hv.capOf
 refine Aa Tryz.func104 Tryz.ntmps104 Tryz.results104 ?_
 have S0 := St.start w hH
 refine Wr (P3 (Nr ?_))
 refine Pv ?_
 refine Cs g_aumbry_code_size ((size_ok S0.le hv (by omega)).mono ?_)
 rintro e w6 ⟨d1, rfl, hd2, hd3, ht4, hB5⟩
 have S7 := S0.call hB5
 refine ⟨_, rfl, trivial, ?_⟩
 have hll := lead_le b
 generalize dval (b.take d1) = n8 at *
 iterate 5 refine Pv ?_
 refine T_nil (W_seq (W_block (Wr (P3 ?_))))
 refine Td 15 (fun h9 => ?_) (fun h9 => ?_)
 ·iterate 3 refine No ?_
  iterate 4 refine T_un rfl rfl rfl rfl rfl ?_
  refine No ?_
  refine P2 ?_
  iterate 2 refine No ?_
  refine P2 (T_nil ?_)
  refine W_cond_true rfl (Wr (P3 (T_nil (W_ret ?_))))
  refine ⟨_, ⟨_, _, rfl, rfl, ⟨_, _, rfl, rfl, ⟨_, _, rfl, rfl, rfl⟩⟩⟩, ?_⟩
  exact tn_none (told_no ht4 (by omega)) S7.below
 iterate 3 (refine Ys ?_; refine Pv ?_)
 refine Td 18 (fun h10 => ?_) (fun h10 => ?_)
 ·refine Ys ?_
  refine Pv ?_
  refine Ys ?_
  refine Aj 0 hv fun b11 o12 hc13 => ?_
  have hc14 := hc13 0 (bV (b.getD 0 0)) (at_b b 0 (by omega))
  simp only [Nat.add_zero] at hc14
  refine Ys ?_
  refine Ad S7 hc14 ?_
  iterate 2 (refine Ys ?_; refine Pv ?_)
  refine P2 ?_
  refine Td 25 (fun h15 => ?_) (fun h15 => ?_)
  ·iterate 2 refine No ?_
   refine P2 (T_nil ?_)
   refine W_cond_true rfl (Wr (P3 (T_nil (W_ret ?_))))
   refine ⟨_, ⟨_, _, rfl, rfl, ⟨_, _, rfl, rfl, ⟨_, _, rfl, rfl, rfl⟩⟩⟩, ?_⟩
   exact tn_none (told_no ht4 (by omega)) S7.below
  iterate 2 (refine Ys ?_; refine Pv ?_)
  refine P2 (T_nil ?_)
  refine Ab (fun h16 => ?_) (fun h16 => ?_)
  ·refine Wr (P3 (T_nil (W_ret ?_)))
   refine ⟨_, ⟨_, _, rfl, rfl, ⟨_, _, rfl, rfl, ⟨_, _, rfl, rfl, rfl⟩⟩⟩, ?_⟩
   exact tn_none (told_no ht4 (by omega)) S7.below
  refine Wr ?_
  iterate 4 refine Pv ?_
  iterate 2 refine Ar ?_
  refine P2 ?_
  refine Td 37 (fun h17 => ?_) (fun h17 => ?_)
  ·iterate 5 refine No ?_
   refine P2 ?_
   iterate 8 refine No ?_
   refine P2 (T_nil ?_)
   refine W_cond_true rfl (Wr (P3 (T_nil (W_ret ?_))))
   refine ⟨_, ⟨_, _, rfl, rfl, ⟨_, _, rfl, rfl, ⟨_, _, rfl, rfl, rfl⟩⟩⟩, ?_⟩
   exact tn_none (told_no ht4 (by omega)) S7.below
  iterate 2 (refine Ys ?_; refine Pv ?_)
  refine Ys ?_
  refine Aj d1 hv fun b18 o19 hc20 => ?_
  have hc21 := hc20 0 (bV (b.getD d1 0)) (at_b b d1 (by omega))
  simp only [Nat.add_zero] at hc21
  refine Ys ?_
  refine Ad S7 hc21 ?_
  refine Ys ?_
  refine P3 ?_
  refine Tn 44 (fun h22 => ?_) (fun h22 => ?_)
  ·iterate 8 refine No ?_
   refine P2 (T_nil ?_)
   refine W_cond_true rfl (Wr (P3 (T_nil (W_ret ?_))))
   refine ⟨_, ⟨_, _, rfl, rfl, ⟨_, _, rfl, rfl, ⟨_, _, rfl, rfl, rfl⟩⟩⟩, ?_⟩
   exact tn_none (told_no ht4 (by omega)) S7.below
  iterate 2 (refine Ys ?_; refine Pv ?_)
  refine Ys ?_
  refine Ar ?_
  refine Ys ?_
  refine Pv ?_
  refine Ys ?_
  refine Ar ?_
  refine Ys ?_
  refine Aj ((d1 + 1) + n8) hv fun b23 o24 hc25 => ?_
  have hc26 := hc25 0 (bV (b.getD ((d1 + 1) + n8) 0)) (at_b b ((d1 + 1) + n8) (by omega))
  simp only [Nat.add_zero] at hc26
  refine Ys ?_
  refine Ad S7 hc26 ?_
  refine Ys ?_
  refine P3 (T_nil ?_)
  refine W_cond_not rfl (fun h27 => ?_) (fun h27 => ?_)
  ·refine Wr (P3 (T_nil (W_ret ?_)))
   refine ⟨_, ⟨_, _, rfl, rfl, ⟨_, _, rfl, rfl, ⟨_, _, rfl, rfl, rfl⟩⟩⟩, ?_⟩
   exact tn_none (told_no ht4 (by omega)) S7.below
  refine W_skip (Wr ?_)
  have HY := told_yes ht4 (by omega) (by omega) (by omega) (by omega) (by omega) (by omega)
  have HL1 := tn1_len HY.1
  have HL2 := tn2_len HY.1
  refine P2 ?_
  iterate 2 (refine Ar ?_; refine Pv ?_)
  refine Ar ?_
  refine T_sliceR (d1 + 1) ((d1 + 1) + n8) hv rfl rfl rfl rfl rfl rfl rfl rfl rfl rfl (bound_of (by omega)) (bound_of (by omega)) (by omega) (by omega) fun a28 c29 hc30 r31 => ?_
  have r32 := Rd.cutB r31
  have r33 : Rd H (.slice a28 (((d1 + 1) + n8) - (d1 + 1)) c29) (((d1 + 1) + n8) - (d1 + 1)) 1 ((tn1 b).map bV) := by rw [told_cut1 HY] at r32; exact r32
  have S34 := S7.nilRow 5 1
  refine Ai (h1 := by exact one_bV _) (hn' := by first | rfl | (simp; done) | (simp; omega) | omega) (hx' := by simp) (hbytes := by show _ * 1 ≤ _; omega) 0 ((tn1 b).length) ((tn1 b).map bV) S34 (r33.mono S34.le) fun a35 c36 w37 hc38 S39 => ?_
  refine Pv (Nr ?_)
  refine P3 ?_
  iterate 2 refine Ar ?_
  refine T_sliceR ((d1 + n8) + 2) b.length hv rfl rfl rfl rfl rfl rfl rfl rfl rfl rfl (by first | rfl | exact congrArg some (by omega)) (bound_of (by omega)) (by omega) (by omega) fun a40 c41 hc42 r43 => ?_
  have r44 := Rd.cutB r43
  have r45 : Rd H (.slice a40 (b.length - ((d1 + n8) + 2)) c41) (b.length - ((d1 + n8) + 2)) 1 ((tn2 b).map bV) := by rw [told_cut2 HY] at r44; exact r44
  have S46 := S39.nilRow 5 1
  refine Ai (h1 := by exact one_bV _) (hn' := by first | rfl | (simp; done) | (simp; omega) | omega) (hx' := by simp) (hbytes := by show _ * 1 ≤ _; omega) 0 ((tn2 b).length) ((tn2 b).map bV) S46 (r45.mono S46.le) fun a47 c48 w49 hc50 S51 => ?_
  refine Pv (Nr ?_)
  iterate 5 refine Pv ?_
  refine T_nil (W_ret ?_)
  refine ⟨_, ⟨_, _, rfl, rfl, ⟨_, _, rfl, rfl, ⟨_, _, rfl, rfl, rfl⟩⟩⟩, ?_⟩
  exact tn_some HY.1 rfl rfl (Rd.of_own_ext (S51.row 1 rfl)) (Rd.of_own_ext (S51.row 0 rfl)) S51.below
 iterate 4 refine No ?_
 refine Ys ?_
 refine P3 ?_
 iterate 2 (refine Ys ?_; refine Pv ?_)
 refine P2 (T_nil ?_)
 refine Ab (fun h52 => ?_) (fun h52 => ?_)
 ·refine Wr (P3 (T_nil (W_ret ?_)))
  refine ⟨_, ⟨_, _, rfl, rfl, ⟨_, _, rfl, rfl, ⟨_, _, rfl, rfl, rfl⟩⟩⟩, ?_⟩
  exact tn_none (told_no ht4 (by omega)) S7.below
 refine Wr ?_
 iterate 4 refine Pv ?_
 iterate 2 refine Ar ?_
 refine P2 ?_
 refine Td 37 (fun h53 => ?_) (fun h53 => ?_)
 ·iterate 5 refine No ?_
  refine P2 ?_
  iterate 8 refine No ?_
  refine P2 (T_nil ?_)
  refine W_cond_true rfl (Wr (P3 (T_nil (W_ret ?_))))
  refine ⟨_, ⟨_, _, rfl, rfl, ⟨_, _, rfl, rfl, ⟨_, _, rfl, rfl, rfl⟩⟩⟩, ?_⟩
  exact tn_none (told_no ht4 (by omega)) S7.below
 iterate 2 (refine Ys ?_; refine Pv ?_)
 refine Ys ?_
 refine Aj d1 hv fun b54 o55 hc56 => ?_
 have hc57 := hc56 0 (bV (b.getD d1 0)) (at_b b d1 (by omega))
 simp only [Nat.add_zero] at hc57
 refine Ys ?_
 refine Ad S7 hc57 ?_
 refine Ys ?_
 refine P3 ?_
 refine Tn 44 (fun h58 => ?_) (fun h58 => ?_)
 ·iterate 8 refine No ?_
  refine P2 (T_nil ?_)
  refine W_cond_true rfl (Wr (P3 (T_nil (W_ret ?_))))
  refine ⟨_, ⟨_, _, rfl, rfl, ⟨_, _, rfl, rfl, ⟨_, _, rfl, rfl, rfl⟩⟩⟩, ?_⟩
  exact tn_none (told_no ht4 (by omega)) S7.below
 iterate 2 (refine Ys ?_; refine Pv ?_)
 refine Ys ?_
 refine Ar ?_
 refine Ys ?_
 refine Pv ?_
 refine Ys ?_
 refine Ar ?_
 refine Ys ?_
 refine Aj ((d1 + 1) + n8) hv fun b59 o60 hc61 => ?_
 have hc62 := hc61 0 (bV (b.getD ((d1 + 1) + n8) 0)) (at_b b ((d1 + 1) + n8) (by omega))
 simp only [Nat.add_zero] at hc62
 refine Ys ?_
 refine Ad S7 hc62 ?_
 refine Ys ?_
 refine P3 (T_nil ?_)
 refine W_cond_not rfl (fun h63 => ?_) (fun h63 => ?_)
 ·refine Wr (P3 (T_nil (W_ret ?_)))
  refine ⟨_, ⟨_, _, rfl, rfl, ⟨_, _, rfl, rfl, ⟨_, _, rfl, rfl, rfl⟩⟩⟩, ?_⟩
  exact tn_none (told_no ht4 (by omega)) S7.below
 refine W_skip (Wr ?_)
 have HY := told_yes ht4 (by omega) (by omega) (by omega) (by omega) (by omega) (by omega)
 have HL1 := tn1_len HY.1
 have HL2 := tn2_len HY.1
 refine P2 ?_
 iterate 2 (refine Ar ?_; refine Pv ?_)
 refine Ar ?_
 refine T_sliceR (d1 + 1) ((d1 + 1) + n8) hv rfl rfl rfl rfl rfl rfl rfl rfl rfl rfl (bound_of (by omega)) (bound_of (by omega)) (by omega) (by omega) fun a64 c65 hc66 r67 => ?_
 have r68 := Rd.cutB r67
 have r69 : Rd H (.slice a64 (((d1 + 1) + n8) - (d1 + 1)) c65) (((d1 + 1) + n8) - (d1 + 1)) 1 ((tn1 b).map bV) := by rw [told_cut1 HY] at r68; exact r68
 have S70 := S7.nilRow 5 1
 refine Ai (h1 := by exact one_bV _) (hn' := by first | rfl | (simp; done) | (simp; omega) | omega) (hx' := by simp) (hbytes := by show _ * 1 ≤ _; omega) 0 ((tn1 b).length) ((tn1 b).map bV) S70 (r69.mono S70.le) fun a71 c72 w73 hc74 S75 => ?_
 refine Pv (Nr ?_)
 refine P3 ?_
 iterate 2 refine Ar ?_
 refine T_sliceR ((d1 + n8) + 2) b.length hv rfl rfl rfl rfl rfl rfl rfl rfl rfl rfl (by first | rfl | exact congrArg some (by omega)) (bound_of (by omega)) (by omega) (by omega) fun a76 c77 hc78 r79 => ?_
 have r80 := Rd.cutB r79
 have r81 : Rd H (.slice a76 (b.length - ((d1 + n8) + 2)) c77) (b.length - ((d1 + n8) + 2)) 1 ((tn2 b).map bV) := by rw [told_cut2 HY] at r80; exact r80
 have S82 := S75.nilRow 5 1
 refine Ai (h1 := by exact one_bV _) (hn' := by first | rfl | (simp; done) | (simp; omega) | omega) (hx' := by simp) (hbytes := by show _ * 1 ≤ _; omega) 0 ((tn2 b).length) ((tn2 b).map bV) S82 (r81.mono S82.le) fun a83 c84 w85 hc86 S87 => ?_
 refine Pv (Nr ?_)
 iterate 5 refine Pv ?_
 refine T_nil (W_ret ?_)
 refine ⟨_, ⟨_, _, rfl, rfl, ⟨_, _, rfl, rfl, ⟨_, _, rfl, rfl, rfl⟩⟩⟩, ?_⟩
 exact tn_some HY.1 rfl rfl (Rd.of_own_ext (S87.row 1 rfl)) (Rd.of_own_ext (S87.row 0 rfl)) S87.below


theorem takeNetR_ok {H : Hp} {w : World} (hH : H.le (hw w)) {b : List UInt8} {aa0 : Option Addr} {nn0 cc0 : Nat} (hv : Rd H (.slice aa0 nn0 cc0) nn0 1 (b.map bV)) (hb : b.length ≤ 1000000) :
  Calls Tryz.prog 112 #[.slice aa0 nn0 cc0] w fun e w' => ∃ a c a' c', e = .returned (.tuple #[.slice a (tn1 b).length c, .slice a' (tn2 b).length c', .bool (decide (NetOk b))]) ∧ Rd (F.ext H w.heap.size w') (.slice a (tn1 b).length c) (tn1 b).length 1 ((tn1 b).map bV) ∧ Rd (F.ext H w.heap.size w') (.slice a' (tn2 b).length c') (tn2 b).length 1 ((tn2 b).map bV) ∧ Below w.heap.size w w' := by
 obtain rfl : nn0 = b.length := hv.lenB
 have hvcap : b.length ≤ cc0 := hv.capOf
 have hld := lead_le b
 have hd0 : dval (b.take 0) = 0 := rfl
 refine Aa Tryz.func112 Tryz.ntmps112 Tryz.results112 ?_
 have S0 := St.start w hH
 refine Wr (P3 (Nr ?_))
 refine P2 (T_nil (W_seq (W_block ?_)))
 refine W_loop (fun M ρ w' => ∃ (k : Nat) (G1 : Hp), M = (Go.Au.lead b).length - k ∧ k ≤ (Go.Au.lead b).length ∧ k ≤ 6 ∧ dval (b.take k) < 10 ^ k ∧ ρ = [(0, .slice aa0 b.length cc0), (5, .int .i64 (k : Int)), (6, .int .i64 ((dval (b.take k) : Nat) : Int))] ∧ H.le G1 ∧ St w H G1 [] w')
  ((Go.Au.lead b).length - 0) [(0, .slice aa0 b.length cc0), (5, .int .i64 ((0 : Nat) : Int)), (6, .int .i64 ((dval (b.take 0) : Nat) : Int))] ⟨rfl, ciI, ciI, trivial⟩ ⟨0, H, rfl, (by exact Nat.zero_le _), (by omega), (by rw [hd0]; decide), rfl, Hp.le.refl _, S0⟩ ?_
 rintro M ρ w3 ⟨k, G1, rfl, hp5, hp6, hp7, rfl, hl2, S4⟩
 have hat := lead_at b k (by assumption)
 have hbl := (b.getD k 0).toNat_lt
 have hp6 := Nat.pow_le_pow_right (n := 10) (by decide) (show k ≤ 6 by assumption)
 have hp6 : 10 ^ k ≤ 1000000 := hp6
 refine W_seq (Wr ?_)
 iterate 5 refine Pv ?_
 refine Td 11 (fun h8 => ?_) (fun h8 => ?_)
 ·iterate 2 (refine Ys ?_; refine Pv ?_)
  refine Ys ?_
  refine Aj k (hv.mono hl2) fun b9 o10 hc11 => ?_
  have hc12 := hc11 0 (bV (b.getD k 0)) (at_b b k (by omega))
  simp only [Nat.add_zero] at hc12
  refine Ys ?_
  refine Ad S4 hc12 ?_
  refine Ys ?_
  refine P3 ?_
  refine Td 18 (fun h13 => ?_) (fun h13 => ?_)
  ·iterate 2 (refine Ys ?_; refine Pv ?_)
   refine Ys ?_
   refine Aj k (hv.mono hl2) fun b14 o15 hc16 => ?_
   have hc17 := hc16 0 (bV (b.getD k 0)) (at_b b k (by omega))
   simp only [Nat.add_zero] at hc17
   refine Ys ?_
   refine Ad S4 hc17 ?_
   refine Ys ?_
   refine P3 ?_
   refine Td 25 (fun h18 => ?_) (fun h18 => ?_)
   ·iterate 2 (refine Ys ?_; refine Pv ?_)
    refine Pv (T_nil ?_)
    refine Ab (fun h19 => ?_) (fun h19 => ?_)
    ·refine W_skip (W_block (Wr ?_))
     have hdv := dval_take (l := b) (k := k) (by omega)
     refine Pv ?_
     refine Ar ?_
     refine P2 ?_
     refine Aj k (hv.mono hl2) fun b20 o21 hc22 => ?_
     have hc23 := hc22 0 (bV (b.getD k 0)) (at_b b k (by omega))
     simp only [Nat.add_zero] at hc23
     refine Ad S4 hc23 ?_
     refine Pv ?_
     refine T_re (v' := .int .u8 (((b.getD k 0).toNat - 48 : Nat) : Int)) (congrArg (Value.int .u8) (by rw [IntKind.wrap_u8]; omega)) ?_
     refine Pv ?_
     refine T_re (v' := .int .i64 (((b.getD k 0).toNat - 48 : Nat) : Int)) (congrArg (Value.int .i64) (by rw [wrap64_id (by omega) (by omega)])) ?_
     refine Ar ?_
     refine Pv (T_nil (W_region ?_))
     refine Pv ?_
     refine Ar ?_
     refine Pv (T_nil ?_)
     exact ⟨(Go.Au.lead b).length - (k + 1), [(0, .slice aa0 b.length cc0), (5, .int .i64 ((k + 1 : Nat) : Int)), (6, .int .i64 ((dval (b.take (k + 1)) : Nat) : Int))], by omega, ⟨rfl, ciI, ciI, trivial⟩, k + 1, G1, rfl, (by omega), (by omega), (by rw [Nat.pow_succ]; omega), rfl, hl2, S4⟩
    refine W_exit (W_seq (Wr ?_))
    have HT := told_ref (b := b) (d := k) (by assumption) (by omega)
    generalize dval (b.take k) = n at *
    refine P3 ?_
    refine Td 42 (fun h24 => ?_) (fun h24 => ?_)
    ·iterate 4 refine No ?_
     refine P2 ?_
     iterate 5 refine No ?_
     refine P2 ?_
     iterate 5 refine No ?_
     iterate 2 refine T_un rfl rfl rfl rfl rfl ?_
     iterate 2 (refine No ?_; refine Pv ?_; refine Pv ?_; refine No ?_)
     iterate 6 refine No ?_
     refine P2 ?_
     iterate 8 refine No ?_
     refine Pv (T_nil ?_)
     refine W_cond_true rfl (Wr (P3 (T_nil (W_ret ?_))))
     refine ⟨_, ⟨_, _, rfl, rfl, ⟨_, _, rfl, rfl, ⟨_, _, rfl, rfl, rfl⟩⟩⟩, ?_⟩
     exact tn_none (told_no HT (by omega)) S4.below
    iterate 4 (refine Ys ?_; refine Pv ?_)
    refine P2 ?_
    refine Td 48 (fun h25 => ?_) (fun h25 => ?_)
    ·iterate 5 refine No ?_
     refine P2 ?_
     iterate 5 refine No ?_
     iterate 2 refine T_un rfl rfl rfl rfl rfl ?_
     iterate 2 (refine No ?_; refine Pv ?_; refine Pv ?_; refine No ?_)
     iterate 6 refine No ?_
     refine P2 ?_
     iterate 8 refine No ?_
     refine Pv (T_nil ?_)
     refine W_cond_true rfl (Wr (P3 (T_nil (W_ret ?_))))
     refine ⟨_, ⟨_, _, rfl, rfl, ⟨_, _, rfl, rfl, ⟨_, _, rfl, rfl, rfl⟩⟩⟩, ?_⟩
     exact tn_none (told_no HT (by omega)) S4.below
    iterate 2 (refine Ys ?_; refine Pv ?_)
    refine Ys ?_
    refine Aj k (hv.mono hl2) fun b26 o27 hc28 => ?_
    have hc29 := hc28 0 (bV (b.getD k 0)) (at_b b k (by omega))
    simp only [Nat.add_zero] at hc29
    refine Ys ?_
    refine Ad S4 hc29 ?_
    refine Ys ?_
    refine P3 ?_
    refine Tn 55 (fun h30 => ?_) (fun h30 => ?_)
    ·iterate 5 refine No ?_
     iterate 2 refine T_un rfl rfl rfl rfl rfl ?_
     iterate 2 (refine No ?_; refine Pv ?_; refine Pv ?_; refine No ?_)
     iterate 6 refine No ?_
     refine P2 ?_
     iterate 8 refine No ?_
     refine Pv (T_nil ?_)
     refine W_cond_true rfl (Wr (P3 (T_nil (W_ret ?_))))
     refine ⟨_, ⟨_, _, rfl, rfl, ⟨_, _, rfl, rfl, ⟨_, _, rfl, rfl, rfl⟩⟩⟩, ?_⟩
     exact tn_none (told_no HT (by omega)) S4.below
    refine Ys ?_
    refine Pv ?_
    refine Ys ?_
    refine Aj 0 (hv.mono hl2) fun b31 o32 hc33 => ?_
    have hc34 := hc33 0 (bV (b.getD 0 0)) (at_b b 0 (by omega))
    simp only [Nat.add_zero] at hc34
    refine Ys ?_
    refine Ad S4 hc34 ?_
    iterate 2 (refine Ys ?_; refine Pv ?_)
    refine Td 60 (fun h35 => ?_) (fun h35 => ?_)
    ·iterate 3 (refine Ys ?_; refine Pv ?_)
     refine P2 ?_
     refine Td 65 (fun h36 => ?_) (fun h36 => ?_)
     ·iterate 2 refine No ?_
      refine P2 ?_
      iterate 7 refine No ?_
      refine P2 ?_
      iterate 8 refine No ?_
      refine Pv (T_nil ?_)
      refine W_cond_true rfl (Wr (P3 (T_nil (W_ret ?_))))
      refine ⟨_, ⟨_, _, rfl, rfl, ⟨_, _, rfl, rfl, ⟨_, _, rfl, rfl, rfl⟩⟩⟩, ?_⟩
      exact tn_none (told_no HT (by omega)) S4.below
     iterate 2 (refine Ys ?_; refine Pv ?_)
     refine P2 ?_
     refine Td 69 (fun h37 => ?_) (fun h37 => ?_)
     ·iterate 7 refine No ?_
      refine P2 ?_
      iterate 8 refine No ?_
      refine Pv (T_nil ?_)
      refine W_cond_true rfl (Wr (P3 (T_nil (W_ret ?_))))
      refine ⟨_, ⟨_, _, rfl, rfl, ⟨_, _, rfl, rfl, ⟨_, _, rfl, rfl, rfl⟩⟩⟩, ?_⟩
      exact tn_none (told_no HT (by omega)) S4.below
     iterate 4 (refine Ys ?_; refine Pv ?_)
     iterate 2 (refine Ys ?_; refine Ar ?_)
     refine Ys ?_
     refine P3 ?_
     refine Td 78 (fun h38 => ?_) (fun h38 => ?_)
     ·iterate 8 refine No ?_
      refine Pv (T_nil ?_)
      refine W_cond_true rfl (Wr (P3 (T_nil (W_ret ?_))))
      refine ⟨_, ⟨_, _, rfl, rfl, ⟨_, _, rfl, rfl, ⟨_, _, rfl, rfl, rfl⟩⟩⟩, ?_⟩
      exact tn_none (told_no HT (by omega)) S4.below
     iterate 2 (refine Ys ?_; refine Pv ?_)
     refine Ys ?_
     refine Ar ?_
     refine Ys ?_
     refine Pv ?_
     refine Ys ?_
     refine Ar ?_
     refine Ys ?_
     refine Aj ((k + 1) + n) (hv.mono hl2) fun b39 o40 hc41 => ?_
     have hc42 := hc41 0 (bV (b.getD ((k + 1) + n) 0)) (at_b b ((k + 1) + n) (by omega))
     simp only [Nat.add_zero] at hc42
     refine Ys ?_
     refine Ad S4 hc42 ?_
     refine Ys ?_
     refine P2 (T_nil ?_)
     refine W_cond_not rfl (fun h43 => ?_) (fun h43 => ?_)
     ·refine Wr (P3 (T_nil (W_ret ?_)))
      refine ⟨_, ⟨_, _, rfl, rfl, ⟨_, _, rfl, rfl, ⟨_, _, rfl, rfl, rfl⟩⟩⟩, ?_⟩
      exact tn_none (told_no HT (by omega)) S4.below
     refine W_skip (W_seq (W_draw rfl (by kernel_rfl) ?_))
     have S44 := S4.drew
     have HY := told_yes HT (by omega) (by omega) (by omega) (by omega) (by omega) (by omega)
     have HL1 := tn1_len HY.1
     have HL2 := tn2_len HY.1
     refine P2 ?_
     iterate 2 (refine Ar ?_; refine Pv ?_)
     refine Ar ?_
     refine T_sliceR (k + 1) ((k + 1) + n) (hv.mono hl2) rfl rfl rfl rfl rfl rfl rfl rfl rfl rfl (bound_of (by omega)) (bound_of (by omega)) (by omega) (by omega) fun a45 c46 hc47 r48 => ?_
     have r49 := Rd.cutB r48
     have r50 : Rd G1 (.slice a45 (((k + 1) + n) - (k + 1)) c46) (((k + 1) + n) - (k + 1)) 1 ((tn1 b).map bV) := by rw [told_cut1 HY] at r49; exact r49
     refine P3 ?_
     iterate 2 refine Ar ?_
     refine T_sliceR ((k + n) + 2) b.length (hv.mono hl2) rfl rfl rfl rfl rfl rfl rfl rfl rfl rfl (by first | rfl | exact congrArg some (by omega)) (bound_of (by omega)) (by omega) (by omega) fun a51 c52 hc53 r54 => ?_
     have r55 := Rd.cutB r54
     have r56 : Rd G1 (.slice a51 (b.length - ((k + n) + 2)) c52) (b.length - ((k + n) + 2)) 1 ((tn2 b).map bV) := by rw [told_cut2 HY] at r55; exact r55
     refine P3 (T_nil (W_ret ?_))
     refine ⟨_, ⟨_, _, rfl, rfl, ⟨_, _, rfl, rfl, ⟨_, _, rfl, rfl, rfl⟩⟩⟩, ?_⟩
     have q1 := HY.2.1
     have q2 := HY.2.2
     exact tn_some HY.1 (by omega) (by omega) ((r50).mono S44.fin) ((r56).mono S44.fin) S44.below
    iterate 2 refine No ?_
    refine Ys ?_
    refine P3 ?_
    iterate 2 (refine Ys ?_; refine Pv ?_)
    refine P2 ?_
    refine Td 69 (fun h57 => ?_) (fun h57 => ?_)
    ·iterate 7 refine No ?_
     refine P2 ?_
     iterate 8 refine No ?_
     refine Pv (T_nil ?_)
     refine W_cond_true rfl (Wr (P3 (T_nil (W_ret ?_))))
     refine ⟨_, ⟨_, _, rfl, rfl, ⟨_, _, rfl, rfl, ⟨_, _, rfl, rfl, rfl⟩⟩⟩, ?_⟩
     exact tn_none (told_no HT (by omega)) S4.below
    iterate 4 (refine Ys ?_; refine Pv ?_)
    iterate 2 (refine Ys ?_; refine Ar ?_)
    refine Ys ?_
    refine P3 ?_
    refine Td 78 (fun h58 => ?_) (fun h58 => ?_)
    ·iterate 8 refine No ?_
     refine Pv (T_nil ?_)
     refine W_cond_true rfl (Wr (P3 (T_nil (W_ret ?_))))
     refine ⟨_, ⟨_, _, rfl, rfl, ⟨_, _, rfl, rfl, ⟨_, _, rfl, rfl, rfl⟩⟩⟩, ?_⟩
     exact tn_none (told_no HT (by omega)) S4.below
    iterate 2 (refine Ys ?_; refine Pv ?_)
    refine Ys ?_
    refine Ar ?_
    refine Ys ?_
    refine Pv ?_
    refine Ys ?_
    refine Ar ?_
    refine Ys ?_
    refine Aj ((k + 1) + n) (hv.mono hl2) fun b59 o60 hc61 => ?_
    have hc62 := hc61 0 (bV (b.getD ((k + 1) + n) 0)) (at_b b ((k + 1) + n) (by omega))
    simp only [Nat.add_zero] at hc62
    refine Ys ?_
    refine Ad S4 hc62 ?_
    refine Ys ?_
    refine P2 (T_nil ?_)
    refine W_cond_not rfl (fun h63 => ?_) (fun h63 => ?_)
    ·refine Wr (P3 (T_nil (W_ret ?_)))
     refine ⟨_, ⟨_, _, rfl, rfl, ⟨_, _, rfl, rfl, ⟨_, _, rfl, rfl, rfl⟩⟩⟩, ?_⟩
     exact tn_none (told_no HT (by omega)) S4.below
    refine W_skip (W_seq (W_draw rfl (by kernel_rfl) ?_))
    have S64 := S4.drew
    have HY := told_yes HT (by omega) (by omega) (by omega) (by omega) (by omega) (by omega)
    have HL1 := tn1_len HY.1
    have HL2 := tn2_len HY.1
    refine P2 ?_
    iterate 2 (refine Ar ?_; refine Pv ?_)
    refine Ar ?_
    refine T_sliceR (k + 1) ((k + 1) + n) (hv.mono hl2) rfl rfl rfl rfl rfl rfl rfl rfl rfl rfl (bound_of (by omega)) (bound_of (by omega)) (by omega) (by omega) fun a65 c66 hc67 r68 => ?_
    have r69 := Rd.cutB r68
    have r70 : Rd G1 (.slice a65 (((k + 1) + n) - (k + 1)) c66) (((k + 1) + n) - (k + 1)) 1 ((tn1 b).map bV) := by rw [told_cut1 HY] at r69; exact r69
    refine P3 ?_
    iterate 2 refine Ar ?_
    refine T_sliceR ((k + n) + 2) b.length (hv.mono hl2) rfl rfl rfl rfl rfl rfl rfl rfl rfl rfl (by first | rfl | exact congrArg some (by omega)) (bound_of (by omega)) (by omega) (by omega) fun a71 c72 hc73 r74 => ?_
    have r75 := Rd.cutB r74
    have r76 : Rd G1 (.slice a71 (b.length - ((k + n) + 2)) c72) (b.length - ((k + n) + 2)) 1 ((tn2 b).map bV) := by rw [told_cut2 HY] at r75; exact r75
    refine P3 (T_nil (W_ret ?_))
    refine ⟨_, ⟨_, _, rfl, rfl, ⟨_, _, rfl, rfl, ⟨_, _, rfl, rfl, rfl⟩⟩⟩, ?_⟩
    have q1 := HY.2.1
    have q2 := HY.2.2
    exact tn_some HY.1 (by omega) (by omega) ((r70).mono S64.fin) ((r76).mono S64.fin) S64.below
   iterate 2 refine No ?_
   refine Pv (T_nil ?_)
   refine W_cond_false rfl (W_exit (W_seq (Wr ?_)))
   have HT := told_ref (b := b) (d := k) (by assumption) (by omega)
   generalize dval (b.take k) = n at *
   refine P3 ?_
   refine Td 42 (fun h77 => ?_) (fun h77 => ?_)
   ·iterate 4 refine No ?_
    refine P2 ?_
    iterate 5 refine No ?_
    refine P2 ?_
    iterate 5 refine No ?_
    iterate 2 refine T_un rfl rfl rfl rfl rfl ?_
    iterate 2 (refine No ?_; refine Pv ?_; refine Pv ?_; refine No ?_)
    iterate 6 refine No ?_
    refine P2 ?_
    iterate 8 refine No ?_
    refine Pv (T_nil ?_)
    refine W_cond_true rfl (Wr (P3 (T_nil (W_ret ?_))))
    refine ⟨_, ⟨_, _, rfl, rfl, ⟨_, _, rfl, rfl, ⟨_, _, rfl, rfl, rfl⟩⟩⟩, ?_⟩
    exact tn_none (told_no HT (by omega)) S4.below
   iterate 4 (refine Ys ?_; refine Pv ?_)
   refine P2 ?_
   refine Td 48 (fun h78 => ?_) (fun h78 => ?_)
   ·iterate 5 refine No ?_
    refine P2 ?_
    iterate 5 refine No ?_
    iterate 2 refine T_un rfl rfl rfl rfl rfl ?_
    iterate 2 (refine No ?_; refine Pv ?_; refine Pv ?_; refine No ?_)
    iterate 6 refine No ?_
    refine P2 ?_
    iterate 8 refine No ?_
    refine Pv (T_nil ?_)
    refine W_cond_true rfl (Wr (P3 (T_nil (W_ret ?_))))
    refine ⟨_, ⟨_, _, rfl, rfl, ⟨_, _, rfl, rfl, ⟨_, _, rfl, rfl, rfl⟩⟩⟩, ?_⟩
    exact tn_none (told_no HT (by omega)) S4.below
   iterate 2 (refine Ys ?_; refine Pv ?_)
   refine Ys ?_
   refine Aj k (hv.mono hl2) fun b79 o80 hc81 => ?_
   have hc82 := hc81 0 (bV (b.getD k 0)) (at_b b k (by omega))
   simp only [Nat.add_zero] at hc82
   refine Ys ?_
   refine Ad S4 hc82 ?_
   refine Ys ?_
   refine P3 ?_
   refine Tn 55 (fun h83 => ?_) (fun h83 => ?_)
   ·iterate 5 refine No ?_
    iterate 2 refine T_un rfl rfl rfl rfl rfl ?_
    iterate 2 (refine No ?_; refine Pv ?_; refine Pv ?_; refine No ?_)
    iterate 6 refine No ?_
    refine P2 ?_
    iterate 8 refine No ?_
    refine Pv (T_nil ?_)
    refine W_cond_true rfl (Wr (P3 (T_nil (W_ret ?_))))
    refine ⟨_, ⟨_, _, rfl, rfl, ⟨_, _, rfl, rfl, ⟨_, _, rfl, rfl, rfl⟩⟩⟩, ?_⟩
    exact tn_none (told_no HT (by omega)) S4.below
   refine Ys ?_
   refine Pv ?_
   refine Ys ?_
   refine Aj 0 (hv.mono hl2) fun b84 o85 hc86 => ?_
   have hc87 := hc86 0 (bV (b.getD 0 0)) (at_b b 0 (by omega))
   simp only [Nat.add_zero] at hc87
   refine Ys ?_
   refine Ad S4 hc87 ?_
   iterate 2 (refine Ys ?_; refine Pv ?_)
   refine Td 60 (fun h88 => ?_) (fun h88 => ?_)
   ·iterate 3 (refine Ys ?_; refine Pv ?_)
    refine P2 ?_
    refine Td 65 (fun h89 => ?_) (fun h89 => ?_)
    ·iterate 2 refine No ?_
     refine P2 ?_
     iterate 7 refine No ?_
     refine P2 ?_
     iterate 8 refine No ?_
     refine Pv (T_nil ?_)
     refine W_cond_true rfl (Wr (P3 (T_nil (W_ret ?_))))
     refine ⟨_, ⟨_, _, rfl, rfl, ⟨_, _, rfl, rfl, ⟨_, _, rfl, rfl, rfl⟩⟩⟩, ?_⟩
     exact tn_none (told_no HT (by omega)) S4.below
    iterate 2 (refine Ys ?_; refine Pv ?_)
    refine P2 ?_
    refine Td 69 (fun h90 => ?_) (fun h90 => ?_)
    ·iterate 7 refine No ?_
     refine P2 ?_
     iterate 8 refine No ?_
     refine Pv (T_nil ?_)
     refine W_cond_true rfl (Wr (P3 (T_nil (W_ret ?_))))
     refine ⟨_, ⟨_, _, rfl, rfl, ⟨_, _, rfl, rfl, ⟨_, _, rfl, rfl, rfl⟩⟩⟩, ?_⟩
     exact tn_none (told_no HT (by omega)) S4.below
    iterate 4 (refine Ys ?_; refine Pv ?_)
    iterate 2 (refine Ys ?_; refine Ar ?_)
    refine Ys ?_
    refine P3 ?_
    refine Td 78 (fun h91 => ?_) (fun h91 => ?_)
    ·iterate 8 refine No ?_
     refine Pv (T_nil ?_)
     refine W_cond_true rfl (Wr (P3 (T_nil (W_ret ?_))))
     refine ⟨_, ⟨_, _, rfl, rfl, ⟨_, _, rfl, rfl, ⟨_, _, rfl, rfl, rfl⟩⟩⟩, ?_⟩
     exact tn_none (told_no HT (by omega)) S4.below
    iterate 2 (refine Ys ?_; refine Pv ?_)
    refine Ys ?_
    refine Ar ?_
    refine Ys ?_
    refine Pv ?_
    refine Ys ?_
    refine Ar ?_
    refine Ys ?_
    refine Aj ((k + 1) + n) (hv.mono hl2) fun b92 o93 hc94 => ?_
    have hc95 := hc94 0 (bV (b.getD ((k + 1) + n) 0)) (at_b b ((k + 1) + n) (by omega))
    simp only [Nat.add_zero] at hc95
    refine Ys ?_
    refine Ad S4 hc95 ?_
    refine Ys ?_
    refine P2 (T_nil ?_)
    refine W_cond_not rfl (fun h96 => ?_) (fun h96 => ?_)
    ·refine Wr (P3 (T_nil (W_ret ?_)))
     refine ⟨_, ⟨_, _, rfl, rfl, ⟨_, _, rfl, rfl, ⟨_, _, rfl, rfl, rfl⟩⟩⟩, ?_⟩
     exact tn_none (told_no HT (by omega)) S4.below
    refine W_skip (W_seq (W_draw rfl (by kernel_rfl) ?_))
    have S97 := S4.drew
    have HY := told_yes HT (by omega) (by omega) (by omega) (by omega) (by omega) (by omega)
    have HL1 := tn1_len HY.1
    have HL2 := tn2_len HY.1
    refine P2 ?_
    iterate 2 (refine Ar ?_; refine Pv ?_)
    refine Ar ?_
    refine T_sliceR (k + 1) ((k + 1) + n) (hv.mono hl2) rfl rfl rfl rfl rfl rfl rfl rfl rfl rfl (bound_of (by omega)) (bound_of (by omega)) (by omega) (by omega) fun a98 c99 hc100 r101 => ?_
    have r102 := Rd.cutB r101
    have r103 : Rd G1 (.slice a98 (((k + 1) + n) - (k + 1)) c99) (((k + 1) + n) - (k + 1)) 1 ((tn1 b).map bV) := by rw [told_cut1 HY] at r102; exact r102
    refine P3 ?_
    iterate 2 refine Ar ?_
    refine T_sliceR ((k + n) + 2) b.length (hv.mono hl2) rfl rfl rfl rfl rfl rfl rfl rfl rfl rfl (by first | rfl | exact congrArg some (by omega)) (bound_of (by omega)) (by omega) (by omega) fun a104 c105 hc106 r107 => ?_
    have r108 := Rd.cutB r107
    have r109 : Rd G1 (.slice a104 (b.length - ((k + n) + 2)) c105) (b.length - ((k + n) + 2)) 1 ((tn2 b).map bV) := by rw [told_cut2 HY] at r108; exact r108
    refine P3 (T_nil (W_ret ?_))
    refine ⟨_, ⟨_, _, rfl, rfl, ⟨_, _, rfl, rfl, ⟨_, _, rfl, rfl, rfl⟩⟩⟩, ?_⟩
    have q1 := HY.2.1
    have q2 := HY.2.2
    exact tn_some HY.1 (by omega) (by omega) ((r103).mono S97.fin) ((r109).mono S97.fin) S97.below
   iterate 2 refine No ?_
   refine Ys ?_
   refine P3 ?_
   iterate 2 (refine Ys ?_; refine Pv ?_)
   refine P2 ?_
   refine Td 69 (fun h110 => ?_) (fun h110 => ?_)
   ·iterate 7 refine No ?_
    refine P2 ?_
    iterate 8 refine No ?_
    refine Pv (T_nil ?_)
    refine W_cond_true rfl (Wr (P3 (T_nil (W_ret ?_))))
    refine ⟨_, ⟨_, _, rfl, rfl, ⟨_, _, rfl, rfl, ⟨_, _, rfl, rfl, rfl⟩⟩⟩, ?_⟩
    exact tn_none (told_no HT (by omega)) S4.below
   iterate 4 (refine Ys ?_; refine Pv ?_)
   iterate 2 (refine Ys ?_; refine Ar ?_)
   refine Ys ?_
   refine P3 ?_
   refine Td 78 (fun h111 => ?_) (fun h111 => ?_)
   ·iterate 8 refine No ?_
    refine Pv (T_nil ?_)
    refine W_cond_true rfl (Wr (P3 (T_nil (W_ret ?_))))
    refine ⟨_, ⟨_, _, rfl, rfl, ⟨_, _, rfl, rfl, ⟨_, _, rfl, rfl, rfl⟩⟩⟩, ?_⟩
    exact tn_none (told_no HT (by omega)) S4.below
   iterate 2 (refine Ys ?_; refine Pv ?_)
   refine Ys ?_
   refine Ar ?_
   refine Ys ?_
   refine Pv ?_
   refine Ys ?_
   refine Ar ?_
   refine Ys ?_
   refine Aj ((k + 1) + n) (hv.mono hl2) fun b112 o113 hc114 => ?_
   have hc115 := hc114 0 (bV (b.getD ((k + 1) + n) 0)) (at_b b ((k + 1) + n) (by omega))
   simp only [Nat.add_zero] at hc115
   refine Ys ?_
   refine Ad S4 hc115 ?_
   refine Ys ?_
   refine P2 (T_nil ?_)
   refine W_cond_not rfl (fun h116 => ?_) (fun h116 => ?_)
   ·refine Wr (P3 (T_nil (W_ret ?_)))
    refine ⟨_, ⟨_, _, rfl, rfl, ⟨_, _, rfl, rfl, ⟨_, _, rfl, rfl, rfl⟩⟩⟩, ?_⟩
    exact tn_none (told_no HT (by omega)) S4.below
   refine W_skip (W_seq (W_draw rfl (by kernel_rfl) ?_))
   have S117 := S4.drew
   have HY := told_yes HT (by omega) (by omega) (by omega) (by omega) (by omega) (by omega)
   have HL1 := tn1_len HY.1
   have HL2 := tn2_len HY.1
   refine P2 ?_
   iterate 2 (refine Ar ?_; refine Pv ?_)
   refine Ar ?_
   refine T_sliceR (k + 1) ((k + 1) + n) (hv.mono hl2) rfl rfl rfl rfl rfl rfl rfl rfl rfl rfl (bound_of (by omega)) (bound_of (by omega)) (by omega) (by omega) fun a118 c119 hc120 r121 => ?_
   have r122 := Rd.cutB r121
   have r123 : Rd G1 (.slice a118 (((k + 1) + n) - (k + 1)) c119) (((k + 1) + n) - (k + 1)) 1 ((tn1 b).map bV) := by rw [told_cut1 HY] at r122; exact r122
   refine P3 ?_
   iterate 2 refine Ar ?_
   refine T_sliceR ((k + n) + 2) b.length (hv.mono hl2) rfl rfl rfl rfl rfl rfl rfl rfl rfl rfl (by first | rfl | exact congrArg some (by omega)) (bound_of (by omega)) (by omega) (by omega) fun a124 c125 hc126 r127 => ?_
   have r128 := Rd.cutB r127
   have r129 : Rd G1 (.slice a124 (b.length - ((k + n) + 2)) c125) (b.length - ((k + n) + 2)) 1 ((tn2 b).map bV) := by rw [told_cut2 HY] at r128; exact r128
   refine P3 (T_nil (W_ret ?_))
   refine ⟨_, ⟨_, _, rfl, rfl, ⟨_, _, rfl, rfl, ⟨_, _, rfl, rfl, rfl⟩⟩⟩, ?_⟩
   have q1 := HY.2.1
   have q2 := HY.2.2
   exact tn_some HY.1 (by omega) (by omega) ((r123).mono S117.fin) ((r129).mono S117.fin) S117.below
  iterate 5 refine No ?_
  refine P2 ?_
  iterate 2 refine No ?_
  refine Pv (T_nil ?_)
  refine W_cond_false rfl (W_exit (W_seq (Wr ?_)))
  have HT := told_ref (b := b) (d := k) (by assumption) (by omega)
  generalize dval (b.take k) = n at *
  refine P3 ?_
  refine Td 42 (fun h130 => ?_) (fun h130 => ?_)
  ·iterate 4 refine No ?_
   refine P2 ?_
   iterate 5 refine No ?_
   refine P2 ?_
   iterate 5 refine No ?_
   iterate 2 refine T_un rfl rfl rfl rfl rfl ?_
   iterate 2 (refine No ?_; refine Pv ?_; refine Pv ?_; refine No ?_)
   iterate 6 refine No ?_
   refine P2 ?_
   iterate 8 refine No ?_
   refine Pv (T_nil ?_)
   refine W_cond_true rfl (Wr (P3 (T_nil (W_ret ?_))))
   refine ⟨_, ⟨_, _, rfl, rfl, ⟨_, _, rfl, rfl, ⟨_, _, rfl, rfl, rfl⟩⟩⟩, ?_⟩
   exact tn_none (told_no HT (by omega)) S4.below
  iterate 4 (refine Ys ?_; refine Pv ?_)
  refine P2 ?_
  refine Td 48 (fun h131 => ?_) (fun h131 => ?_)
  ·iterate 5 refine No ?_
   refine P2 ?_
   iterate 5 refine No ?_
   iterate 2 refine T_un rfl rfl rfl rfl rfl ?_
   iterate 2 (refine No ?_; refine Pv ?_; refine Pv ?_; refine No ?_)
   iterate 6 refine No ?_
   refine P2 ?_
   iterate 8 refine No ?_
   refine Pv (T_nil ?_)
   refine W_cond_true rfl (Wr (P3 (T_nil (W_ret ?_))))
   refine ⟨_, ⟨_, _, rfl, rfl, ⟨_, _, rfl, rfl, ⟨_, _, rfl, rfl, rfl⟩⟩⟩, ?_⟩
   exact tn_none (told_no HT (by omega)) S4.below
  iterate 2 (refine Ys ?_; refine Pv ?_)
  refine Ys ?_
  refine Aj k (hv.mono hl2) fun b132 o133 hc134 => ?_
  have hc135 := hc134 0 (bV (b.getD k 0)) (at_b b k (by omega))
  simp only [Nat.add_zero] at hc135
  refine Ys ?_
  refine Ad S4 hc135 ?_
  refine Ys ?_
  refine P3 ?_
  refine Tn 55 (fun h136 => ?_) (fun h136 => ?_)
  ·iterate 5 refine No ?_
   iterate 2 refine T_un rfl rfl rfl rfl rfl ?_
   iterate 2 (refine No ?_; refine Pv ?_; refine Pv ?_; refine No ?_)
   iterate 6 refine No ?_
   refine P2 ?_
   iterate 8 refine No ?_
   refine Pv (T_nil ?_)
   refine W_cond_true rfl (Wr (P3 (T_nil (W_ret ?_))))
   refine ⟨_, ⟨_, _, rfl, rfl, ⟨_, _, rfl, rfl, ⟨_, _, rfl, rfl, rfl⟩⟩⟩, ?_⟩
   exact tn_none (told_no HT (by omega)) S4.below
  refine Ys ?_
  refine Pv ?_
  refine Ys ?_
  refine Aj 0 (hv.mono hl2) fun b137 o138 hc139 => ?_
  have hc140 := hc139 0 (bV (b.getD 0 0)) (at_b b 0 (by omega))
  simp only [Nat.add_zero] at hc140
  refine Ys ?_
  refine Ad S4 hc140 ?_
  iterate 2 (refine Ys ?_; refine Pv ?_)
  refine Td 60 (fun h141 => ?_) (fun h141 => ?_)
  ·iterate 3 (refine Ys ?_; refine Pv ?_)
   refine P2 ?_
   refine Td 65 (fun h142 => ?_) (fun h142 => ?_)
   ·iterate 2 refine No ?_
    refine P2 ?_
    iterate 7 refine No ?_
    refine P2 ?_
    iterate 8 refine No ?_
    refine Pv (T_nil ?_)
    refine W_cond_true rfl (Wr (P3 (T_nil (W_ret ?_))))
    refine ⟨_, ⟨_, _, rfl, rfl, ⟨_, _, rfl, rfl, ⟨_, _, rfl, rfl, rfl⟩⟩⟩, ?_⟩
    exact tn_none (told_no HT (by omega)) S4.below
   iterate 2 (refine Ys ?_; refine Pv ?_)
   refine P2 ?_
   refine Td 69 (fun h143 => ?_) (fun h143 => ?_)
   ·iterate 7 refine No ?_
    refine P2 ?_
    iterate 8 refine No ?_
    refine Pv (T_nil ?_)
    refine W_cond_true rfl (Wr (P3 (T_nil (W_ret ?_))))
    refine ⟨_, ⟨_, _, rfl, rfl, ⟨_, _, rfl, rfl, ⟨_, _, rfl, rfl, rfl⟩⟩⟩, ?_⟩
    exact tn_none (told_no HT (by omega)) S4.below
   iterate 4 (refine Ys ?_; refine Pv ?_)
   iterate 2 (refine Ys ?_; refine Ar ?_)
   refine Ys ?_
   refine P3 ?_
   refine Td 78 (fun h144 => ?_) (fun h144 => ?_)
   ·iterate 8 refine No ?_
    refine Pv (T_nil ?_)
    refine W_cond_true rfl (Wr (P3 (T_nil (W_ret ?_))))
    refine ⟨_, ⟨_, _, rfl, rfl, ⟨_, _, rfl, rfl, ⟨_, _, rfl, rfl, rfl⟩⟩⟩, ?_⟩
    exact tn_none (told_no HT (by omega)) S4.below
   iterate 2 (refine Ys ?_; refine Pv ?_)
   refine Ys ?_
   refine Ar ?_
   refine Ys ?_
   refine Pv ?_
   refine Ys ?_
   refine Ar ?_
   refine Ys ?_
   refine Aj ((k + 1) + n) (hv.mono hl2) fun b145 o146 hc147 => ?_
   have hc148 := hc147 0 (bV (b.getD ((k + 1) + n) 0)) (at_b b ((k + 1) + n) (by omega))
   simp only [Nat.add_zero] at hc148
   refine Ys ?_
   refine Ad S4 hc148 ?_
   refine Ys ?_
   refine P2 (T_nil ?_)
   refine W_cond_not rfl (fun h149 => ?_) (fun h149 => ?_)
   ·refine Wr (P3 (T_nil (W_ret ?_)))
    refine ⟨_, ⟨_, _, rfl, rfl, ⟨_, _, rfl, rfl, ⟨_, _, rfl, rfl, rfl⟩⟩⟩, ?_⟩
    exact tn_none (told_no HT (by omega)) S4.below
   refine W_skip (W_seq (W_draw rfl (by kernel_rfl) ?_))
   have S150 := S4.drew
   have HY := told_yes HT (by omega) (by omega) (by omega) (by omega) (by omega) (by omega)
   have HL1 := tn1_len HY.1
   have HL2 := tn2_len HY.1
   refine P2 ?_
   iterate 2 (refine Ar ?_; refine Pv ?_)
   refine Ar ?_
   refine T_sliceR (k + 1) ((k + 1) + n) (hv.mono hl2) rfl rfl rfl rfl rfl rfl rfl rfl rfl rfl (bound_of (by omega)) (bound_of (by omega)) (by omega) (by omega) fun a151 c152 hc153 r154 => ?_
   have r155 := Rd.cutB r154
   have r156 : Rd G1 (.slice a151 (((k + 1) + n) - (k + 1)) c152) (((k + 1) + n) - (k + 1)) 1 ((tn1 b).map bV) := by rw [told_cut1 HY] at r155; exact r155
   refine P3 ?_
   iterate 2 refine Ar ?_
   refine T_sliceR ((k + n) + 2) b.length (hv.mono hl2) rfl rfl rfl rfl rfl rfl rfl rfl rfl rfl (by first | rfl | exact congrArg some (by omega)) (bound_of (by omega)) (by omega) (by omega) fun a157 c158 hc159 r160 => ?_
   have r161 := Rd.cutB r160
   have r162 : Rd G1 (.slice a157 (b.length - ((k + n) + 2)) c158) (b.length - ((k + n) + 2)) 1 ((tn2 b).map bV) := by rw [told_cut2 HY] at r161; exact r161
   refine P3 (T_nil (W_ret ?_))
   refine ⟨_, ⟨_, _, rfl, rfl, ⟨_, _, rfl, rfl, ⟨_, _, rfl, rfl, rfl⟩⟩⟩, ?_⟩
   have q1 := HY.2.1
   have q2 := HY.2.2
   exact tn_some HY.1 (by omega) (by omega) ((r156).mono S150.fin) ((r162).mono S150.fin) S150.below
  iterate 2 refine No ?_
  refine Ys ?_
  refine P3 ?_
  iterate 2 (refine Ys ?_; refine Pv ?_)
  refine P2 ?_
  refine Td 69 (fun h163 => ?_) (fun h163 => ?_)
  ·iterate 7 refine No ?_
   refine P2 ?_
   iterate 8 refine No ?_
   refine Pv (T_nil ?_)
   refine W_cond_true rfl (Wr (P3 (T_nil (W_ret ?_))))
   refine ⟨_, ⟨_, _, rfl, rfl, ⟨_, _, rfl, rfl, ⟨_, _, rfl, rfl, rfl⟩⟩⟩, ?_⟩
   exact tn_none (told_no HT (by omega)) S4.below
  iterate 4 (refine Ys ?_; refine Pv ?_)
  iterate 2 (refine Ys ?_; refine Ar ?_)
  refine Ys ?_
  refine P3 ?_
  refine Td 78 (fun h164 => ?_) (fun h164 => ?_)
  ·iterate 8 refine No ?_
   refine Pv (T_nil ?_)
   refine W_cond_true rfl (Wr (P3 (T_nil (W_ret ?_))))
   refine ⟨_, ⟨_, _, rfl, rfl, ⟨_, _, rfl, rfl, ⟨_, _, rfl, rfl, rfl⟩⟩⟩, ?_⟩
   exact tn_none (told_no HT (by omega)) S4.below
  iterate 2 (refine Ys ?_; refine Pv ?_)
  refine Ys ?_
  refine Ar ?_
  refine Ys ?_
  refine Pv ?_
  refine Ys ?_
  refine Ar ?_
  refine Ys ?_
  refine Aj ((k + 1) + n) (hv.mono hl2) fun b165 o166 hc167 => ?_
  have hc168 := hc167 0 (bV (b.getD ((k + 1) + n) 0)) (at_b b ((k + 1) + n) (by omega))
  simp only [Nat.add_zero] at hc168
  refine Ys ?_
  refine Ad S4 hc168 ?_
  refine Ys ?_
  refine P2 (T_nil ?_)
  refine W_cond_not rfl (fun h169 => ?_) (fun h169 => ?_)
  ·refine Wr (P3 (T_nil (W_ret ?_)))
   refine ⟨_, ⟨_, _, rfl, rfl, ⟨_, _, rfl, rfl, ⟨_, _, rfl, rfl, rfl⟩⟩⟩, ?_⟩
   exact tn_none (told_no HT (by omega)) S4.below
  refine W_skip (W_seq (W_draw rfl (by kernel_rfl) ?_))
  have S170 := S4.drew
  have HY := told_yes HT (by omega) (by omega) (by omega) (by omega) (by omega) (by omega)
  have HL1 := tn1_len HY.1
  have HL2 := tn2_len HY.1
  refine P2 ?_
  iterate 2 (refine Ar ?_; refine Pv ?_)
  refine Ar ?_
  refine T_sliceR (k + 1) ((k + 1) + n) (hv.mono hl2) rfl rfl rfl rfl rfl rfl rfl rfl rfl rfl (bound_of (by omega)) (bound_of (by omega)) (by omega) (by omega) fun a171 c172 hc173 r174 => ?_
  have r175 := Rd.cutB r174
  have r176 : Rd G1 (.slice a171 (((k + 1) + n) - (k + 1)) c172) (((k + 1) + n) - (k + 1)) 1 ((tn1 b).map bV) := by rw [told_cut1 HY] at r175; exact r175
  refine P3 ?_
  iterate 2 refine Ar ?_
  refine T_sliceR ((k + n) + 2) b.length (hv.mono hl2) rfl rfl rfl rfl rfl rfl rfl rfl rfl rfl (by first | rfl | exact congrArg some (by omega)) (bound_of (by omega)) (by omega) (by omega) fun a177 c178 hc179 r180 => ?_
  have r181 := Rd.cutB r180
  have r182 : Rd G1 (.slice a177 (b.length - ((k + n) + 2)) c178) (b.length - ((k + n) + 2)) 1 ((tn2 b).map bV) := by rw [told_cut2 HY] at r181; exact r181
  refine P3 (T_nil (W_ret ?_))
  refine ⟨_, ⟨_, _, rfl, rfl, ⟨_, _, rfl, rfl, ⟨_, _, rfl, rfl, rfl⟩⟩⟩, ?_⟩
  have q1 := HY.2.1
  have q2 := HY.2.2
  exact tn_some HY.1 (by omega) (by omega) ((r176).mono S170.fin) ((r182).mono S170.fin) S170.below
 iterate 5 refine No ?_
 refine P2 ?_
 iterate 5 refine No ?_
 refine P2 ?_
 iterate 2 refine No ?_
 refine Pv (T_nil ?_)
 refine W_cond_false rfl (W_exit (W_seq (Wr ?_)))
 have HT := told_ref (b := b) (d := k) (by assumption) (by omega)
 generalize dval (b.take k) = n at *
 refine P3 ?_
 refine Td 42 (fun h183 => ?_) (fun h183 => ?_)
 ·iterate 4 refine No ?_
  refine P2 ?_
  iterate 5 refine No ?_
  refine P2 ?_
  iterate 5 refine No ?_
  iterate 2 refine T_un rfl rfl rfl rfl rfl ?_
  iterate 2 (refine No ?_; refine Pv ?_; refine Pv ?_; refine No ?_)
  iterate 6 refine No ?_
  refine P2 ?_
  iterate 8 refine No ?_
  refine Pv (T_nil ?_)
  refine W_cond_true rfl (Wr (P3 (T_nil (W_ret ?_))))
  refine ⟨_, ⟨_, _, rfl, rfl, ⟨_, _, rfl, rfl, ⟨_, _, rfl, rfl, rfl⟩⟩⟩, ?_⟩
  exact tn_none (told_no HT (by omega)) S4.below
 iterate 4 (refine Ys ?_; refine Pv ?_)
 refine P2 ?_
 refine Td 48 (fun h184 => ?_) (fun h184 => ?_)
 ·iterate 5 refine No ?_
  refine P2 ?_
  iterate 5 refine No ?_
  iterate 2 refine T_un rfl rfl rfl rfl rfl ?_
  iterate 2 (refine No ?_; refine Pv ?_; refine Pv ?_; refine No ?_)
  iterate 6 refine No ?_
  refine P2 ?_
  iterate 8 refine No ?_
  refine Pv (T_nil ?_)
  refine W_cond_true rfl (Wr (P3 (T_nil (W_ret ?_))))
  refine ⟨_, ⟨_, _, rfl, rfl, ⟨_, _, rfl, rfl, ⟨_, _, rfl, rfl, rfl⟩⟩⟩, ?_⟩
  exact tn_none (told_no HT (by omega)) S4.below
 iterate 2 (refine Ys ?_; refine Pv ?_)
 refine Ys ?_
 refine Aj k (hv.mono hl2) fun b185 o186 hc187 => ?_
 have hc188 := hc187 0 (bV (b.getD k 0)) (at_b b k (by omega))
 simp only [Nat.add_zero] at hc188
 refine Ys ?_
 refine Ad S4 hc188 ?_
 refine Ys ?_
 refine P3 ?_
 refine Tn 55 (fun h189 => ?_) (fun h189 => ?_)
 ·iterate 5 refine No ?_
  iterate 2 refine T_un rfl rfl rfl rfl rfl ?_
  iterate 2 (refine No ?_; refine Pv ?_; refine Pv ?_; refine No ?_)
  iterate 6 refine No ?_
  refine P2 ?_
  iterate 8 refine No ?_
  refine Pv (T_nil ?_)
  refine W_cond_true rfl (Wr (P3 (T_nil (W_ret ?_))))
  refine ⟨_, ⟨_, _, rfl, rfl, ⟨_, _, rfl, rfl, ⟨_, _, rfl, rfl, rfl⟩⟩⟩, ?_⟩
  exact tn_none (told_no HT (by omega)) S4.below
 refine Ys ?_
 refine Pv ?_
 refine Ys ?_
 refine Aj 0 (hv.mono hl2) fun b190 o191 hc192 => ?_
 have hc193 := hc192 0 (bV (b.getD 0 0)) (at_b b 0 (by omega))
 simp only [Nat.add_zero] at hc193
 refine Ys ?_
 refine Ad S4 hc193 ?_
 iterate 2 (refine Ys ?_; refine Pv ?_)
 refine Td 60 (fun h194 => ?_) (fun h194 => ?_)
 ·iterate 3 (refine Ys ?_; refine Pv ?_)
  refine P2 ?_
  refine Td 65 (fun h195 => ?_) (fun h195 => ?_)
  ·iterate 2 refine No ?_
   refine P2 ?_
   iterate 7 refine No ?_
   refine P2 ?_
   iterate 8 refine No ?_
   refine Pv (T_nil ?_)
   refine W_cond_true rfl (Wr (P3 (T_nil (W_ret ?_))))
   refine ⟨_, ⟨_, _, rfl, rfl, ⟨_, _, rfl, rfl, ⟨_, _, rfl, rfl, rfl⟩⟩⟩, ?_⟩
   exact tn_none (told_no HT (by omega)) S4.below
  iterate 2 (refine Ys ?_; refine Pv ?_)
  refine P2 ?_
  refine Td 69 (fun h196 => ?_) (fun h196 => ?_)
  ·iterate 7 refine No ?_
   refine P2 ?_
   iterate 8 refine No ?_
   refine Pv (T_nil ?_)
   refine W_cond_true rfl (Wr (P3 (T_nil (W_ret ?_))))
   refine ⟨_, ⟨_, _, rfl, rfl, ⟨_, _, rfl, rfl, ⟨_, _, rfl, rfl, rfl⟩⟩⟩, ?_⟩
   exact tn_none (told_no HT (by omega)) S4.below
  iterate 4 (refine Ys ?_; refine Pv ?_)
  iterate 2 (refine Ys ?_; refine Ar ?_)
  refine Ys ?_
  refine P3 ?_
  refine Td 78 (fun h197 => ?_) (fun h197 => ?_)
  ·iterate 8 refine No ?_
   refine Pv (T_nil ?_)
   refine W_cond_true rfl (Wr (P3 (T_nil (W_ret ?_))))
   refine ⟨_, ⟨_, _, rfl, rfl, ⟨_, _, rfl, rfl, ⟨_, _, rfl, rfl, rfl⟩⟩⟩, ?_⟩
   exact tn_none (told_no HT (by omega)) S4.below
  iterate 2 (refine Ys ?_; refine Pv ?_)
  refine Ys ?_
  refine Ar ?_
  refine Ys ?_
  refine Pv ?_
  refine Ys ?_
  refine Ar ?_
  refine Ys ?_
  refine Aj ((k + 1) + n) (hv.mono hl2) fun b198 o199 hc200 => ?_
  have hc201 := hc200 0 (bV (b.getD ((k + 1) + n) 0)) (at_b b ((k + 1) + n) (by omega))
  simp only [Nat.add_zero] at hc201
  refine Ys ?_
  refine Ad S4 hc201 ?_
  refine Ys ?_
  refine P2 (T_nil ?_)
  refine W_cond_not rfl (fun h202 => ?_) (fun h202 => ?_)
  ·refine Wr (P3 (T_nil (W_ret ?_)))
   refine ⟨_, ⟨_, _, rfl, rfl, ⟨_, _, rfl, rfl, ⟨_, _, rfl, rfl, rfl⟩⟩⟩, ?_⟩
   exact tn_none (told_no HT (by omega)) S4.below
  refine W_skip (W_seq (W_draw rfl (by kernel_rfl) ?_))
  have S203 := S4.drew
  have HY := told_yes HT (by omega) (by omega) (by omega) (by omega) (by omega) (by omega)
  have HL1 := tn1_len HY.1
  have HL2 := tn2_len HY.1
  refine P2 ?_
  iterate 2 (refine Ar ?_; refine Pv ?_)
  refine Ar ?_
  refine T_sliceR (k + 1) ((k + 1) + n) (hv.mono hl2) rfl rfl rfl rfl rfl rfl rfl rfl rfl rfl (bound_of (by omega)) (bound_of (by omega)) (by omega) (by omega) fun a204 c205 hc206 r207 => ?_
  have r208 := Rd.cutB r207
  have r209 : Rd G1 (.slice a204 (((k + 1) + n) - (k + 1)) c205) (((k + 1) + n) - (k + 1)) 1 ((tn1 b).map bV) := by rw [told_cut1 HY] at r208; exact r208
  refine P3 ?_
  iterate 2 refine Ar ?_
  refine T_sliceR ((k + n) + 2) b.length (hv.mono hl2) rfl rfl rfl rfl rfl rfl rfl rfl rfl rfl (by first | rfl | exact congrArg some (by omega)) (bound_of (by omega)) (by omega) (by omega) fun a210 c211 hc212 r213 => ?_
  have r214 := Rd.cutB r213
  have r215 : Rd G1 (.slice a210 (b.length - ((k + n) + 2)) c211) (b.length - ((k + n) + 2)) 1 ((tn2 b).map bV) := by rw [told_cut2 HY] at r214; exact r214
  refine P3 (T_nil (W_ret ?_))
  refine ⟨_, ⟨_, _, rfl, rfl, ⟨_, _, rfl, rfl, ⟨_, _, rfl, rfl, rfl⟩⟩⟩, ?_⟩
  have q1 := HY.2.1
  have q2 := HY.2.2
  exact tn_some HY.1 (by omega) (by omega) ((r209).mono S203.fin) ((r215).mono S203.fin) S203.below
 iterate 2 refine No ?_
 refine Ys ?_
 refine P3 ?_
 iterate 2 (refine Ys ?_; refine Pv ?_)
 refine P2 ?_
 refine Td 69 (fun h216 => ?_) (fun h216 => ?_)
 ·iterate 7 refine No ?_
  refine P2 ?_
  iterate 8 refine No ?_
  refine Pv (T_nil ?_)
  refine W_cond_true rfl (Wr (P3 (T_nil (W_ret ?_))))
  refine ⟨_, ⟨_, _, rfl, rfl, ⟨_, _, rfl, rfl, ⟨_, _, rfl, rfl, rfl⟩⟩⟩, ?_⟩
  exact tn_none (told_no HT (by omega)) S4.below
 iterate 4 (refine Ys ?_; refine Pv ?_)
 iterate 2 (refine Ys ?_; refine Ar ?_)
 refine Ys ?_
 refine P3 ?_
 refine Td 78 (fun h217 => ?_) (fun h217 => ?_)
 ·iterate 8 refine No ?_
  refine Pv (T_nil ?_)
  refine W_cond_true rfl (Wr (P3 (T_nil (W_ret ?_))))
  refine ⟨_, ⟨_, _, rfl, rfl, ⟨_, _, rfl, rfl, ⟨_, _, rfl, rfl, rfl⟩⟩⟩, ?_⟩
  exact tn_none (told_no HT (by omega)) S4.below
 iterate 2 (refine Ys ?_; refine Pv ?_)
 refine Ys ?_
 refine Ar ?_
 refine Ys ?_
 refine Pv ?_
 refine Ys ?_
 refine Ar ?_
 refine Ys ?_
 refine Aj ((k + 1) + n) (hv.mono hl2) fun b218 o219 hc220 => ?_
 have hc221 := hc220 0 (bV (b.getD ((k + 1) + n) 0)) (at_b b ((k + 1) + n) (by omega))
 simp only [Nat.add_zero] at hc221
 refine Ys ?_
 refine Ad S4 hc221 ?_
 refine Ys ?_
 refine P2 (T_nil ?_)
 refine W_cond_not rfl (fun h222 => ?_) (fun h222 => ?_)
 ·refine Wr (P3 (T_nil (W_ret ?_)))
  refine ⟨_, ⟨_, _, rfl, rfl, ⟨_, _, rfl, rfl, ⟨_, _, rfl, rfl, rfl⟩⟩⟩, ?_⟩
  exact tn_none (told_no HT (by omega)) S4.below
 refine W_skip (W_seq (W_draw rfl (by kernel_rfl) ?_))
 have S223 := S4.drew
 have HY := told_yes HT (by omega) (by omega) (by omega) (by omega) (by omega) (by omega)
 have HL1 := tn1_len HY.1
 have HL2 := tn2_len HY.1
 refine P2 ?_
 iterate 2 (refine Ar ?_; refine Pv ?_)
 refine Ar ?_
 refine T_sliceR (k + 1) ((k + 1) + n) (hv.mono hl2) rfl rfl rfl rfl rfl rfl rfl rfl rfl rfl (bound_of (by omega)) (bound_of (by omega)) (by omega) (by omega) fun a224 c225 hc226 r227 => ?_
 have r228 := Rd.cutB r227
 have r229 : Rd G1 (.slice a224 (((k + 1) + n) - (k + 1)) c225) (((k + 1) + n) - (k + 1)) 1 ((tn1 b).map bV) := by rw [told_cut1 HY] at r228; exact r228
 refine P3 ?_
 iterate 2 refine Ar ?_
 refine T_sliceR ((k + n) + 2) b.length (hv.mono hl2) rfl rfl rfl rfl rfl rfl rfl rfl rfl rfl (by first | rfl | exact congrArg some (by omega)) (bound_of (by omega)) (by omega) (by omega) fun a230 c231 hc232 r233 => ?_
 have r234 := Rd.cutB r233
 have r235 : Rd G1 (.slice a230 (b.length - ((k + n) + 2)) c231) (b.length - ((k + n) + 2)) 1 ((tn2 b).map bV) := by rw [told_cut2 HY] at r234; exact r234
 refine P3 (T_nil (W_ret ?_))
 refine ⟨_, ⟨_, _, rfl, rfl, ⟨_, _, rfl, rfl, ⟨_, _, rfl, rfl, rfl⟩⟩⟩, ?_⟩
 have q1 := HY.2.1
 have q2 := HY.2.2
 exact tn_some HY.1 (by omega) (by omega) ((r229).mono S223.fin) ((r235).mono S223.fin) S223.below

end Go.Proofs.YtmjmjjkigblbgaaGreatDoor
