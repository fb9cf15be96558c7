/- The document's inverse. -/
import Derived.Test.YtmjmjjkigblbgaaDoorGfB
import Derived.Test.YtmjmjjkigblbgaaDoorFDoor
import Derived.Test.YtmjmjjkigblbgaaDoorAuDoor
set_option linter.unusedVariables false
set_option linter.unusedSimpArgs false
set_option maxRecDepth 8192
namespace Go.Proofs.YtmjmjjkigblbgaaDoor
open Go Go.F Go.RowKit
open Go.Au

theorem piv_lt {M : Mat} {c k p : Nat} (hq : pivF M c k (k - c) c = pivF M c k (k - p) p) (h : pivF M c k (k - c) c < k) (hp : p ≤ k) : p < k := by
 rcases Nat.lt_or_ge p k with h1 | h1
 ·exact h1
 ·rw [hq, show k - p = 0 by omega] at h
  exact h
set_option maxHeartbeats 4000000 in
theorem rinverse_ok {H : Hp} {w : World} (hH : H.le (hw w)) {V : List (List UInt8)} {aa0 : Option Addr} {nn0 cc0 : Nat} (hv : RdL H (.slice aa0 nn0 cc0) V) (k : Nat) (hk : 1 ≤ k ∧ k ≤ 16) (hV : V.length = k) (hVx : ∀ x ∈ V, x.length = k) (hp : ∀ c, c < k → pivF (gaussTo V k c) c k (k - c) c < k) :
  Calls Tryd.prog 126 #[.slice aa0 nn0 cc0] w fun e w' => ∃ a c, e = .returned (.tuple #[.slice a k c, .bool true]) ∧ RdL (F.ext H w.heap.size w') (.slice a k c) (invTo V k k) ∧ (∀ x ∈ invTo V k k, x.length = k) ∧ Below w.heap.size w w' := by
 obtain rfl : nn0 = V.length := hv.len
 have hul0 := unitM_len k k
 refine enter1 _ Tryd.func126 rfl Tryd.ntmps126 Tryd.results126 rfl ?_
 have S0 := St.start w hH
 refine Wr ?_
 iterate 2 refine Pv ?_
 refine Nr ?_
 iterate 2 refine Pv ?_
 refine T_re (v' := .int .i64 ((k : Nat) : Int)) (congrArg (Value.int .i64) (by rw [hV])) ?_
 refine Pv (Nr ?_)
 refine Pv (Nr ?_)
 refine Pv ?_
 refine Cs g_aumbry_aumbryref04_Unit ((runit_ok S0.le k (by omega)).mono ?_)
 rintro e w5 ⟨a1, c2, rfl, r3, hB4⟩
 obtain ⟨G7, eG9⟩ : ∃ G, G = F.ext H w.heap.size w5 := ⟨_, rfl⟩
 obtain ⟨hl8, S6⟩ := S0.ext hB4
 rw [← eG9] at hl8 S6 r3
 refine ⟨_, rfl, trivial, ?_⟩
 refine Pv (T_nil (W_seq (Wr ?_)))
 iterate 2 refine Pv ?_
 refine T_re (v' := .int .i64 ((k : Nat) : Int)) (congrArg (Value.int .i64) (by rw [hV])) ?_
 refine Pv (T_nil (W_block ?_))
 have S10 := S6.nilRow 26 1
 refine W_loop (fun M ρ w' => ∃ (i : Nat) (a13 : Option Addr) (c14 : Nat) (vs15 : List Value) (G11 : Hp), M = k - i ∧ i ≤ k ∧ ρ = [(0, .slice aa0 V.length cc0), (4, .int .i64 ((k : Nat) : Int)), (5, .slice a13 i c14), (6, .slice a1 k c2), (22, .int .i64 ((k : Nat) : Int)), (23, .int .i64 (i : Int))] ∧ G7.le G11 ∧ St w H G11 (.row 26 1 (.slice a13 i c14) i vs15 :: (mrows 5 vs15 (augTo V k i) ++ [])) w' ∧ i ≤ c14 ∧ vs15.length = i ∧ MShape i (2 * k) (augTo V k i))
  (k - 0) [(0, .slice aa0 V.length cc0), (4, .int .i64 ((k : Nat) : Int)), (5, .slice none 0 0), (6, .slice a1 k c2), (22, .int .i64 ((k : Nat) : Int)), (23, .int .i64 ((0 : Nat) : Int))] ⟨rfl, ciI, rfl, rfl, ciI, ciI, trivial⟩ ⟨0, none, 0, [], G7, rfl, (by omega), rfl, Hp.le.refl _, S10, (Nat.le_refl _), rfl, (MShape.nil _)⟩ ?_
 rintro M ρ w19 ⟨i, a13, c14, vs15, G11, rfl, hp21, rfl, hl12, S20, hc16, hv17, hs18⟩
 refine Wr (Pv (T_nil (W_seq ?_)))
 refine Aa (fun h22 => ?_) (fun h22 => ?_)
 ·refine W_skip (W_seq (W_block (Wr ?_)))
  iterate 2 refine Pv ?_
  refine T_nil (W_plan (planF Tryd.prog G11 [35]) rfl (by kernel_rfl) S20.le ?_)
  have S23 := S20.drew
  iterate 3 refine Pv ?_
  obtain ⟨hs27, r28, r29⟩ := (hv.mono (hl8.trans hl12))
  refine Ah i r28 fun b24 o25 hc26 => ?_
  obtain ⟨a32, c33, hc35, hv31, r34⟩ := r29.at i (by omega)
  have hc36 := hc26 0 (.slice a32 (V.getD i []).length c33) (by simpa using hv31)
  simp only [Nat.add_zero] at hc36
  refine Ac S23 hc36 ?_
  have hvl : (V.getD i []).length = k := by rw [List.getD_eq_getElem?_getD, List.getElem?_eq_getElem (by omega)]; exact hVx _ (List.getElem_mem _)
  have S37 := S23.nilRow 5 1
  refine Ag (hC := fun _ h => ((Hp.le.refl _)).trans h) (h1 := by exact one_bV _) (hn' := by first | rfl | (simp; done) | (simp; omega) | omega) (hx' := by simp) (h63 := by unfold maxLen; first | omega | (rw [List.length_append]; omega)) (hbytes := by show _ * 1 ≤ _; first | omega | (rw [List.length_append]; omega)) 0 ((V.getD i []).length) ((V.getD i []).map bV) S37 (r34.mono S37.le) fun a38 c39 w40 hc41 S42 => ?_
  iterate 2 refine Pv ?_
  obtain ⟨hs46, r47, r48⟩ := (r3.mono hl12)
  refine Ah i r47 fun b43 o44 hc45 => ?_
  obtain ⟨a51, c52, hc54, hv50, r53⟩ := r48.at i (by omega)
  have hc55 := hc45 0 (.slice a51 ((unitM k k).getD i []).length c52) (by simpa using hv50)
  simp only [Nat.add_zero] at hc55
  refine Aj hc55 ?_
  have hul : ((unitM k k).getD i []).length = k := by rw [List.getD_eq_getElem?_getD, List.getElem?_eq_getElem (by rw [unitM_len]; omega)]; exact unitM_el _ _ _ (List.getElem_mem _)
  refine Ag (hC := fun _ h => ((Hp.le.refl _)).trans h) (h1 := by exact one_bV _) (hn' := by first | rfl | (simp; done) | (simp; omega) | omega) (hx' := by simp) (h63 := by unfold maxLen; first | omega | (rw [List.length_append]; omega)) (hbytes := by show _ * 1 ≤ _; first | omega | (rw [List.length_append]; omega)) 0 (((V.getD i []) ++ ((unitM k k).getD i [])).length) (((V.getD i []) ++ ((unitM k k).getD i [])).map bV) S42 (r53.mono S42.le) fun a56 c57 w58 hc59 S60 => ?_
  refine Af (hone := by simp [Value.cells]; rfl) [.slice a56 (((V.getD i []) ++ ((unitM k k).getD i [])).length) c57] fun a61 w62 hB63 ho64 => ?_
  have S65 := S60.own hB63 ho64
  refine ⟨(((Hp.le.refl _)).trans S65.le), ?_⟩
  refine Ag (hC := fun _ h => ((Hp.le.refl _)).trans h) (h1 := by exact one_all rfl) (hn' := by omega) (hx' := by exact rfl) (hbytes := by show _ * 24 ≤ _; omega) 2 (i + 1) (vs15 ++ [(Value.slice a56 (((V.getD i []) ++ ((unitM k k).getD i [])).length) c57)]) S65 (S65.rd 0 rfl) fun a66 c67 w68 hc69 S70 => ?_
  have S71 := (S70.drop 0).matPush0 (uT := 5) (vs := vs15) (D := augTo V k i) (its := []) (v := (Value.slice a56 (((V.getD i []) ++ ((unitM k k).getD i [])).length) c57)) (l := ((V.getD i []) ++ ((unitM k k).getD i []))) (by rw [hv17, (hs18).1])
  have hv72 : (vs15 ++ [(Value.slice a56 (((V.getD i []) ++ ((unitM k k).getD i [])).length) c57)]).length = (i + 1) := by rw [List.length_append, hv17]; rfl
  have hs73 := MShape.push (l := ((V.getD i []) ++ ((unitM k k).getD i []))) hs18 (by rw [List.length_append]; omega)
  have hD74 : (augTo V k i ++ [((V.getD i []) ++ ((unitM k k).getD i []))]) = augTo V k (i + 1) := (augTo_snoc V k i)
  rw [hD74] at S71 hs73
  refine Pv (T_nil (W_region ?_))
  refine Ar ?_
  refine Pv (T_nil ?_)
  exact ⟨k - (i + 1), [(0, .slice aa0 V.length cc0), (4, .int .i64 ((k : Nat) : Int)), (5, .slice a66 (i + 1) c67), (6, .slice a1 k c2), (22, .int .i64 ((k : Nat) : Int)), (23, .int .i64 ((i + 1 : Nat) : Int))], by omega, ⟨rfl, ciI, rfl, rfl, ciI, ciI, trivial⟩, i + 1, a66, c67, (vs15 ++ [(Value.slice a56 (((V.getD i []) ++ ((unitM k k).getD i [])).length) c57)]), G11, rfl, (by omega), rfl, hl12, S71, hc69, hv72, hs73⟩
 refine W_exit (W_seq (Wr (Pv (T_nil (W_block ?_)))))
 obtain rfl : k = i := by omega
 refine W_loop (fun M ρ w' => ∃ (c : Nat) (a77 : Option Addr) (c78 : Nat) (vs79 : List Value) (G75 : Hp), M = k - c ∧ c ≤ k ∧ ρ = [(4, .int .i64 ((k : Nat) : Int)), (5, .slice a77 k c78), (8, .int .i64 (c : Int))] ∧ G11.le G75 ∧ St w H G75 (.row 26 1 (.slice a77 k c78) k vs79 :: (mrows 5 vs79 (gaussTo V k c) ++ [])) w' ∧ k ≤ c78 ∧ vs79.length = k ∧ MShape k (2 * k) (gaussTo V k c))
  (k - 0) [(4, .int .i64 ((k : Nat) : Int)), (5, .slice a13 k c14), (8, .int .i64 ((0 : Nat) : Int))] ⟨ciI, rfl, ciI, trivial⟩ ⟨0, a13, c14, vs15, G11, rfl, (by omega), rfl, Hp.le.refl _, S20, hc16, hv17, hs18⟩ ?_
 rintro M ρ w83 ⟨c, a77, c78, vs79, G75, rfl, hp85, rfl, hl76, S84, hc80, hv81, hs82⟩
 refine W_seq (Wr ?_)
 iterate 3 refine Pv ?_
 refine T_nil (Aa (fun h86 => ?_) (fun h86 => ?_))
 ·refine W_skip (W_seq (W_block (Wr ?_)))
  iterate 2 refine Pv ?_
  refine T_nil (W_seq (W_block ?_))
  obtain ⟨MA, hMA⟩ : ∃ M, gaussTo V k c = M := ⟨_, rfl⟩
  have hlt := hp c (by omega)
  rw [hMA] at hlt
  have S87 : St w H G75 (.row 26 1 (.slice a77 k c78) k vs79 :: (mrows 5 vs79 MA ++ [])) w83 := by rw [show MA = gaussTo V k c from hMA.symm]; exact S84
  have hs88 : MShape k (2 * k) MA := by rw [show MA = gaussTo V k c from hMA.symm]; exact hs82
  refine W_loop (fun M ρ w' => ∃ (p : Nat) (a91 : Option Addr) (c92 : Nat) (vs93 : List Value) (G89 : Hp), M = k - p ∧ c ≤ p ∧ p ≤ k ∧ pivF MA c k (k - c) c = pivF MA c k (k - p) p ∧ ρ = [(4, .int .i64 ((k : Nat) : Int)), (5, .slice a91 k c92), (8, .int .i64 (c : Int)), (9, .int .i64 (p : Int))] ∧ G75.le G89 ∧ St w H G89 (.row 26 1 (.slice a91 k c92) k vs93 :: (mrows 5 vs93 MA ++ [])) w' ∧ k ≤ c92 ∧ vs93.length = k ∧ MShape k (2 * k) MA)
   (k - c) [(4, .int .i64 ((k : Nat) : Int)), (5, .slice a77 k c78), (8, .int .i64 (c : Int)), (9, .int .i64 ((c : Nat) : Int))] ⟨ciI, rfl, ciI, ciI, trivial⟩ ⟨c, a77, c78, vs79, G75, rfl, (by omega), (by omega), (by rfl), rfl, Hp.le.refl _, S87, hc80, hv81, hs88⟩ ?_
  rintro M ρ w97 ⟨p, a91, c92, vs93, G89, rfl, hp99, hp100, hq, rfl, hl90, S98, hc94, hv95, hs96⟩
  refine W_seq (Wr ?_)
  iterate 4 refine Pv ?_
  have hpk : p < k := piv_lt hq hlt (by omega)
  refine T_bool 49 true rfl (decide_eq_true (by omega)) ?_
  iterate 2 (refine Ys ?_; refine Pv ?_)
  refine Ys ?_
  obtain ⟨g102, rfl⟩ := S98.rowAt 0 rfl (by omega)
  refine Ai (hm := by show 0 + Int.toNat _ * 1 = _; omega) (p * 1) ?_
  refine Ys ?_
  obtain ⟨g103, c104, hv105, hc106, hr107, hm108⟩ := S98.matCell hs96 hv95 (by omega) (show p < k by omega)
  refine T_load rfl rfl rfl rfl rfl rfl rfl (S98.rowCell 0 rfl (by rw [Nat.mul_one]; exact hv105)) ?_
  refine Ys ?_
  refine Pv ?_
  refine Ys ?_
  refine Ai (hm := by show 0 + Int.toNat _ * 1 = _; omega) (c * 1) ?_
  refine Ys ?_
  refine T_load rfl rfl rfl rfl rfl rfl rfl (S98.matAt hv105 hr107 hm108 (by omega)) ?_
  refine Ys ?_
  iterate 2 refine Pv ?_
  refine T_nil (Aa (fun h109 => ?_) (fun h109 => ?_))
  ·refine W_skip (W_block (W_region (Pv ?_)))
   refine Ar ?_
   refine Pv (T_nil ?_)
   have HZZ := h109
   exact ⟨k - (p + 1), [(4, .int .i64 ((k : Nat) : Int)), (5, .slice (some ⟨g102, 0, none⟩) k c92), (8, .int .i64 (c : Int)), (9, .int .i64 ((p + 1 : Nat) : Int))], by omega, ⟨ciI, rfl, ciI, ciI, trivial⟩, p + 1, (some ⟨g102, 0, none⟩), c92, vs93, G89, rfl, (by omega), (by omega), (by exact hq.trans (piv_yes (by omega) (u8_zero HZZ))), rfl, hl90, S98, hc94, hv95, hs96⟩
  refine W_exit ?_
  iterate 2 refine W_seq ?_
  have hpv : pivF MA c k (k - c) c = p := hq.trans (piv_end (fun _ => fun e => h109 (by rw [show (MA.getD p []).getD c 0 = 0 from e]; rfl)) (by omega))
  rw [hpv] at hlt
  refine W_region ?_
  iterate 3 refine Pv ?_
  refine T_nil (W_bool 63 false rfl (decide_eq_false (by omega)) ?_)
  refine W_cond_false rfl (W_skip (W_seq (W_draw rfl (by kernel_rfl) ?_)))
  have S110 := S98.drew
  iterate 6 refine Pv ?_
  refine Ai (hm := by show 0 + Int.toNat _ * 1 = _; omega) (p * 1) ?_
  obtain ⟨g111, c112, hv113, hc114, hr115, hm116⟩ := S110.matCell hs96 hv95 (by omega) (show p < k by omega)
  refine T_load rfl rfl rfl rfl rfl rfl rfl (S110.rowCell 0 rfl (by rw [Nat.mul_one]; exact hv113)) ?_
  iterate 2 refine Pv ?_
  refine Ai (hm := by show 0 + Int.toNat _ * 1 = _; omega) (c * 1) ?_
  obtain ⟨g117, c118, hv119, hc120, hr121, hm122⟩ := S110.matCell hs96 hv95 (by omega) (show c < k by omega)
  refine T_load rfl rfl rfl rfl rfl rfl rfl (S110.rowCell 0 rfl (by rw [Nat.mul_one]; exact hv119)) ?_
  refine Ai (hm := by show 0 + Int.toNat _ * 1 = _; omega) (c * 1) ?_
  refine T_storeRow 0 (vs93.set c (.slice (some ⟨g111, 0, none⟩) (2 * k) c112)) S110 (fun _ _ => trivial) rfl rfl rfl rfl rfl rfl rfl rfl rfl (by show _ + 1 ≤ _ * 1; omega) (one_all rfl) (set_cells (by first | omega | (simp only [List.length_set]; omega)) rfl) fun w123 S124 => ?_
  refine Ai (hm := by show 0 + Int.toNat _ * 1 = _; omega) (p * 1) ?_
  refine T_storeRow 0 ((vs93.set c (.slice (some ⟨g111, 0, none⟩) (2 * k) c112)).set p (.slice (some ⟨g117, 0, none⟩) (2 * k) c118)) S124 (fun _ _ => trivial) rfl rfl rfl rfl rfl rfl rfl rfl rfl (by show _ + 1 ≤ _ * 1; omega) (one_all rfl) (set_cells (by first | omega | (simp only [List.length_set]; omega)) rfl) fun w125 S126 => ?_
  have S127 := S126.matSwap0 (its := []) hs96 hv95 (show c < k by omega) (show p < k by omega) hv119 hv113
  have hv128 : ((vs93.set c (.slice (some ⟨g111, 0, none⟩) (2 * k) c112)).set p (.slice (some ⟨g117, 0, none⟩) (2 * k) c118)).length = k := by rw [List.length_set, List.length_set]; exact hv95
  have hs129 := hs96.swap (show c < k by omega) (show p < k by omega)
  have hD130 : ((MA.set c (MA.getD p [])).set p (MA.getD c [])) = swapR MA c p := rfl
  rw [hD130] at S127 hs129
  refine T_nil (W_seq ?_)
  obtain ⟨MB, hMB⟩ : ∃ M, swapR MA c p = M := ⟨_, rfl⟩
  have S131 : St w H G89 (.row 26 1 (.slice (some ⟨g102, 0, none⟩) k c92) k ((vs93.set c (.slice (some ⟨g111, 0, none⟩) (2 * k) c112)).set p (.slice (some ⟨g117, 0, none⟩) (2 * k) c118)) :: (mrows 5 ((vs93.set c (.slice (some ⟨g111, 0, none⟩) (2 * k) c112)).set p (.slice (some ⟨g117, 0, none⟩) (2 * k) c118)) MB ++ [])) w125 := by rw [show MB = swapR MA c p from hMB.symm]; exact S127
  have hs132 : MShape k (2 * k) MB := by rw [show MB = swapR MA c p from hMB.symm]; exact hs129
  refine W_region ?_
  iterate 2 refine Pv ?_
  refine Ai (hm := by show 0 + Int.toNat _ * 1 = _; omega) (c * 1) ?_
  obtain ⟨g133, c134, hv135, hc136, hr137, hm138⟩ := S131.matCell hs132 hv128 (by omega) (show c < k by omega)
  refine T_load rfl rfl rfl rfl rfl rfl rfl (S131.rowCell 0 rfl (by rw [Nat.mul_one]; exact hv135)) ?_
  refine Pv ?_
  refine Ai (hm := by show 0 + Int.toNat _ * 1 = _; omega) (c * 1) ?_
  refine T_load rfl rfl rfl rfl rfl rfl rfl (S131.matAt hv135 hr137 hm138 (by omega)) ?_
  obtain ⟨z, hz⟩ : ∃ z, ginv ((MB.getD c []).getD c 0) = z := ⟨_, rfl⟩
  refine Cs g_aumbry_aumbryref04_Inv ((rinv_ok S131.le ((MB.getD c []).getD c 0) ).mono ?_)
  rintro e w140 ⟨rfl, hB139⟩
  have S141 := S131.call hB139
  refine ⟨_, rfl, trivial, ?_⟩
  refine T_re (v' := bV (z)) (congrArg bV hz) (Pv (T_nil (W_seq (Wr ?_))))
  iterate 2 refine Pv ?_
  refine Ai (hm := by show 0 + Int.toNat _ * 1 = _; omega) (c * 1) ?_
  obtain ⟨g142, c143, hv144, hc145, hr146, hm147⟩ := S141.matCell hs132 hv128 (by omega) (show c < k by omega)
  refine T_load rfl rfl rfl rfl rfl rfl rfl (S141.rowCell 0 rfl (by rw [Nat.mul_one]; exact hv144)) ?_
  iterate 2 refine Pv ?_
  refine T_nil (W_block ?_)
  have S148 : St w H G89 (.row 26 1 (.slice (some ⟨g102, 0, none⟩) k c92) k ((vs93.set c (.slice (some ⟨g111, 0, none⟩) (2 * k) c112)).set p (.slice (some ⟨g117, 0, none⟩) (2 * k) c118)) :: (mrows 5 ((vs93.set c (.slice (some ⟨g111, 0, none⟩) (2 * k) c112)).set p (.slice (some ⟨g117, 0, none⟩) (2 * k) c118)) (MB.set c (scaleTo z (MB.getD c []) 0)) ++ [])) w140 := by rw [show (MB.set c (scaleTo z (MB.getD c []) 0)) = MB from (row_self (by rw [(hs132).1]; omega))]; exact S141
  have hs149 : MShape k (2 * k) (MB.set c (scaleTo z (MB.getD c []) 0)) := by rw [show (MB.set c (scaleTo z (MB.getD c []) 0)) = MB from (row_self (by rw [(hs132).1]; omega))]; exact hs132
  refine W_loop (fun M ρ w' => ∃ (j : Nat) (a152 : Option Addr) (c153 : Nat) (vs154 : List Value) (G150 : Hp), M = (2 * k) - j ∧ j ≤ 2 * k ∧ ρ = [(4, .int .i64 ((k : Nat) : Int)), (5, .slice a152 k c153), (8, .int .i64 (c : Int)), (10, bV (z)), (51, .int .i64 (p : Int)), (54, .int .i64 (c : Int)), (56, bV ((MA.getD p []).getD c 0)), (57, .bool (decide ((((MA.getD p []).getD c 0).toNat : Int) = (0 : Int)))), (90, .int .i64 (((2 * k) : Nat) : Int)), (91, .int .i64 (j : Int))] ∧ G89.le G150 ∧ St w H G150 (.row 26 1 (.slice a152 k c153) k vs154 :: (mrows 5 vs154 (MB.set c (scaleTo z (MB.getD c []) j)) ++ [])) w' ∧ k ≤ c153 ∧ vs154.length = k ∧ MShape k (2 * k) (MB.set c (scaleTo z (MB.getD c []) j)))
   ((2 * k) - 0) [(4, .int .i64 ((k : Nat) : Int)), (5, .slice (some ⟨g102, 0, none⟩) k c92), (8, .int .i64 (c : Int)), (10, bV (z)), (51, .int .i64 (p : Int)), (54, .int .i64 (c : Int)), (56, bV ((MA.getD p []).getD c 0)), (57, .bool (decide ((((MA.getD p []).getD c 0).toNat : Int) = (0 : Int)))), (90, .int .i64 (((2 * k) : Nat) : Int)), (91, .int .i64 ((0 : Nat) : Int))] ⟨ciI, rfl, ciI, rfl, ciI, ciI, rfl, rfl, ciI, ciI, trivial⟩ ⟨0, (some ⟨g102, 0, none⟩), c92, ((vs93.set c (.slice (some ⟨g111, 0, none⟩) (2 * k) c112)).set p (.slice (some ⟨g117, 0, none⟩) (2 * k) c118)), G89, rfl, (by omega), rfl, Hp.le.refl _, S148, hc94, hv128, hs149⟩ ?_
  rintro M ρ w158 ⟨j, a152, c153, vs154, G150, rfl, hp160, rfl, hl151, S159, hc155, hv156, hs157⟩
  refine Wr (Pv (T_nil (W_seq ?_)))
  refine Aa (fun h161 => ?_) (fun h161 => ?_)
  ·refine W_skip (W_seq (W_block (Wr ?_)))
   iterate 2 refine Pv ?_
   refine T_nil (W_plan (planF Tryd.prog G150 [107]) rfl (by kernel_rfl) S159.le ?_)
   have S162 := S159.drew
   iterate 2 refine Pv ?_
   obtain ⟨g163, rfl⟩ := S162.rowAt 0 rfl (by omega)
   refine Ai (hm := by show 0 + Int.toNat _ * 1 = _; omega) (c * 1) ?_
   obtain ⟨g164, c165, hv166, hc167, hr168, hm169⟩ := S162.matCell hs157 hv156 (by omega) (show c < k by omega)
   refine T_load rfl rfl rfl rfl rfl rfl rfl (S162.rowCell 0 rfl (by rw [Nat.mul_one]; exact hv166)) ?_
   iterate 3 refine Pv ?_
   refine Ai (hm := by show 0 + Int.toNat _ * 1 = _; omega) (c * 1) ?_
   obtain ⟨g170, c171, hv172, hc173, hr174, hm175⟩ := S162.matCell hs157 hv156 (by omega) (show c < k by omega)
   refine T_load rfl rfl rfl rfl rfl rfl rfl (S162.rowCell 0 rfl (by rw [Nat.mul_one]; exact hv172)) ?_
   refine Pv ?_
   refine Ai (hm := by show 0 + Int.toNat _ * 1 = _; omega) (j * 1) ?_
   refine T_load rfl rfl rfl rfl rfl rfl rfl (S162.matAt hv172 hr174 hm175 (by omega)) ?_
   refine Pv ?_
   refine T_callQ rfl rfl g_aumbry_aumbryref04_Mul (by kernel_rfl) rfl rfl rfl rfl (fun u => rmul_ok (H := fun _ => none) (w := u) (fun _ _ h => by cases h) (((MB.set c (scaleTo z (MB.getD c []) j)).getD c []).getD j 0) (z) ) ?_
   refine Ai (hm := by show 0 + Int.toNat _ * 1 = _; omega) (j * 1) ?_
   refine T_matStore (u := (gmul (((MB.set c (scaleTo z (MB.getD c []) j)).getD c []).getD j 0) (z))) c j S162 (fun _ h => ((Hp.le.refl _)).trans h) hv166 hr168 hm169 (by omega) rfl rfl rfl rfl rfl rfl rfl rfl rfl fun w176 S177 => ?_
   have hs178 := MShape.set (r := c) (l := ((MB.set c (scaleTo z (MB.getD c []) j)).getD c []).set j (gmul (((MB.set c (scaleTo z (MB.getD c []) j)).getD c []).getD j 0) (z))) hs157 (by rw [List.length_set]; exact hm169)
   have hD179 : ((MB.set c (scaleTo z (MB.getD c []) j)).set c (((MB.set c (scaleTo z (MB.getD c []) j)).getD c []).set j (gmul (((MB.set c (scaleTo z (MB.getD c []) j)).getD c []).getD j 0) (z)))) = (MB.set c (scaleTo z (MB.getD c []) (j + 1))) := (row_step (by have h := (hs157).1; rw [List.length_set] at h; omega) (fun l => l.set j (gmul (l.getD j 0) z)))
   rw [hD179] at S177 hs178
   refine T_nil (W_region (Ar ?_))
   refine Pv (T_nil ?_)
   exact ⟨(2 * k) - (j + 1), [(4, .int .i64 ((k : Nat) : Int)), (5, .slice (some ⟨g163, 0, none⟩) k c153), (8, .int .i64 (c : Int)), (10, bV (z)), (51, .int .i64 (p : Int)), (54, .int .i64 (c : Int)), (56, bV ((MA.getD p []).getD c 0)), (57, .bool (decide ((((MA.getD p []).getD c 0).toNat : Int) = (0 : Int)))), (90, .int .i64 (((2 * k) : Nat) : Int)), (91, .int .i64 ((j + 1 : Nat) : Int))], by omega, ⟨ciI, rfl, ciI, rfl, ciI, ciI, rfl, rfl, ciI, ciI, trivial⟩, j + 1, (some ⟨g163, 0, none⟩), c153, vs154, G150, rfl, (by omega), rfl, hl151, S177, hc155, hv156, hs178⟩
  refine W_exit (Wr (Pv (T_nil (W_block ?_))))
  obtain rfl : 2 * k = j := by omega
  obtain ⟨MC, hMC⟩ : ∃ M, (MB.set c (scaleTo z (MB.getD c []) (2 * k))) = M := ⟨_, rfl⟩
  have S180 : St w H G150 (.row 26 1 (.slice a152 k c153) k vs154 :: (mrows 5 vs154 (elimAll MC c (2 * k) 0) ++ [])) w158 := by rw [show (elimAll MC c (2 * k) 0) = (MB.set c (scaleTo z (MB.getD c []) (2 * k))) from hMC.symm]; exact S159
  have hs181 : MShape k (2 * k) (elimAll MC c (2 * k) 0) := by rw [show (elimAll MC c (2 * k) 0) = (MB.set c (scaleTo z (MB.getD c []) (2 * k))) from hMC.symm]; exact hs157
  refine W_loop (fun M ρ w' => ∃ (r : Nat) (a184 : Option Addr) (c185 : Nat) (vs186 : List Value) (G182 : Hp), M = k - r ∧ r ≤ k ∧ ρ = [(4, .int .i64 ((k : Nat) : Int)), (5, .slice a184 k c185), (8, .int .i64 (c : Int)), (12, .int .i64 (r : Int)), (51, .int .i64 (p : Int)), (54, .int .i64 (c : Int)), (56, bV ((MA.getD p []).getD c 0)), (57, .bool (decide ((((MA.getD p []).getD c 0).toNat : Int) = (0 : Int))))] ∧ G150.le G182 ∧ St w H G182 (.row 26 1 (.slice a184 k c185) k vs186 :: (mrows 5 vs186 (elimAll MC c (2 * k) r) ++ [])) w' ∧ k ≤ c185 ∧ vs186.length = k ∧ MShape k (2 * k) (elimAll MC c (2 * k) r))
   (k - 0) [(4, .int .i64 ((k : Nat) : Int)), (5, .slice a152 k c153), (8, .int .i64 (c : Int)), (12, .int .i64 ((0 : Nat) : Int)), (51, .int .i64 (p : Int)), (54, .int .i64 (c : Int)), (56, bV ((MA.getD p []).getD c 0)), (57, .bool (decide ((((MA.getD p []).getD c 0).toNat : Int) = (0 : Int))))] ⟨ciI, rfl, ciI, ciI, ciI, ciI, rfl, rfl, trivial⟩ ⟨0, a152, c153, vs154, G150, rfl, (by omega), rfl, Hp.le.refl _, S180, hc155, hv156, hs181⟩ ?_
  rintro M ρ w190 ⟨r, a184, c185, vs186, G182, rfl, hp192, rfl, hl183, S191, hc187, hv188, hs189⟩
  obtain ⟨ME, hME⟩ : ∃ M, (elimAll MC c (2 * k) r) = M := ⟨_, rfl⟩
  have S193 : St w H G182 (.row 26 1 (.slice a184 k c185) k vs186 :: (mrows 5 vs186 ME ++ [])) w190 := by rw [show ME = (elimAll MC c (2 * k) r) from hME.symm]; exact S191
  have hs194 : MShape k (2 * k) ME := by rw [show ME = (elimAll MC c (2 * k) r) from hME.symm]; exact hs189
  refine W_seq (Wr ?_)
  iterate 3 refine Pv ?_
  refine T_nil (Aa (fun h195 => ?_) (fun h195 => ?_))
  ·refine W_skip (W_seq (W_block (Wr ?_)))
   iterate 2 refine Pv ?_
   obtain ⟨g196, rfl⟩ := S193.rowAt 0 rfl (by omega)
   refine Ai (hm := by show 0 + Int.toNat _ * 1 = _; omega) (r * 1) ?_
   obtain ⟨g197, c198, hv199, hc200, hr201, hm202⟩ := S193.matCell hs194 hv188 (by omega) (show r < k by omega)
   refine T_load rfl rfl rfl rfl rfl rfl rfl (S193.rowCell 0 rfl (by rw [Nat.mul_one]; exact hv199)) ?_
   refine Pv ?_
   refine Ai (hm := by show 0 + Int.toNat _ * 1 = _; omega) (c * 1) ?_
   refine T_load rfl rfl rfl rfl rfl rfl rfl (S193.matAt hv199 hr201 hm202 (by omega)) ?_
   refine Pv (T_nil (W_seq (Wr ?_)))
   iterate 4 refine Pv ?_
   refine Tp 125 (fun h203' => ?_) (fun h203' => ?_)
   ·have h203 := of_decide_eq_true h203'
    iterate 2 refine No ?_
    refine Pv (T_nil ?_)
    refine W_cond_true rfl (W_exit (W_region (Pv ?_)))
    refine Ar ?_
    refine Pv (T_nil ?_)
    have S204 : St w H G182 (.row 26 1 (.slice (some ⟨g196, 0, none⟩) k c185) k vs186 :: (mrows 5 vs186 (elimAll MC c (2 * k) (r + 1)) ++ [])) w190 := by rw [show (elimAll MC c (2 * k) (r + 1)) = ME from ((elim_skip (by rw [hME]; first | (left; omega) | exact Or.inr (u8_zero h203))).trans hME)]; exact S193
    have hs205 : MShape k (2 * k) (elimAll MC c (2 * k) (r + 1)) := by rw [show (elimAll MC c (2 * k) (r + 1)) = ME from ((elim_skip (by rw [hME]; first | (left; omega) | exact Or.inr (u8_zero h203))).trans hME)]; exact hs194
    exact ⟨k - (r + 1), [(4, .int .i64 ((k : Nat) : Int)), (5, .slice (some ⟨g196, 0, none⟩) k c185), (8, .int .i64 (c : Int)), (12, .int .i64 ((r + 1 : Nat) : Int)), (51, .int .i64 (p : Int)), (54, .int .i64 (c : Int)), (56, bV ((MA.getD p []).getD c 0)), (57, .bool (decide ((((MA.getD p []).getD c 0).toNat : Int) = (0 : Int))))], by omega, ⟨ciI, rfl, ciI, ciI, ciI, ciI, rfl, rfl, trivial⟩, r + 1, (some ⟨g196, 0, none⟩), c185, vs186, G182, rfl, (by omega), rfl, hl183, S204, hc187, hv188, hs205⟩
   have h203 := of_decide_eq_false h203'
   iterate 2 (refine Ys ?_; refine Pv ?_)
   refine Pv (T_nil ?_)
   refine Aa (fun h206 => ?_) (fun h206 => ?_)
   ·refine W_exit (W_region (Pv ?_))
    refine Ar ?_
    refine Pv (T_nil ?_)
    have S207 : St w H G182 (.row 26 1 (.slice (some ⟨g196, 0, none⟩) k c185) k vs186 :: (mrows 5 vs186 (elimAll MC c (2 * k) (r + 1)) ++ [])) w190 := by rw [show (elimAll MC c (2 * k) (r + 1)) = ME from ((elim_skip (by rw [hME]; first | (left; omega) | exact Or.inr (u8_zero h206))).trans hME)]; exact S193
    have hs208 : MShape k (2 * k) (elimAll MC c (2 * k) (r + 1)) := by rw [show (elimAll MC c (2 * k) (r + 1)) = ME from ((elim_skip (by rw [hME]; first | (left; omega) | exact Or.inr (u8_zero h206))).trans hME)]; exact hs194
    exact ⟨k - (r + 1), [(4, .int .i64 ((k : Nat) : Int)), (5, .slice (some ⟨g196, 0, none⟩) k c185), (8, .int .i64 (c : Int)), (12, .int .i64 ((r + 1 : Nat) : Int)), (51, .int .i64 (p : Int)), (54, .int .i64 (c : Int)), (56, bV ((MA.getD p []).getD c 0)), (57, .bool (decide ((((MA.getD p []).getD c 0).toNat : Int) = (0 : Int))))], by omega, ⟨ciI, rfl, ciI, ciI, ciI, ciI, rfl, rfl, trivial⟩, r + 1, (some ⟨g196, 0, none⟩), c185, vs186, G182, rfl, (by omega), rfl, hl183, S207, hc187, hv188, hs208⟩
   refine W_skip (Wr ?_)
   iterate 2 refine Pv ?_
   refine Ai (hm := by show 0 + Int.toNat _ * 1 = _; omega) (r * 1) ?_
   obtain ⟨g209, c210, hv211, hc212, hr213, hm214⟩ := S193.matCell hs194 hv188 (by omega) (show r < k by omega)
   refine T_load rfl rfl rfl rfl rfl rfl rfl (S193.rowCell 0 rfl (by rw [Nat.mul_one]; exact hv211)) ?_
   iterate 2 refine Pv ?_
   refine T_nil (W_block ?_)
   have hnz := h206
   have S215 : St w H G182 (.row 26 1 (.slice (some ⟨g196, 0, none⟩) k c185) k vs186 :: (mrows 5 vs186 (ME.set r (elimTo ((ME.getD r []).getD c 0) (ME.getD c []) (ME.getD r []) 0)) ++ [])) w190 := by rw [show (ME.set r (elimTo ((ME.getD r []).getD c 0) (ME.getD c []) (ME.getD r []) 0)) = ME from (row_self (by rw [(hs194).1]; omega))]; exact S193
   have hs216 : MShape k (2 * k) (ME.set r (elimTo ((ME.getD r []).getD c 0) (ME.getD c []) (ME.getD r []) 0)) := by rw [show (ME.set r (elimTo ((ME.getD r []).getD c 0) (ME.getD c []) (ME.getD r []) 0)) = ME from (row_self (by rw [(hs194).1]; omega))]; exact hs194
   refine W_loop (fun M ρ w' => ∃ (j : Nat) (a219 : Option Addr) (c220 : Nat) (vs221 : List Value) (G217 : Hp), M = (2 * k) - j ∧ j ≤ 2 * k ∧ ρ = [(4, .int .i64 ((k : Nat) : Int)), (5, .slice a219 k c220), (8, .int .i64 (c : Int)), (12, .int .i64 (r : Int)), (13, bV ((ME.getD r []).getD c 0)), (51, .int .i64 (p : Int)), (54, .int .i64 (c : Int)), (56, bV ((MA.getD p []).getD c 0)), (57, .bool (decide ((((MA.getD p []).getD c 0).toNat : Int) = (0 : Int)))), (126, bV ((ME.getD r []).getD c 0)), (127, .bool (decide ((((ME.getD r []).getD c 0).toNat : Int) = (0 : Int)))), (133, .int .i64 (((2 * k) : Nat) : Int)), (134, .int .i64 (j : Int))] ∧ G182.le G217 ∧ St w H G217 (.row 26 1 (.slice a219 k c220) k vs221 :: (mrows 5 vs221 (ME.set r (elimTo ((ME.getD r []).getD c 0) (ME.getD c []) (ME.getD r []) j)) ++ [])) w' ∧ k ≤ c220 ∧ vs221.length = k ∧ MShape k (2 * k) (ME.set r (elimTo ((ME.getD r []).getD c 0) (ME.getD c []) (ME.getD r []) j)))
    ((2 * k) - 0) [(4, .int .i64 ((k : Nat) : Int)), (5, .slice (some ⟨g196, 0, none⟩) k c185), (8, .int .i64 (c : Int)), (12, .int .i64 (r : Int)), (13, bV ((ME.getD r []).getD c 0)), (51, .int .i64 (p : Int)), (54, .int .i64 (c : Int)), (56, bV ((MA.getD p []).getD c 0)), (57, .bool (decide ((((MA.getD p []).getD c 0).toNat : Int) = (0 : Int)))), (126, bV ((ME.getD r []).getD c 0)), (127, .bool (decide ((((ME.getD r []).getD c 0).toNat : Int) = (0 : Int)))), (133, .int .i64 (((2 * k) : Nat) : Int)), (134, .int .i64 ((0 : Nat) : Int))] ⟨ciI, rfl, ciI, ciI, rfl, ciI, ciI, rfl, rfl, rfl, rfl, ciI, ciI, trivial⟩ ⟨0, (some ⟨g196, 0, none⟩), c185, vs186, G182, rfl, (by omega), rfl, Hp.le.refl _, S215, hc187, hv188, hs216⟩ ?_
   rintro M ρ w225 ⟨j, a219, c220, vs221, G217, rfl, hp227, rfl, hl218, S226, hc222, hv223, hs224⟩
   refine Wr (Pv (T_nil (W_seq ?_)))
   refine Aa (fun h228 => ?_) (fun h228 => ?_)
   ·refine W_skip (W_seq (W_block (Wr ?_)))
    iterate 2 refine Pv ?_
    refine T_nil (W_plan (planF Tryd.prog G217 [152]) rfl (by kernel_rfl) S226.le ?_)
    have S229 := S226.drew
    iterate 2 refine Pv ?_
    obtain ⟨g230, rfl⟩ := S229.rowAt 0 rfl (by omega)
    refine Ai (hm := by show 0 + Int.toNat _ * 1 = _; omega) (r * 1) ?_
    obtain ⟨g231, c232, hv233, hc234, hr235, hm236⟩ := S229.matCell hs224 hv223 (by omega) (show r < k by omega)
    refine T_load rfl rfl rfl rfl rfl rfl rfl (S229.rowCell 0 rfl (by rw [Nat.mul_one]; exact hv233)) ?_
    refine Pv ?_
    refine Ai (hm := by show 0 + Int.toNat _ * 1 = _; omega) (j * 1) ?_
    refine T_load rfl rfl rfl rfl rfl rfl rfl (S229.matAt hv233 hr235 hm236 (by omega)) ?_
    iterate 3 refine Pv ?_
    refine Ai (hm := by show 0 + Int.toNat _ * 1 = _; omega) (c * 1) ?_
    obtain ⟨g237, c238, hv239, hc240, hr241, hm242⟩ := S229.matCell hs224 hv223 (by omega) (show c < k by omega)
    refine T_load rfl rfl rfl rfl rfl rfl rfl (S229.rowCell 0 rfl (by rw [Nat.mul_one]; exact hv239)) ?_
    refine Pv ?_
    refine Ai (hm := by show 0 + Int.toNat _ * 1 = _; omega) (j * 1) ?_
    refine T_load rfl rfl rfl rfl rfl rfl rfl (S229.matAt hv239 hr241 hm242 (by omega)) ?_
    refine T_re (v' := bV ((ME.getD c []).getD j 0)) (congrArg (fun z => bV (List.getD z j 0)) (row_other (by omega))) ?_
    refine T_callQ rfl rfl g_aumbry_aumbryref04_Mul (by kernel_rfl) rfl rfl rfl rfl (fun u => rmul_ok (H := fun _ => none) (w := u) (fun _ _ h => by cases h) ((ME.getD r []).getD c 0) ((ME.getD c []).getD j 0) ) ?_
    refine Pv ?_
    refine T_re (v' := bV (((ME.set r (elimTo ((ME.getD r []).getD c 0) (ME.getD c []) (ME.getD r []) j)).getD r []).getD j 0 ^^^ gmul ((ME.getD r []).getD c 0) ((ME.getD c []).getD j 0))) (congrArg (Value.int .u8) (xorU8 _ _)) (Ai (hm := by show 0 + Int.toNat _ * 1 = _; omega) (j * 1) ?_)
    refine T_matStore (u := (((ME.set r (elimTo ((ME.getD r []).getD c 0) (ME.getD c []) (ME.getD r []) j)).getD r []).getD j 0 ^^^ gmul ((ME.getD r []).getD c 0) ((ME.getD c []).getD j 0))) r j S229 (fun _ h => ((Hp.le.refl _)).trans h) hv233 hr235 hm236 (by omega) rfl rfl rfl rfl rfl rfl rfl rfl rfl fun w243 S244 => ?_
    have hs245 := MShape.set (r := r) (l := ((ME.set r (elimTo ((ME.getD r []).getD c 0) (ME.getD c []) (ME.getD r []) j)).getD r []).set j (((ME.set r (elimTo ((ME.getD r []).getD c 0) (ME.getD c []) (ME.getD r []) j)).getD r []).getD j 0 ^^^ gmul ((ME.getD r []).getD c 0) ((ME.getD c []).getD j 0))) hs224 (by rw [List.length_set]; exact hm236)
    have hD246 : ((ME.set r (elimTo ((ME.getD r []).getD c 0) (ME.getD c []) (ME.getD r []) j)).set r (((ME.set r (elimTo ((ME.getD r []).getD c 0) (ME.getD c []) (ME.getD r []) j)).getD r []).set j (((ME.set r (elimTo ((ME.getD r []).getD c 0) (ME.getD c []) (ME.getD r []) j)).getD r []).getD j 0 ^^^ gmul ((ME.getD r []).getD c 0) ((ME.getD c []).getD j 0)))) = (ME.set r (elimTo ((ME.getD r []).getD c 0) (ME.getD c []) (ME.getD r []) (j + 1))) := (row_step (by have h := (hs224).1; rw [List.length_set] at h; omega) (fun l => l.set j (l.getD j 0 ^^^ gmul ((ME.getD r []).getD c 0) ((ME.getD c []).getD j 0))))
    rw [hD246] at S244 hs245
    refine T_nil (W_region (Ar ?_))
    refine Pv (T_nil ?_)
    exact ⟨(2 * k) - (j + 1), [(4, .int .i64 ((k : Nat) : Int)), (5, .slice (some ⟨g230, 0, none⟩) k c220), (8, .int .i64 (c : Int)), (12, .int .i64 (r : Int)), (13, bV ((ME.getD r []).getD c 0)), (51, .int .i64 (p : Int)), (54, .int .i64 (c : Int)), (56, bV ((MA.getD p []).getD c 0)), (57, .bool (decide ((((MA.getD p []).getD c 0).toNat : Int) = (0 : Int)))), (126, bV ((ME.getD r []).getD c 0)), (127, .bool (decide ((((ME.getD r []).getD c 0).toNat : Int) = (0 : Int)))), (133, .int .i64 (((2 * k) : Nat) : Int)), (134, .int .i64 ((j + 1 : Nat) : Int))], by omega, ⟨ciI, rfl, ciI, ciI, rfl, ciI, ciI, rfl, rfl, rfl, rfl, ciI, ciI, trivial⟩, j + 1, (some ⟨g230, 0, none⟩), c220, vs221, G217, rfl, (by omega), rfl, hl218, S244, hc222, hv223, hs245⟩
   refine W_exit (W_region (Pv ?_))
   refine Ar ?_
   refine Pv (T_nil ?_)
   obtain rfl : 2 * k = j := by omega
   have S247 : St w H G217 (.row 26 1 (.slice a219 k c220) k vs221 :: (mrows 5 vs221 (elimAll MC c (2 * k) (r + 1)) ++ [])) w225 := by rw [show (elimAll MC c (2 * k) (r + 1)) = (ME.set r (elimTo ((ME.getD r []).getD c 0) (ME.getD c []) (ME.getD r []) (2 * k))) from (by have h := elim_do (M := MC) (c := c) (r := r) (w := 2 * k) (by omega) (by rw [hME]; exact fun e => hnz (by rw [show ((ME.getD r []).getD c 0) = 0 from e]; rfl)); rw [hME] at h; exact h)]; exact S226
   have hs248 : MShape k (2 * k) (elimAll MC c (2 * k) (r + 1)) := by rw [show (elimAll MC c (2 * k) (r + 1)) = (ME.set r (elimTo ((ME.getD r []).getD c 0) (ME.getD c []) (ME.getD r []) (2 * k))) from (by have h := elim_do (M := MC) (c := c) (r := r) (w := 2 * k) (by omega) (by rw [hME]; exact fun e => hnz (by rw [show ((ME.getD r []).getD c 0) = 0 from e]; rfl)); rw [hME] at h; exact h)]; exact hs224
   exact ⟨k - (r + 1), [(4, .int .i64 ((k : Nat) : Int)), (5, .slice a219 k c220), (8, .int .i64 (c : Int)), (12, .int .i64 ((r + 1 : Nat) : Int)), (51, .int .i64 (p : Int)), (54, .int .i64 (c : Int)), (56, bV ((MA.getD p []).getD c 0)), (57, .bool (decide ((((MA.getD p []).getD c 0).toNat : Int) = (0 : Int))))], by omega, ⟨ciI, rfl, ciI, ciI, ciI, ciI, rfl, rfl, trivial⟩, r + 1, a219, c220, vs221, G217, rfl, (by omega), rfl, (hl183.trans hl218), S247, hc222, hv223, hs248⟩
  refine W_exit (W_region (Pv ?_))
  refine Ar ?_
  refine Pv (T_nil ?_)
  obtain rfl : k = r := by omega
  have S249 : St w H G182 (.row 26 1 (.slice a184 k c185) k vs186 :: (mrows 5 vs186 (gaussTo V k (c + 1)) ++ [])) w190 := by rw [show gaussTo V k (c + 1) = ME from (by show sweep _ _ _ _ _ = _; rw [hMA, hpv]; unfold sweep ent; rw [hMB, hz, hMC]; exact hME)]; exact S193
  have hs250 : MShape k (2 * k) (gaussTo V k (c + 1)) := by rw [show gaussTo V k (c + 1) = ME from (by show sweep _ _ _ _ _ = _; rw [hMA, hpv]; unfold sweep ent; rw [hMB, hz, hMC]; exact hME)]; exact hs194
  exact ⟨k - (c + 1), [(4, .int .i64 ((k : Nat) : Int)), (5, .slice a184 k c185), (8, .int .i64 ((c + 1 : Nat) : Int))], by omega, ⟨ciI, rfl, ciI, trivial⟩, c + 1, a184, c185, vs186, G182, rfl, (by omega), rfl, (hl76.trans (hl90.trans (hl151.trans hl183))), S249, hc187, hv188, hs250⟩
 refine W_exit (W_seq ?_)
 obtain rfl : k = c := by omega
 have hgl := (hs82).1
 have hgr : ∀ q, q < k → ((gaussTo V k k).getD q []).length = 2 * k := fun q hq => ((hs82).row hq).2
 refine W_region (Pv (T_nil (W_seq (Wr ?_))))
 iterate 3 refine Pv ?_
 refine T_nil (W_block ?_)
 obtain ⟨G251, hl252, S253, r254⟩ := S84.matAll (its := []) hs82 hv81
 have S255 := S253.nilRow 26 1
 have rs256 := Rds.nil G251
 refine W_loop (fun M ρ w' => ∃ (q : Nat) (a259 : Option Addr) (c260 : Nat) (hs262 : List Value) (G257 : Hp), M = k - q ∧ q ≤ k ∧ ρ = [(4, .int .i64 ((k : Nat) : Int)), (5, .slice a77 k c78), (15, .slice a259 q c260), (157, .int .i64 ((k : Nat) : Int)), (158, .int .i64 (q : Int))] ∧ G251.le G257 ∧ St w H G257 [.row 26 1 (.slice a259 q c260) q hs262] w' ∧ Rds G257 hs262 (invTo V k q) ∧ q ≤ c260)
  (k - 0) [(4, .int .i64 ((k : Nat) : Int)), (5, .slice a77 k c78), (15, .slice none 0 0), (157, .int .i64 ((k : Nat) : Int)), (158, .int .i64 ((0 : Nat) : Int))] ⟨ciI, rfl, rfl, ciI, ciI, trivial⟩ ⟨0, none, 0, _, G251, rfl, (by omega), rfl, Hp.le.refl _, S255, rs256, (Nat.le_refl _)⟩ ?_
 rintro M ρ w264 ⟨q, a259, c260, hs262, G257, rfl, hp266, rfl, hl258, S265, rs263, hc261⟩
 refine Wr (Pv (T_nil (W_seq ?_)))
 refine Aa (fun h267 => ?_) (fun h267 => ?_)
 ·refine W_skip (W_seq (W_block (Wr ?_)))
  iterate 2 refine Pv ?_
  refine T_nil (W_region ?_)
  iterate 2 refine Pv ?_
  have hgq := hgr q (by omega)
  refine Pv ?_
  obtain ⟨hs271, r272, r273⟩ := (r254.mono hl258)
  refine Ah q r272 fun b268 o269 hc270 => ?_
  obtain ⟨a276, c277, hc279, hv275, r278⟩ := r273.at q (by omega)
  have hc280 := hc270 0 (.slice a276 ((gaussTo V k k).getD q []).length c277) (by simpa using hv275)
  simp only [Nat.add_zero] at hc280
  refine Ac S265 hc280 ?_
  refine Pv ?_
  refine T_sliceR k (((gaussTo V k k).getD q []).length) r278 rfl rfl rfl rfl rfl rfl rfl rfl rfl rfl (by first | rfl | exact congrArg some (by omega)) (bound_of (by omega)) (by omega) (by omega) fun a281 c282 hc283 r284 => ?_
  have r285 := Rd.cutB r284
  have rs290 : Rds G257 [.slice a281 (((gaussTo V k k).getD q []).length - k) c282] [((((gaussTo V k k).getD q []).drop k).take (((gaussTo V k k).getD q []).length - k))] := Rds.cons (Rd.canonB r285) (Rds.nil _)
  refine Af (hone := by simp [Value.cells]; rfl) [.slice a281 (((gaussTo V k k).getD q []).length - k) c282] fun a286 w287 hB288 ho289 => ?_
  have S291 := S265.own hB288 ho289
  refine ⟨trivial, ?_⟩
  have hD292 : (invTo V k q ++ [((((gaussTo V k k).getD q []).drop k).take (((gaussTo V k k).getD q []).length - k))]) = invTo V k (q + 1) := (by rw [List.take_of_length_le (by rw [List.length_drop]; omega)]; exact invTo_snoc V k q)
  refine T_appendS 1 (q + 1) _ S291 (fun _ _ => trivial) rfl rfl rfl rfl rfl rfl rfl rfl rfl rfl rfl rfl rfl rfl (S291.rd 0 rfl) rs290.one (by first | rfl | (simp; done) | (simp; omega) | omega) rfl (by unfold maxLen; first | omega | (rw [List.length_append]; omega)) (by show _ * 24 ≤ _; first | omega | (rw [List.length_append]; omega)) fun a293 c294 w295 hc296 S297 => ?_
  have rs298 := Rds.append rs263 rs290
  rw [hD292] at rs298
  refine Pv (T_nil (W_region ?_))
  refine Ar ?_
  refine Pv (T_nil ?_)
  have S299 := S297.drop 0
  exact ⟨k - (q + 1), [(4, .int .i64 ((k : Nat) : Int)), (5, .slice a77 k c78), (15, .slice a293 (q + 1) c294), (157, .int .i64 ((k : Nat) : Int)), (158, .int .i64 ((q + 1 : Nat) : Int))], by omega, ⟨ciI, rfl, rfl, ciI, ciI, trivial⟩, q + 1, a293, c294, _, G257, rfl, (by omega), rfl, hl258, S299, rs298, hc296⟩
 refine W_exit (Wr ?_)
 iterate 3 refine Pv ?_
 refine T_nil (W_ret ?_)
 refine ⟨_, ⟨_, _, rfl, rfl, ⟨_, _, rfl, rfl, rfl⟩⟩, ?_⟩
 obtain rfl : k = q := by omega
 obtain ⟨G301, hl302, S300, r303⟩ := S265.stillRow 0 rfl
 have r304 := RdL.mk r303 (rs263.mono hl302)
 have hix : ∀ x ∈ invTo V k k, x.length = k := fun x hx => by
  obtain ⟨q, hq, rfl⟩ := List.mem_map.1 hx
  have h2 := hgr q (List.mem_range.1 hq)
  rw [List.length_drop]; omega
 exact ⟨_, _, rfl, (r304).mono S300.fin, hix, S300.below⟩

end Go.Proofs.YtmjmjjkigblbgaaDoor
