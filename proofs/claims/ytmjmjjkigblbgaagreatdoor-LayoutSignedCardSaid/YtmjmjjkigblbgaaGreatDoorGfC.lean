/- The document's inverse. -/
import Derived.Test.YtmjmjjkigblbgaaGreatDoorGfB
import Derived.Test.YtmjmjjkigblbgaaGreatDoorFDoor
import Derived.Test.YtmjmjjkigblbgaaGreatDoorAuDoor
set_option linter.unusedVariables false
set_option linter.unusedSimpArgs false
set_option maxRecDepth 8192
namespace Go.Proofs.YtmjmjjkigblbgaaGreatDoor
open Go Go.F Go.RowKit

set_option maxHeartbeats 4000000 in
theorem rinverse_ok {H : Hp} {w : World} (hH : H.le (hw w)) {V : List (List UInt8)} {aa0 : Option Addr} {nn0 cc0 : Nat} (hv : RdL H (.slice aa0 nn0 cc0) V) (k : Nat) (hk : 1 ≤ k ∧ k ≤ 16) (hV : V.length = k) (hVx : ∀ x ∈ V, x.length = k) (hp : ∀ c, c < k → Go.Au.pivF (Go.Au.gaussTo V k c) c k (k - c) c < k) :
  Calls Tryz.prog 153 #[.slice aa0 nn0 cc0] w fun e w' => ∃ a c, e = .returned (.tuple #[.slice a k c, .bool true]) ∧ RdL (F.ext H w.heap.size w') (.slice a k c) (Go.Au.invTo V k k) ∧ (∀ x ∈ Go.Au.invTo V k k, x.length = k) ∧ Below w.heap.size w w' := by
 obtain rfl : nn0 = V.length := hv.len
 have hul0 := Go.Au.unitM_len k k
 refine enter1 _ Tryz.func153 rfl Tryz.ntmps153 Tryz.results153 rfl ?_
 have S0 := St.start w hH
 refine Wr ?_
 iterate 2 refine Pv ?_
 refine T_nil ?_
 refine Wr ?_
 iterate 2 refine Pv ?_
 refine T_re (v' := .int .i64 ((k : Nat) : Int)) (congrArg (Value.int .i64) (by rw [hV])) ?_
 refine Pv ?_
 refine T_nil ?_
 refine Wr ?_
 refine Pv ?_
 refine T_nil ?_
 refine Wr ?_
 refine Pv ?_
 refine Cs g_aumbry_aumbryref04_Unit ((runit_ok S0.le k (by omega)).mono ?_)
 rintro e w5 ⟨a1, c2, rfl, r3, hB4⟩
 obtain ⟨G7, eG9⟩ : ∃ G, G = F.ext H w.heap.size w5 := ⟨_, rfl⟩
 obtain ⟨hl8, S6⟩ := S0.ext hB4
 rw [← eG9] at hl8 S6 r3
 refine ⟨_, rfl, trivial, ?_⟩
 refine Pv ?_
 refine T_nil ?_
 refine W_seq ?_
 refine Wr ?_
 iterate 2 refine Pv ?_
 refine T_re (v' := .int .i64 ((k : Nat) : Int)) (congrArg (Value.int .i64) (by rw [hV])) ?_
 refine Pv ?_
 refine T_nil ?_
 refine W_block ?_
 have S10 := S6.nilRow 24 1
 refine W_loop (fun M ρ w' => ∃ (i : Nat) (a13 : Option Addr) (c14 : Nat) (vs15 : List Value) (G11 : Hp), M = k - i ∧ i ≤ k ∧ ρ = [(0, .slice aa0 V.length cc0), (4, .int .i64 ((k : Nat) : Int)), (5, .slice a13 i c14), (6, .slice a1 k c2), (22, .int .i64 ((k : Nat) : Int)), (23, .int .i64 (i : Int))] ∧ G7.le G11 ∧ St w H G11 (.row 24 1 (.slice a13 i c14) i vs15 :: (mrows 5 vs15 (Go.Au.augTo V k i) ++ [])) w' ∧ i ≤ c14 ∧ vs15.length = i ∧ MShape i (2 * k) (Go.Au.augTo V k i))
  (k - 0) [(0, .slice aa0 V.length cc0), (4, .int .i64 ((k : Nat) : Int)), (5, .slice none 0 0), (6, .slice a1 k c2), (22, .int .i64 ((k : Nat) : Int)), (23, .int .i64 ((0 : Nat) : Int))] ⟨rfl, (congrArg (fun z => some (Value.int .i64 z)) (by omega)), rfl, rfl, (congrArg (fun z => some (Value.int .i64 z)) (by omega)), (congrArg (fun z => some (Value.int .i64 z)) (by omega)), trivial⟩ ⟨0, none, 0, [], G7, rfl, (by omega), rfl, Hp.le.refl _, S10, (Nat.le_refl _), rfl, (MShape.nil _)⟩ ?_
 rintro M ρ w19 ⟨i, a13, c14, vs15, G11, rfl, hp21, rfl, hl12, S20, hc16, hv17, hs18⟩
 refine Wr ?_
 refine Pv ?_
 refine T_nil ?_
 refine W_seq ?_
 refine W_cond_dec rfl (fun h22 => ?_) (fun h22 => ?_)
 ·refine W_skip ?_
  refine W_seq ?_
  refine W_block ?_
  refine Wr ?_
  iterate 2 refine Pv ?_
  refine T_nil ?_
  refine W_plan (planF Tryz.prog G11 [35]) rfl (by kernel_rfl) S20.le ?_
  have S23 := S20.drew
  iterate 3 refine Pv ?_
  obtain ⟨hs27, r28, r29⟩ := (hv.mono (hl8.trans hl12))
  refine T_idxR i r28 rfl rfl rfl rfl rfl rfl rfl rfl rfl (by omega) (by omega) fun b24 o25 hc26 => ?_
  obtain ⟨a32, c33, hc35, hv31, r34⟩ := r29.at i (by omega)
  have hc36 := hc26 0 (.slice a32 (V.getD i []).length c33) (by simpa using hv31)
  simp only [Nat.add_zero] at hc36
  refine T_loadG S23 hc36 rfl rfl rfl rfl rfl rfl rfl ?_
  have hvl : (V.getD i []).length = k := by rw [List.getD_eq_getElem?_getD, List.getElem?_eq_getElem (by omega)]; exact hVx _ (List.getElem_mem _)
  have S37 := S23.nilRow 5 1
  refine T_appendS 0 ((V.getD i []).length) ((V.getD i []).map bV) S37 (fun _ h => ((Hp.le.refl _)).trans h) rfl rfl rfl rfl rfl rfl rfl rfl rfl rfl rfl rfl rfl rfl (r34.mono S37.le) (one_bV _) (by first | rfl | (simp; done) | (simp; omega) | omega) (by simp) (by unfold maxLen; first | omega | (rw [List.length_append]; omega)) (by show _ * 1 ≤ _; first | omega | (rw [List.length_append]; omega)) fun a38 c39 w40 hc41 S42 => ?_
  iterate 2 refine Pv ?_
  obtain ⟨hs46, r47, r48⟩ := (r3.mono hl12)
  refine T_idxR i r47 rfl rfl rfl rfl rfl rfl rfl rfl rfl (by omega) (by omega) fun b43 o44 hc45 => ?_
  obtain ⟨a51, c52, hc54, hv50, r53⟩ := r48.at i (by omega)
  have hc55 := hc45 0 (.slice a51 ((Go.Au.unitM k k).getD i []).length c52) (by simpa using hv50)
  simp only [Nat.add_zero] at hc55
  refine T_loadGP (fun _ h => h) hc55 rfl rfl rfl rfl rfl rfl rfl ?_
  have hul : ((Go.Au.unitM k k).getD i []).length = k := by rw [List.getD_eq_getElem?_getD, List.getElem?_eq_getElem (by rw [Go.Au.unitM_len]; omega)]; exact Go.Au.unitM_el _ _ _ (List.getElem_mem _)
  refine T_appendS 0 (((V.getD i []) ++ ((Go.Au.unitM k k).getD i [])).length) (((V.getD i []) ++ ((Go.Au.unitM k k).getD i [])).map bV) S42 (fun _ h => ((Hp.le.refl _)).trans h) rfl rfl rfl rfl rfl rfl rfl rfl rfl rfl rfl rfl rfl rfl (r53.mono S42.le) (one_bV _) (by first | rfl | (simp; done) | (simp; omega) | omega) (by simp) (by unfold maxLen; first | omega | (rw [List.length_append]; omega)) (by show _ * 1 ≤ _; first | omega | (rw [List.length_append]; omega)) fun a56 c57 w58 hc59 S60 => ?_
  refine T_litS [.slice a56 (((V.getD i []) ++ ((Go.Au.unitM k k).getD i [])).length) c57] rfl rfl rfl rfl rfl rfl rfl rfl rfl rfl rfl rfl rfl (by simp [Value.cells]; rfl) rfl fun a61 w62 hB63 ho64 => ?_
  have S65 := S60.own hB63 ho64
  refine ⟨(((Hp.le.refl _)).trans S65.le), ?_⟩
  refine T_appendS 2 (i + 1) (vs15 ++ [(Value.slice a56 (((V.getD i []) ++ ((Go.Au.unitM k k).getD i [])).length) c57)]) S65 (fun _ h => ((Hp.le.refl _)).trans h) rfl rfl rfl rfl rfl rfl rfl rfl rfl rfl rfl rfl rfl rfl (S65.rd 0 rfl) (one_all rfl) (by omega) rfl (by unfold maxLen; omega) (by show _ * 24 ≤ _; omega) fun a66 c67 w68 hc69 S70 => ?_
  have S71 := (S70.drop 0).matPush0 (uT := 5) (vs := vs15) (D := Go.Au.augTo V k i) (its := []) (v := (Value.slice a56 (((V.getD i []) ++ ((Go.Au.unitM k k).getD i [])).length) c57)) (l := ((V.getD i []) ++ ((Go.Au.unitM k k).getD i []))) (by rw [hv17, (hs18).1])
  have hv72 : (vs15 ++ [(Value.slice a56 (((V.getD i []) ++ ((Go.Au.unitM k k).getD i [])).length) c57)]).length = (i + 1) := by rw [List.length_append, hv17]; rfl
  have hs73 := MShape.push (l := ((V.getD i []) ++ ((Go.Au.unitM k k).getD i []))) hs18 (by rw [List.length_append]; omega)
  have hD74 : (Go.Au.augTo V k i ++ [((V.getD i []) ++ ((Go.Au.unitM k k).getD i []))]) = Go.Au.augTo V k (i + 1) := (Go.Au.augTo_snoc V k i)
  rw [hD74] at S71 hs73
  refine Pv ?_
  refine T_nil ?_
  refine W_region ?_
  refine Ar ?_
  refine Pv ?_
  refine T_nil ?_
  exact ⟨k - (i + 1), [(0, .slice aa0 V.length cc0), (4, .int .i64 ((k : Nat) : Int)), (5, .slice a66 (i + 1) c67), (6, .slice a1 k c2), (22, .int .i64 ((k : Nat) : Int)), (23, .int .i64 ((i + 1 : Nat) : Int))], by omega, ⟨rfl, (congrArg (fun z => some (Value.int .i64 z)) (by omega)), rfl, rfl, (congrArg (fun z => some (Value.int .i64 z)) (by omega)), (congrArg (fun z => some (Value.int .i64 z)) (by omega)), trivial⟩, i + 1, a66, c67, (vs15 ++ [(Value.slice a56 (((V.getD i []) ++ ((Go.Au.unitM k k).getD i [])).length) c57)]), G11, rfl, (by omega), rfl, hl12, S71, hc69, hv72, hs73⟩
 refine W_exit ?_
 refine W_seq ?_
 refine Wr ?_
 refine Pv ?_
 refine T_nil ?_
 refine W_block ?_
 obtain rfl : k = i := by omega
 refine W_loop (fun M ρ w' => ∃ (c : Nat) (a77 : Option Addr) (c78 : Nat) (vs79 : List Value) (G75 : Hp), M = k - c ∧ c ≤ k ∧ ρ = [(4, .int .i64 ((k : Nat) : Int)), (5, .slice a77 k c78), (8, .int .i64 (c : Int))] ∧ G11.le G75 ∧ St w H G75 (.row 24 1 (.slice a77 k c78) k vs79 :: (mrows 5 vs79 (Go.Au.gaussTo V k c) ++ [])) w' ∧ k ≤ c78 ∧ vs79.length = k ∧ MShape k (2 * k) (Go.Au.gaussTo V k c))
  (k - 0) [(4, .int .i64 ((k : Nat) : Int)), (5, .slice a13 k c14), (8, .int .i64 ((0 : Nat) : Int))] ⟨(congrArg (fun z => some (Value.int .i64 z)) (by omega)), rfl, (congrArg (fun z => some (Value.int .i64 z)) (by omega)), trivial⟩ ⟨0, a13, c14, vs15, G11, rfl, (by omega), rfl, Hp.le.refl _, S20, hc16, hv17, hs18⟩ ?_
 rintro M ρ w83 ⟨c, a77, c78, vs79, G75, rfl, hp85, rfl, hl76, S84, hc80, hv81, hs82⟩
 refine W_seq ?_
 refine Wr ?_
 iterate 3 refine Pv ?_
 refine T_nil ?_
 refine W_cond_dec rfl (fun h86 => ?_) (fun h86 => ?_)
 ·refine W_skip ?_
  refine W_seq ?_
  refine W_block ?_
  refine Wr ?_
  iterate 2 refine Pv ?_
  refine T_nil ?_
  refine W_seq ?_
  refine W_block ?_
  refine W_loop (fun M ρ w' => ∃ (p : Nat) (a89 : Option Addr) (c90 : Nat) (vs91 : List Value) (G87 : Hp), M = k - p ∧ c ≤ p ∧ p ≤ k ∧ Go.Au.pivF (Go.Au.gaussTo V k c) c k (k - c) c = Go.Au.pivF (Go.Au.gaussTo V k c) c k (k - p) p ∧ ρ = [(4, .int .i64 ((k : Nat) : Int)), (5, .slice a89 k c90), (8, .int .i64 (c : Int)), (9, .int .i64 (p : Int))] ∧ G75.le G87 ∧ St w H G87 (.row 24 1 (.slice a89 k c90) k vs91 :: (mrows 5 vs91 (Go.Au.gaussTo V k c) ++ [])) w' ∧ k ≤ c90 ∧ vs91.length = k ∧ MShape k (2 * k) (Go.Au.gaussTo V k c))
   (k - c) [(4, .int .i64 ((k : Nat) : Int)), (5, .slice a77 k c78), (8, .int .i64 (c : Int)), (9, .int .i64 ((c : Nat) : Int))] ⟨(congrArg (fun z => some (Value.int .i64 z)) (by omega)), rfl, (congrArg (fun z => some (Value.int .i64 z)) (by omega)), (congrArg (fun z => some (Value.int .i64 z)) (by omega)), trivial⟩ ⟨c, a77, c78, vs79, G75, rfl, (by omega), (by omega), (by rfl), rfl, Hp.le.refl _, S84, hc80, hv81, hs82⟩ ?_
  rintro M ρ w95 ⟨p, a89, c90, vs91, G87, rfl, hp97, hp98, hq, rfl, hl88, S96, hc92, hv93, hs94⟩
  refine W_seq ?_
  refine Wr ?_
  iterate 4 refine Pv ?_
  refine T_part (t := 49) rfl (List.cons_ne_nil _ _) (fun h100' => ?_) (fun h100' => ?_)
  ·have h100 := of_decide_eq_true h100'
   iterate 2 (refine Ys ?_; refine Pv ?_)
   refine Ys ?_
   obtain ⟨g101, rfl⟩ := S96.rowAt 0 rfl (by omega)
   refine T_idxm (p * 1) rfl rfl rfl rfl rfl rfl rfl rfl (by omega) (by show 0 + Int.toNat _ * 1 = _; omega) ?_
   refine Ys ?_
   obtain ⟨g102, c103, hv104, hc105, hr106, hm107⟩ := S96.matCell hs94 hv93 (by omega) (show p < k by omega)
   refine T_load rfl rfl rfl rfl rfl rfl rfl (S96.rowCell 0 rfl (by rw [Nat.mul_one]; exact hv104)) ?_
   refine Ys ?_
   refine Pv ?_
   refine Ys ?_
   refine T_idxm (c * 1) rfl rfl rfl rfl rfl rfl rfl rfl (by omega) (by show 0 + Int.toNat _ * 1 = _; omega) ?_
   refine Ys ?_
   refine T_load rfl rfl rfl rfl rfl rfl rfl (S96.matAt hv104 hr106 hm107 (by omega)) ?_
   refine Ys ?_
   iterate 2 refine Pv ?_
   refine T_nil ?_
   refine W_cond_dec rfl (fun h108 => ?_) (fun h108 => ?_)
   ·refine W_skip ?_
    refine W_block ?_
    refine W_region ?_
    refine Pv ?_
    refine Ar ?_
    refine Pv ?_
    refine T_nil ?_
    have HZZ := h108
    exact ⟨k - (p + 1), [(4, .int .i64 ((k : Nat) : Int)), (5, .slice (some ⟨g101, 0, none⟩) k c90), (8, .int .i64 (c : Int)), (9, .int .i64 ((p + 1 : Nat) : Int))], by omega, ⟨(congrArg (fun z => some (Value.int .i64 z)) (by omega)), rfl, (congrArg (fun z => some (Value.int .i64 z)) (by omega)), (congrArg (fun z => some (Value.int .i64 z)) (by omega)), trivial⟩, p + 1, (some ⟨g101, 0, none⟩), c90, vs91, G87, rfl, (by omega), (by omega), (by exact hq.trans (Go.Au.piv_yes (by omega) (Go.Au.u8_zero HZZ))), rfl, hl88, S96, hc92, hv93, hs94⟩
   refine W_exit ?_
   iterate 2 refine W_seq ?_
   have hpv : Go.Au.pivF (Go.Au.gaussTo V k c) c k (k - c) c = p := hq.trans (Go.Au.piv_end (fun h0 => by first | (exfalso; omega) | exact fun e => h108 (by rw [show ((Go.Au.gaussTo V k c).getD p []).getD c 0 = 0 from e]; rfl)) (by omega))
   have hlt := hp c (by omega)
   rw [hpv] at hlt
   refine W_region ?_
   iterate 3 refine Pv ?_
   refine T_nil ?_
   refine W_bool 63 false rfl (decide_eq_false (by omega)) ?_
   refine W_cond_false rfl ?_
   refine W_skip ?_
   refine W_seq ?_
   refine W_draw rfl (by kernel_rfl) ?_
   have S109 := S96.drew
   iterate 6 refine Pv ?_
   refine T_idxm (p * 1) rfl rfl rfl rfl rfl rfl rfl rfl (by omega) (by show 0 + Int.toNat _ * 1 = _; omega) ?_
   obtain ⟨g110, c111, hv112, hc113, hr114, hm115⟩ := S109.matCell hs94 hv93 (by omega) (show p < k by omega)
   refine T_load rfl rfl rfl rfl rfl rfl rfl (S109.rowCell 0 rfl (by rw [Nat.mul_one]; exact hv112)) ?_
   iterate 2 refine Pv ?_
   refine T_idxm (c * 1) rfl rfl rfl rfl rfl rfl rfl rfl (by omega) (by show 0 + Int.toNat _ * 1 = _; omega) ?_
   obtain ⟨g116, c117, hv118, hc119, hr120, hm121⟩ := S109.matCell hs94 hv93 (by omega) (show c < k by omega)
   refine T_load rfl rfl rfl rfl rfl rfl rfl (S109.rowCell 0 rfl (by rw [Nat.mul_one]; exact hv118)) ?_
   refine T_idxm (c * 1) rfl rfl rfl rfl rfl rfl rfl rfl (by omega) (by show 0 + Int.toNat _ * 1 = _; omega) ?_
   refine T_storeRow 0 (vs91.set c (.slice (some ⟨g110, 0, none⟩) (2 * k) c111)) S109 (fun _ _ => trivial) rfl rfl rfl rfl rfl rfl rfl rfl rfl (by show _ + 1 ≤ _ * 1; omega) (one_all rfl) (set_cells (by first | omega | (simp only [List.length_set]; omega)) rfl) fun w122 S123 => ?_
   refine T_idxm (p * 1) rfl rfl rfl rfl rfl rfl rfl rfl (by omega) (by show 0 + Int.toNat _ * 1 = _; omega) ?_
   refine T_storeRow 0 ((vs91.set c (.slice (some ⟨g110, 0, none⟩) (2 * k) c111)).set p (.slice (some ⟨g116, 0, none⟩) (2 * k) c117)) S123 (fun _ _ => trivial) rfl rfl rfl rfl rfl rfl rfl rfl rfl (by show _ + 1 ≤ _ * 1; omega) (one_all rfl) (set_cells (by first | omega | (simp only [List.length_set]; omega)) rfl) fun w124 S125 => ?_
   have S126 := S125.matSwap0 (its := []) hs94 hv93 (show c < k by omega) (show p < k by omega) hv118 hv112
   have hv127 : ((vs91.set c (.slice (some ⟨g110, 0, none⟩) (2 * k) c111)).set p (.slice (some ⟨g116, 0, none⟩) (2 * k) c117)).length = k := by rw [List.length_set, List.length_set]; exact hv93
   have hs128 := hs94.swap (show c < k by omega) (show p < k by omega)
   have hD129 : (((Go.Au.gaussTo V k c).set c ((Go.Au.gaussTo V k c).getD p [])).set p ((Go.Au.gaussTo V k c).getD c [])) = Go.Au.swapR (Go.Au.gaussTo V k c) c p := rfl
   rw [hD129] at S126 hs128
   refine T_nil ?_
   refine Wr ?_
   iterate 2 refine Pv ?_
   refine T_idxm (c * 1) rfl rfl rfl rfl rfl rfl rfl rfl (by omega) (by show 0 + Int.toNat _ * 1 = _; omega) ?_
   obtain ⟨g130, c131, hv132, hc133, hr134, hm135⟩ := S126.matCell hs128 hv127 (by omega) (show c < k by omega)
   refine T_load rfl rfl rfl rfl rfl rfl rfl (S126.rowCell 0 rfl (by rw [Nat.mul_one]; exact hv132)) ?_
   refine Pv ?_
   refine T_idxm (c * 1) rfl rfl rfl rfl rfl rfl rfl rfl (by omega) (by show 0 + Int.toNat _ * 1 = _; omega) ?_
   refine T_load rfl rfl rfl rfl rfl rfl rfl (S126.matAt hv132 hr134 hm135 (by omega)) ?_
   refine Cs g_aumbry_aumbryref04_Inv ((rinv_ok S126.le (((Go.Au.swapR (Go.Au.gaussTo V k c) c p).getD c []).getD c 0) ).mono ?_)
   rintro e w137 ⟨rfl, hB136⟩
   have S138 := S126.call hB136
   refine ⟨_, rfl, trivial, ?_⟩
   refine Pv ?_
   refine T_nil ?_
   refine W_seq ?_
   refine Wr ?_
   iterate 2 refine Pv ?_
   refine T_idxm (c * 1) rfl rfl rfl rfl rfl rfl rfl rfl (by omega) (by show 0 + Int.toNat _ * 1 = _; omega) ?_
   obtain ⟨g139, c140, hv141, hc142, hr143, hm144⟩ := S138.matCell hs128 hv127 (by omega) (show c < k by omega)
   refine T_load rfl rfl rfl rfl rfl rfl rfl (S138.rowCell 0 rfl (by rw [Nat.mul_one]; exact hv141)) ?_
   iterate 2 refine Pv ?_
   refine T_nil ?_
   refine W_block ?_
   have S145 : St w H G87 (.row 24 1 (.slice (some ⟨g101, 0, none⟩) k c90) k ((vs91.set c (.slice (some ⟨g110, 0, none⟩) (2 * k) c111)).set p (.slice (some ⟨g116, 0, none⟩) (2 * k) c117)) :: (mrows 5 ((vs91.set c (.slice (some ⟨g110, 0, none⟩) (2 * k) c111)).set p (.slice (some ⟨g116, 0, none⟩) (2 * k) c117)) ((Go.Au.swapR (Go.Au.gaussTo V k c) c p).set c (Go.Au.scaleTo (Go.Au.ginv (((Go.Au.swapR (Go.Au.gaussTo V k c) c p).getD c []).getD c 0)) ((Go.Au.swapR (Go.Au.gaussTo V k c) c p).getD c []) 0)) ++ [])) w137 := by rw [show ((Go.Au.swapR (Go.Au.gaussTo V k c) c p).set c (Go.Au.scaleTo (Go.Au.ginv (((Go.Au.swapR (Go.Au.gaussTo V k c) c p).getD c []).getD c 0)) ((Go.Au.swapR (Go.Au.gaussTo V k c) c p).getD c []) 0)) = Go.Au.swapR (Go.Au.gaussTo V k c) c p from (Go.Au.row_self (by rw [(hs128).1]; omega))]; exact S138
   have hs146 : MShape k (2 * k) ((Go.Au.swapR (Go.Au.gaussTo V k c) c p).set c (Go.Au.scaleTo (Go.Au.ginv (((Go.Au.swapR (Go.Au.gaussTo V k c) c p).getD c []).getD c 0)) ((Go.Au.swapR (Go.Au.gaussTo V k c) c p).getD c []) 0)) := by rw [show ((Go.Au.swapR (Go.Au.gaussTo V k c) c p).set c (Go.Au.scaleTo (Go.Au.ginv (((Go.Au.swapR (Go.Au.gaussTo V k c) c p).getD c []).getD c 0)) ((Go.Au.swapR (Go.Au.gaussTo V k c) c p).getD c []) 0)) = Go.Au.swapR (Go.Au.gaussTo V k c) c p from (Go.Au.row_self (by rw [(hs128).1]; omega))]; exact hs128
   refine W_loop (fun M ρ w' => ∃ (j : Nat) (a149 : Option Addr) (c150 : Nat) (vs151 : List Value) (G147 : Hp), M = (2 * k) - j ∧ j ≤ 2 * k ∧ ρ = [(4, .int .i64 ((k : Nat) : Int)), (5, .slice a149 k c150), (8, .int .i64 (c : Int)), (10, bV (Go.Au.ginv (((Go.Au.swapR (Go.Au.gaussTo V k c) c p).getD c []).getD c 0))), (51, .int .i64 (p : Int)), (54, .int .i64 (c : Int)), (56, bV (((Go.Au.gaussTo V k c).getD p []).getD c 0)), (57, .bool (decide (((((Go.Au.gaussTo V k c).getD p []).getD c 0).toNat : Int) = (0 : Int)))), (90, .int .i64 (((2 * k) : Nat) : Int)), (91, .int .i64 (j : Int))] ∧ G87.le G147 ∧ St w H G147 (.row 24 1 (.slice a149 k c150) k vs151 :: (mrows 5 vs151 ((Go.Au.swapR (Go.Au.gaussTo V k c) c p).set c (Go.Au.scaleTo (Go.Au.ginv (((Go.Au.swapR (Go.Au.gaussTo V k c) c p).getD c []).getD c 0)) ((Go.Au.swapR (Go.Au.gaussTo V k c) c p).getD c []) j)) ++ [])) w' ∧ k ≤ c150 ∧ vs151.length = k ∧ MShape k (2 * k) ((Go.Au.swapR (Go.Au.gaussTo V k c) c p).set c (Go.Au.scaleTo (Go.Au.ginv (((Go.Au.swapR (Go.Au.gaussTo V k c) c p).getD c []).getD c 0)) ((Go.Au.swapR (Go.Au.gaussTo V k c) c p).getD c []) j)))
    ((2 * k) - 0) [(4, .int .i64 ((k : Nat) : Int)), (5, .slice (some ⟨g101, 0, none⟩) k c90), (8, .int .i64 (c : Int)), (10, bV (Go.Au.ginv (((Go.Au.swapR (Go.Au.gaussTo V k c) c p).getD c []).getD c 0))), (51, .int .i64 (p : Int)), (54, .int .i64 (c : Int)), (56, bV (((Go.Au.gaussTo V k c).getD p []).getD c 0)), (57, .bool (decide (((((Go.Au.gaussTo V k c).getD p []).getD c 0).toNat : Int) = (0 : Int)))), (90, .int .i64 (((2 * k) : Nat) : Int)), (91, .int .i64 ((0 : Nat) : Int))] ⟨(congrArg (fun z => some (Value.int .i64 z)) (by omega)), rfl, (congrArg (fun z => some (Value.int .i64 z)) (by omega)), rfl, (congrArg (fun z => some (Value.int .i64 z)) (by omega)), (congrArg (fun z => some (Value.int .i64 z)) (by omega)), rfl, rfl, (congrArg (fun z => some (Value.int .i64 z)) (by omega)), (congrArg (fun z => some (Value.int .i64 z)) (by omega)), trivial⟩ ⟨0, (some ⟨g101, 0, none⟩), c90, ((vs91.set c (.slice (some ⟨g110, 0, none⟩) (2 * k) c111)).set p (.slice (some ⟨g116, 0, none⟩) (2 * k) c117)), G87, rfl, (by omega), rfl, Hp.le.refl _, S145, hc92, hv127, hs146⟩ ?_
   rintro M ρ w155 ⟨j, a149, c150, vs151, G147, rfl, hp157, rfl, hl148, S156, hc152, hv153, hs154⟩
   refine Wr ?_
   refine Pv ?_
   refine T_nil ?_
   refine W_seq ?_
   refine W_cond_dec rfl (fun h158 => ?_) (fun h158 => ?_)
   ·refine W_skip ?_
    refine W_seq ?_
    refine W_block ?_
    refine Wr ?_
    iterate 2 refine Pv ?_
    refine T_nil ?_
    refine W_plan (planF Tryz.prog G147 [107]) rfl (by kernel_rfl) S156.le ?_
    have S159 := S156.drew
    iterate 2 refine Pv ?_
    obtain ⟨g160, rfl⟩ := S159.rowAt 0 rfl (by omega)
    refine T_idxm (c * 1) rfl rfl rfl rfl rfl rfl rfl rfl (by omega) (by show 0 + Int.toNat _ * 1 = _; omega) ?_
    obtain ⟨g161, c162, hv163, hc164, hr165, hm166⟩ := S159.matCell hs154 hv153 (by omega) (show c < k by omega)
    refine T_load rfl rfl rfl rfl rfl rfl rfl (S159.rowCell 0 rfl (by rw [Nat.mul_one]; exact hv163)) ?_
    iterate 3 refine Pv ?_
    refine T_idxm (c * 1) rfl rfl rfl rfl rfl rfl rfl rfl (by omega) (by show 0 + Int.toNat _ * 1 = _; omega) ?_
    obtain ⟨g167, c168, hv169, hc170, hr171, hm172⟩ := S159.matCell hs154 hv153 (by omega) (show c < k by omega)
    refine T_load rfl rfl rfl rfl rfl rfl rfl (S159.rowCell 0 rfl (by rw [Nat.mul_one]; exact hv169)) ?_
    refine Pv ?_
    refine T_idxm (j * 1) rfl rfl rfl rfl rfl rfl rfl rfl (by omega) (by show 0 + Int.toNat _ * 1 = _; omega) ?_
    refine T_load rfl rfl rfl rfl rfl rfl rfl (S159.matAt hv169 hr171 hm172 (by omega)) ?_
    refine Pv ?_
    refine T_callQ rfl rfl g_aumbry_aumbryref04_Mul (by kernel_rfl) rfl rfl rfl rfl (fun u => rmul_ok (H := fun _ => none) (w := u) (fun _ _ h => by cases h) ((((Go.Au.swapR (Go.Au.gaussTo V k c) c p).set c (Go.Au.scaleTo (Go.Au.ginv (((Go.Au.swapR (Go.Au.gaussTo V k c) c p).getD c []).getD c 0)) ((Go.Au.swapR (Go.Au.gaussTo V k c) c p).getD c []) j)).getD c []).getD j 0) (Go.Au.ginv (((Go.Au.swapR (Go.Au.gaussTo V k c) c p).getD c []).getD c 0)) ) ?_
    refine T_idxm (j * 1) rfl rfl rfl rfl rfl rfl rfl rfl (by omega) (by show 0 + Int.toNat _ * 1 = _; omega) ?_
    refine T_matStore (u := (Go.Au.gmul ((((Go.Au.swapR (Go.Au.gaussTo V k c) c p).set c (Go.Au.scaleTo (Go.Au.ginv (((Go.Au.swapR (Go.Au.gaussTo V k c) c p).getD c []).getD c 0)) ((Go.Au.swapR (Go.Au.gaussTo V k c) c p).getD c []) j)).getD c []).getD j 0) (Go.Au.ginv (((Go.Au.swapR (Go.Au.gaussTo V k c) c p).getD c []).getD c 0)))) c j S159 (fun _ h => ((Hp.le.refl _)).trans h) hv163 hr165 hm166 (by omega) rfl rfl rfl rfl rfl rfl rfl rfl rfl fun w173 S174 => ?_
    have hs175 := MShape.set (r := c) (l := (((Go.Au.swapR (Go.Au.gaussTo V k c) c p).set c (Go.Au.scaleTo (Go.Au.ginv (((Go.Au.swapR (Go.Au.gaussTo V k c) c p).getD c []).getD c 0)) ((Go.Au.swapR (Go.Au.gaussTo V k c) c p).getD c []) j)).getD c []).set j (Go.Au.gmul ((((Go.Au.swapR (Go.Au.gaussTo V k c) c p).set c (Go.Au.scaleTo (Go.Au.ginv (((Go.Au.swapR (Go.Au.gaussTo V k c) c p).getD c []).getD c 0)) ((Go.Au.swapR (Go.Au.gaussTo V k c) c p).getD c []) j)).getD c []).getD j 0) (Go.Au.ginv (((Go.Au.swapR (Go.Au.gaussTo V k c) c p).getD c []).getD c 0)))) hs154 (by rw [List.length_set]; exact hm166)
    have hD176 : (((Go.Au.swapR (Go.Au.gaussTo V k c) c p).set c (Go.Au.scaleTo (Go.Au.ginv (((Go.Au.swapR (Go.Au.gaussTo V k c) c p).getD c []).getD c 0)) ((Go.Au.swapR (Go.Au.gaussTo V k c) c p).getD c []) j)).set c ((((Go.Au.swapR (Go.Au.gaussTo V k c) c p).set c (Go.Au.scaleTo (Go.Au.ginv (((Go.Au.swapR (Go.Au.gaussTo V k c) c p).getD c []).getD c 0)) ((Go.Au.swapR (Go.Au.gaussTo V k c) c p).getD c []) j)).getD c []).set j (Go.Au.gmul ((((Go.Au.swapR (Go.Au.gaussTo V k c) c p).set c (Go.Au.scaleTo (Go.Au.ginv (((Go.Au.swapR (Go.Au.gaussTo V k c) c p).getD c []).getD c 0)) ((Go.Au.swapR (Go.Au.gaussTo V k c) c p).getD c []) j)).getD c []).getD j 0) (Go.Au.ginv (((Go.Au.swapR (Go.Au.gaussTo V k c) c p).getD c []).getD c 0))))) = ((Go.Au.swapR (Go.Au.gaussTo V k c) c p).set c (Go.Au.scaleTo (Go.Au.ginv (((Go.Au.swapR (Go.Au.gaussTo V k c) c p).getD c []).getD c 0)) ((Go.Au.swapR (Go.Au.gaussTo V k c) c p).getD c []) (j + 1))) := (Go.Au.row_step (by have h := (hs154).1; rw [List.length_set] at h; omega) (fun l => l.set j (Go.Au.gmul (l.getD j 0) (Go.Au.ginv (((Go.Au.swapR (Go.Au.gaussTo V k c) c p).getD c []).getD c 0)))))
    rw [hD176] at S174 hs175
    refine T_nil ?_
    refine W_region ?_
    refine Ar ?_
    refine Pv ?_
    refine T_nil ?_
    exact ⟨(2 * k) - (j + 1), [(4, .int .i64 ((k : Nat) : Int)), (5, .slice (some ⟨g160, 0, none⟩) k c150), (8, .int .i64 (c : Int)), (10, bV (Go.Au.ginv (((Go.Au.swapR (Go.Au.gaussTo V k c) c p).getD c []).getD c 0))), (51, .int .i64 (p : Int)), (54, .int .i64 (c : Int)), (56, bV (((Go.Au.gaussTo V k c).getD p []).getD c 0)), (57, .bool (decide (((((Go.Au.gaussTo V k c).getD p []).getD c 0).toNat : Int) = (0 : Int)))), (90, .int .i64 (((2 * k) : Nat) : Int)), (91, .int .i64 ((j + 1 : Nat) : Int))], by omega, ⟨(congrArg (fun z => some (Value.int .i64 z)) (by omega)), rfl, (congrArg (fun z => some (Value.int .i64 z)) (by omega)), rfl, (congrArg (fun z => some (Value.int .i64 z)) (by omega)), (congrArg (fun z => some (Value.int .i64 z)) (by omega)), rfl, rfl, (congrArg (fun z => some (Value.int .i64 z)) (by omega)), (congrArg (fun z => some (Value.int .i64 z)) (by omega)), trivial⟩, j + 1, (some ⟨g160, 0, none⟩), c150, vs151, G147, rfl, (by omega), rfl, hl148, S174, hc152, hv153, hs175⟩
   refine W_exit ?_
   refine Wr ?_
   refine Pv ?_
   refine T_nil ?_
   refine W_block ?_
   obtain rfl : 2 * k = j := by omega
   have S177 : St w H G147 (.row 24 1 (.slice a149 k c150) k vs151 :: (mrows 5 vs151 (Go.Au.elimAll ((Go.Au.swapR (Go.Au.gaussTo V k c) c p).set c (Go.Au.scaleTo (Go.Au.ginv (((Go.Au.swapR (Go.Au.gaussTo V k c) c p).getD c []).getD c 0)) ((Go.Au.swapR (Go.Au.gaussTo V k c) c p).getD c []) (2 * k))) c (2 * k) 0) ++ [])) w155 := by rw [show (Go.Au.elimAll ((Go.Au.swapR (Go.Au.gaussTo V k c) c p).set c (Go.Au.scaleTo (Go.Au.ginv (((Go.Au.swapR (Go.Au.gaussTo V k c) c p).getD c []).getD c 0)) ((Go.Au.swapR (Go.Au.gaussTo V k c) c p).getD c []) (2 * k))) c (2 * k) 0) = ((Go.Au.swapR (Go.Au.gaussTo V k c) c p).set c (Go.Au.scaleTo (Go.Au.ginv (((Go.Au.swapR (Go.Au.gaussTo V k c) c p).getD c []).getD c 0)) ((Go.Au.swapR (Go.Au.gaussTo V k c) c p).getD c []) (2 * k))) from rfl]; exact S156
   have hs178 : MShape k (2 * k) (Go.Au.elimAll ((Go.Au.swapR (Go.Au.gaussTo V k c) c p).set c (Go.Au.scaleTo (Go.Au.ginv (((Go.Au.swapR (Go.Au.gaussTo V k c) c p).getD c []).getD c 0)) ((Go.Au.swapR (Go.Au.gaussTo V k c) c p).getD c []) (2 * k))) c (2 * k) 0) := by rw [show (Go.Au.elimAll ((Go.Au.swapR (Go.Au.gaussTo V k c) c p).set c (Go.Au.scaleTo (Go.Au.ginv (((Go.Au.swapR (Go.Au.gaussTo V k c) c p).getD c []).getD c 0)) ((Go.Au.swapR (Go.Au.gaussTo V k c) c p).getD c []) (2 * k))) c (2 * k) 0) = ((Go.Au.swapR (Go.Au.gaussTo V k c) c p).set c (Go.Au.scaleTo (Go.Au.ginv (((Go.Au.swapR (Go.Au.gaussTo V k c) c p).getD c []).getD c 0)) ((Go.Au.swapR (Go.Au.gaussTo V k c) c p).getD c []) (2 * k))) from rfl]; exact hs154
   refine W_loop (fun M ρ w' => ∃ (r : Nat) (a181 : Option Addr) (c182 : Nat) (vs183 : List Value) (G179 : Hp), M = k - r ∧ r ≤ k ∧ ρ = [(4, .int .i64 ((k : Nat) : Int)), (5, .slice a181 k c182), (8, .int .i64 (c : Int)), (12, .int .i64 (r : Int)), (51, .int .i64 (p : Int)), (54, .int .i64 (c : Int)), (56, bV (((Go.Au.gaussTo V k c).getD p []).getD c 0)), (57, .bool (decide (((((Go.Au.gaussTo V k c).getD p []).getD c 0).toNat : Int) = (0 : Int))))] ∧ G147.le G179 ∧ St w H G179 (.row 24 1 (.slice a181 k c182) k vs183 :: (mrows 5 vs183 (Go.Au.elimAll ((Go.Au.swapR (Go.Au.gaussTo V k c) c p).set c (Go.Au.scaleTo (Go.Au.ginv (((Go.Au.swapR (Go.Au.gaussTo V k c) c p).getD c []).getD c 0)) ((Go.Au.swapR (Go.Au.gaussTo V k c) c p).getD c []) (2 * k))) c (2 * k) r) ++ [])) w' ∧ k ≤ c182 ∧ vs183.length = k ∧ MShape k (2 * k) (Go.Au.elimAll ((Go.Au.swapR (Go.Au.gaussTo V k c) c p).set c (Go.Au.scaleTo (Go.Au.ginv (((Go.Au.swapR (Go.Au.gaussTo V k c) c p).getD c []).getD c 0)) ((Go.Au.swapR (Go.Au.gaussTo V k c) c p).getD c []) (2 * k))) c (2 * k) r))
    (k - 0) [(4, .int .i64 ((k : Nat) : Int)), (5, .slice a149 k c150), (8, .int .i64 (c : Int)), (12, .int .i64 ((0 : Nat) : Int)), (51, .int .i64 (p : Int)), (54, .int .i64 (c : Int)), (56, bV (((Go.Au.gaussTo V k c).getD p []).getD c 0)), (57, .bool (decide (((((Go.Au.gaussTo V k c).getD p []).getD c 0).toNat : Int) = (0 : Int))))] ⟨(congrArg (fun z => some (Value.int .i64 z)) (by omega)), rfl, (congrArg (fun z => some (Value.int .i64 z)) (by omega)), (congrArg (fun z => some (Value.int .i64 z)) (by omega)), (congrArg (fun z => some (Value.int .i64 z)) (by omega)), (congrArg (fun z => some (Value.int .i64 z)) (by omega)), rfl, rfl, trivial⟩ ⟨0, a149, c150, vs151, G147, rfl, (by omega), rfl, Hp.le.refl _, S177, hc152, hv153, hs178⟩ ?_
   rintro M ρ w187 ⟨r, a181, c182, vs183, G179, rfl, hp189, rfl, hl180, S188, hc184, hv185, hs186⟩
   refine W_seq ?_
   refine Wr ?_
   iterate 3 refine Pv ?_
   refine T_nil ?_
   refine W_cond_dec rfl (fun h190 => ?_) (fun h190 => ?_)
   ·refine W_skip ?_
    refine W_seq ?_
    refine W_block ?_
    refine Wr ?_
    iterate 2 refine Pv ?_
    obtain ⟨g191, rfl⟩ := S188.rowAt 0 rfl (by omega)
    refine T_idxm (r * 1) rfl rfl rfl rfl rfl rfl rfl rfl (by omega) (by show 0 + Int.toNat _ * 1 = _; omega) ?_
    obtain ⟨g192, c193, hv194, hc195, hr196, hm197⟩ := S188.matCell hs186 hv185 (by omega) (show r < k by omega)
    refine T_load rfl rfl rfl rfl rfl rfl rfl (S188.rowCell 0 rfl (by rw [Nat.mul_one]; exact hv194)) ?_
    refine Pv ?_
    refine T_idxm (c * 1) rfl rfl rfl rfl rfl rfl rfl rfl (by omega) (by show 0 + Int.toNat _ * 1 = _; omega) ?_
    refine T_load rfl rfl rfl rfl rfl rfl rfl (S188.matAt hv194 hr196 hm197 (by omega)) ?_
    refine Pv ?_
    refine T_nil ?_
    refine W_seq ?_
    refine Wr ?_
    iterate 4 refine Pv ?_
    refine T_part (t := 125) rfl (List.cons_ne_nil _ _) (fun h198' => ?_) (fun h198' => ?_)
    ·have h198 := of_decide_eq_true h198'
     iterate 2 refine No ?_
     refine Pv ?_
     refine T_nil ?_
     refine W_cond_true rfl ?_
     refine W_exit ?_
     refine W_region ?_
     refine Pv ?_
     refine Ar ?_
     refine Pv ?_
     refine T_nil ?_
     have S199 : St w H G179 (.row 24 1 (.slice (some ⟨g191, 0, none⟩) k c182) k vs183 :: (mrows 5 vs183 (Go.Au.elimAll ((Go.Au.swapR (Go.Au.gaussTo V k c) c p).set c (Go.Au.scaleTo (Go.Au.ginv (((Go.Au.swapR (Go.Au.gaussTo V k c) c p).getD c []).getD c 0)) ((Go.Au.swapR (Go.Au.gaussTo V k c) c p).getD c []) (2 * k))) c (2 * k) (r + 1)) ++ [])) w187 := by rw [show (Go.Au.elimAll ((Go.Au.swapR (Go.Au.gaussTo V k c) c p).set c (Go.Au.scaleTo (Go.Au.ginv (((Go.Au.swapR (Go.Au.gaussTo V k c) c p).getD c []).getD c 0)) ((Go.Au.swapR (Go.Au.gaussTo V k c) c p).getD c []) (2 * k))) c (2 * k) (r + 1)) = (Go.Au.elimAll ((Go.Au.swapR (Go.Au.gaussTo V k c) c p).set c (Go.Au.scaleTo (Go.Au.ginv (((Go.Au.swapR (Go.Au.gaussTo V k c) c p).getD c []).getD c 0)) ((Go.Au.swapR (Go.Au.gaussTo V k c) c p).getD c []) (2 * k))) c (2 * k) r) from (Go.Au.elim_skip (by first | (left; omega) | exact Or.inr (Go.Au.u8_zero h198)))]; exact S188
     have hs200 : MShape k (2 * k) (Go.Au.elimAll ((Go.Au.swapR (Go.Au.gaussTo V k c) c p).set c (Go.Au.scaleTo (Go.Au.ginv (((Go.Au.swapR (Go.Au.gaussTo V k c) c p).getD c []).getD c 0)) ((Go.Au.swapR (Go.Au.gaussTo V k c) c p).getD c []) (2 * k))) c (2 * k) (r + 1)) := by rw [show (Go.Au.elimAll ((Go.Au.swapR (Go.Au.gaussTo V k c) c p).set c (Go.Au.scaleTo (Go.Au.ginv (((Go.Au.swapR (Go.Au.gaussTo V k c) c p).getD c []).getD c 0)) ((Go.Au.swapR (Go.Au.gaussTo V k c) c p).getD c []) (2 * k))) c (2 * k) (r + 1)) = (Go.Au.elimAll ((Go.Au.swapR (Go.Au.gaussTo V k c) c p).set c (Go.Au.scaleTo (Go.Au.ginv (((Go.Au.swapR (Go.Au.gaussTo V k c) c p).getD c []).getD c 0)) ((Go.Au.swapR (Go.Au.gaussTo V k c) c p).getD c []) (2 * k))) c (2 * k) r) from (Go.Au.elim_skip (by first | (left; omega) | exact Or.inr (Go.Au.u8_zero h198)))]; exact hs186
     exact ⟨k - (r + 1), [(4, .int .i64 ((k : Nat) : Int)), (5, .slice (some ⟨g191, 0, none⟩) k c182), (8, .int .i64 (c : Int)), (12, .int .i64 ((r + 1 : Nat) : Int)), (51, .int .i64 (p : Int)), (54, .int .i64 (c : Int)), (56, bV (((Go.Au.gaussTo V k c).getD p []).getD c 0)), (57, .bool (decide (((((Go.Au.gaussTo V k c).getD p []).getD c 0).toNat : Int) = (0 : Int))))], by omega, ⟨(congrArg (fun z => some (Value.int .i64 z)) (by omega)), rfl, (congrArg (fun z => some (Value.int .i64 z)) (by omega)), (congrArg (fun z => some (Value.int .i64 z)) (by omega)), (congrArg (fun z => some (Value.int .i64 z)) (by omega)), (congrArg (fun z => some (Value.int .i64 z)) (by omega)), rfl, rfl, trivial⟩, r + 1, (some ⟨g191, 0, none⟩), c182, vs183, G179, rfl, (by omega), rfl, hl180, S199, hc184, hv185, hs200⟩
    have h198 := of_decide_eq_false h198'
    iterate 2 (refine Ys ?_; refine Pv ?_)
    refine Pv ?_
    refine T_nil ?_
    refine W_cond_dec rfl (fun h201 => ?_) (fun h201 => ?_)
    ·refine W_exit ?_
     refine W_region ?_
     refine Pv ?_
     refine Ar ?_
     refine Pv ?_
     refine T_nil ?_
     have S202 : St w H G179 (.row 24 1 (.slice (some ⟨g191, 0, none⟩) k c182) k vs183 :: (mrows 5 vs183 (Go.Au.elimAll ((Go.Au.swapR (Go.Au.gaussTo V k c) c p).set c (Go.Au.scaleTo (Go.Au.ginv (((Go.Au.swapR (Go.Au.gaussTo V k c) c p).getD c []).getD c 0)) ((Go.Au.swapR (Go.Au.gaussTo V k c) c p).getD c []) (2 * k))) c (2 * k) (r + 1)) ++ [])) w187 := by rw [show (Go.Au.elimAll ((Go.Au.swapR (Go.Au.gaussTo V k c) c p).set c (Go.Au.scaleTo (Go.Au.ginv (((Go.Au.swapR (Go.Au.gaussTo V k c) c p).getD c []).getD c 0)) ((Go.Au.swapR (Go.Au.gaussTo V k c) c p).getD c []) (2 * k))) c (2 * k) (r + 1)) = (Go.Au.elimAll ((Go.Au.swapR (Go.Au.gaussTo V k c) c p).set c (Go.Au.scaleTo (Go.Au.ginv (((Go.Au.swapR (Go.Au.gaussTo V k c) c p).getD c []).getD c 0)) ((Go.Au.swapR (Go.Au.gaussTo V k c) c p).getD c []) (2 * k))) c (2 * k) r) from (Go.Au.elim_skip (by first | (left; omega) | exact Or.inr (Go.Au.u8_zero h201)))]; exact S188
     have hs203 : MShape k (2 * k) (Go.Au.elimAll ((Go.Au.swapR (Go.Au.gaussTo V k c) c p).set c (Go.Au.scaleTo (Go.Au.ginv (((Go.Au.swapR (Go.Au.gaussTo V k c) c p).getD c []).getD c 0)) ((Go.Au.swapR (Go.Au.gaussTo V k c) c p).getD c []) (2 * k))) c (2 * k) (r + 1)) := by rw [show (Go.Au.elimAll ((Go.Au.swapR (Go.Au.gaussTo V k c) c p).set c (Go.Au.scaleTo (Go.Au.ginv (((Go.Au.swapR (Go.Au.gaussTo V k c) c p).getD c []).getD c 0)) ((Go.Au.swapR (Go.Au.gaussTo V k c) c p).getD c []) (2 * k))) c (2 * k) (r + 1)) = (Go.Au.elimAll ((Go.Au.swapR (Go.Au.gaussTo V k c) c p).set c (Go.Au.scaleTo (Go.Au.ginv (((Go.Au.swapR (Go.Au.gaussTo V k c) c p).getD c []).getD c 0)) ((Go.Au.swapR (Go.Au.gaussTo V k c) c p).getD c []) (2 * k))) c (2 * k) r) from (Go.Au.elim_skip (by first | (left; omega) | exact Or.inr (Go.Au.u8_zero h201)))]; exact hs186
     exact ⟨k - (r + 1), [(4, .int .i64 ((k : Nat) : Int)), (5, .slice (some ⟨g191, 0, none⟩) k c182), (8, .int .i64 (c : Int)), (12, .int .i64 ((r + 1 : Nat) : Int)), (51, .int .i64 (p : Int)), (54, .int .i64 (c : Int)), (56, bV (((Go.Au.gaussTo V k c).getD p []).getD c 0)), (57, .bool (decide (((((Go.Au.gaussTo V k c).getD p []).getD c 0).toNat : Int) = (0 : Int))))], by omega, ⟨(congrArg (fun z => some (Value.int .i64 z)) (by omega)), rfl, (congrArg (fun z => some (Value.int .i64 z)) (by omega)), (congrArg (fun z => some (Value.int .i64 z)) (by omega)), (congrArg (fun z => some (Value.int .i64 z)) (by omega)), (congrArg (fun z => some (Value.int .i64 z)) (by omega)), rfl, rfl, trivial⟩, r + 1, (some ⟨g191, 0, none⟩), c182, vs183, G179, rfl, (by omega), rfl, hl180, S202, hc184, hv185, hs203⟩
    refine W_skip ?_
    refine Wr ?_
    iterate 2 refine Pv ?_
    refine T_idxm (r * 1) rfl rfl rfl rfl rfl rfl rfl rfl (by omega) (by show 0 + Int.toNat _ * 1 = _; omega) ?_
    obtain ⟨g204, c205, hv206, hc207, hr208, hm209⟩ := S188.matCell hs186 hv185 (by omega) (show r < k by omega)
    refine T_load rfl rfl rfl rfl rfl rfl rfl (S188.rowCell 0 rfl (by rw [Nat.mul_one]; exact hv206)) ?_
    iterate 2 refine Pv ?_
    refine T_nil ?_
    refine W_block ?_
    have hnz := h201
    have S210 : St w H G179 (.row 24 1 (.slice (some ⟨g191, 0, none⟩) k c182) k vs183 :: (mrows 5 vs183 ((Go.Au.elimAll ((Go.Au.swapR (Go.Au.gaussTo V k c) c p).set c (Go.Au.scaleTo (Go.Au.ginv (((Go.Au.swapR (Go.Au.gaussTo V k c) c p).getD c []).getD c 0)) ((Go.Au.swapR (Go.Au.gaussTo V k c) c p).getD c []) (2 * k))) c (2 * k) r).set r (Go.Au.elimTo (((Go.Au.elimAll ((Go.Au.swapR (Go.Au.gaussTo V k c) c p).set c (Go.Au.scaleTo (Go.Au.ginv (((Go.Au.swapR (Go.Au.gaussTo V k c) c p).getD c []).getD c 0)) ((Go.Au.swapR (Go.Au.gaussTo V k c) c p).getD c []) (2 * k))) c (2 * k) r).getD r []).getD c 0) ((Go.Au.elimAll ((Go.Au.swapR (Go.Au.gaussTo V k c) c p).set c (Go.Au.scaleTo (Go.Au.ginv (((Go.Au.swapR (Go.Au.gaussTo V k c) c p).getD c []).getD c 0)) ((Go.Au.swapR (Go.Au.gaussTo V k c) c p).getD c []) (2 * k))) c (2 * k) r).getD c []) ((Go.Au.elimAll ((Go.Au.swapR (Go.Au.gaussTo V k c) c p).set c (Go.Au.scaleTo (Go.Au.ginv (((Go.Au.swapR (Go.Au.gaussTo V k c) c p).getD c []).getD c 0)) ((Go.Au.swapR (Go.Au.gaussTo V k c) c p).getD c []) (2 * k))) c (2 * k) r).getD r []) 0)) ++ [])) w187 := by rw [show ((Go.Au.elimAll ((Go.Au.swapR (Go.Au.gaussTo V k c) c p).set c (Go.Au.scaleTo (Go.Au.ginv (((Go.Au.swapR (Go.Au.gaussTo V k c) c p).getD c []).getD c 0)) ((Go.Au.swapR (Go.Au.gaussTo V k c) c p).getD c []) (2 * k))) c (2 * k) r).set r (Go.Au.elimTo (((Go.Au.elimAll ((Go.Au.swapR (Go.Au.gaussTo V k c) c p).set c (Go.Au.scaleTo (Go.Au.ginv (((Go.Au.swapR (Go.Au.gaussTo V k c) c p).getD c []).getD c 0)) ((Go.Au.swapR (Go.Au.gaussTo V k c) c p).getD c []) (2 * k))) c (2 * k) r).getD r []).getD c 0) ((Go.Au.elimAll ((Go.Au.swapR (Go.Au.gaussTo V k c) c p).set c (Go.Au.scaleTo (Go.Au.ginv (((Go.Au.swapR (Go.Au.gaussTo V k c) c p).getD c []).getD c 0)) ((Go.Au.swapR (Go.Au.gaussTo V k c) c p).getD c []) (2 * k))) c (2 * k) r).getD c []) ((Go.Au.elimAll ((Go.Au.swapR (Go.Au.gaussTo V k c) c p).set c (Go.Au.scaleTo (Go.Au.ginv (((Go.Au.swapR (Go.Au.gaussTo V k c) c p).getD c []).getD c 0)) ((Go.Au.swapR (Go.Au.gaussTo V k c) c p).getD c []) (2 * k))) c (2 * k) r).getD r []) 0)) = (Go.Au.elimAll ((Go.Au.swapR (Go.Au.gaussTo V k c) c p).set c (Go.Au.scaleTo (Go.Au.ginv (((Go.Au.swapR (Go.Au.gaussTo V k c) c p).getD c []).getD c 0)) ((Go.Au.swapR (Go.Au.gaussTo V k c) c p).getD c []) (2 * k))) c (2 * k) r) from (Go.Au.row_self (by rw [(hs186).1]; omega))]; exact S188
    have hs211 : MShape k (2 * k) ((Go.Au.elimAll ((Go.Au.swapR (Go.Au.gaussTo V k c) c p).set c (Go.Au.scaleTo (Go.Au.ginv (((Go.Au.swapR (Go.Au.gaussTo V k c) c p).getD c []).getD c 0)) ((Go.Au.swapR (Go.Au.gaussTo V k c) c p).getD c []) (2 * k))) c (2 * k) r).set r (Go.Au.elimTo (((Go.Au.elimAll ((Go.Au.swapR (Go.Au.gaussTo V k c) c p).set c (Go.Au.scaleTo (Go.Au.ginv (((Go.Au.swapR (Go.Au.gaussTo V k c) c p).getD c []).getD c 0)) ((Go.Au.swapR (Go.Au.gaussTo V k c) c p).getD c []) (2 * k))) c (2 * k) r).getD r []).getD c 0) ((Go.Au.elimAll ((Go.Au.swapR (Go.Au.gaussTo V k c) c p).set c (Go.Au.scaleTo (Go.Au.ginv (((Go.Au.swapR (Go.Au.gaussTo V k c) c p).getD c []).getD c 0)) ((Go.Au.swapR (Go.Au.gaussTo V k c) c p).getD c []) (2 * k))) c (2 * k) r).getD c []) ((Go.Au.elimAll ((Go.Au.swapR (Go.Au.gaussTo V k c) c p).set c (Go.Au.scaleTo (Go.Au.ginv (((Go.Au.swapR (Go.Au.gaussTo V k c) c p).getD c []).getD c 0)) ((Go.Au.swapR (Go.Au.gaussTo V k c) c p).getD c []) (2 * k))) c (2 * k) r).getD r []) 0)) := by rw [show ((Go.Au.elimAll ((Go.Au.swapR (Go.Au.gaussTo V k c) c p).set c (Go.Au.scaleTo (Go.Au.ginv (((Go.Au.swapR (Go.Au.gaussTo V k c) c p).getD c []).getD c 0)) ((Go.Au.swapR (Go.Au.gaussTo V k c) c p).getD c []) (2 * k))) c (2 * k) r).set r (Go.Au.elimTo (((Go.Au.elimAll ((Go.Au.swapR (Go.Au.gaussTo V k c) c p).set c (Go.Au.scaleTo (Go.Au.ginv (((Go.Au.swapR (Go.Au.gaussTo V k c) c p).getD c []).getD c 0)) ((Go.Au.swapR (Go.Au.gaussTo V k c) c p).getD c []) (2 * k))) c (2 * k) r).getD r []).getD c 0) ((Go.Au.elimAll ((Go.Au.swapR (Go.Au.gaussTo V k c) c p).set c (Go.Au.scaleTo (Go.Au.ginv (((Go.Au.swapR (Go.Au.gaussTo V k c) c p).getD c []).getD c 0)) ((Go.Au.swapR (Go.Au.gaussTo V k c) c p).getD c []) (2 * k))) c (2 * k) r).getD c []) ((Go.Au.elimAll ((Go.Au.swapR (Go.Au.gaussTo V k c) c p).set c (Go.Au.scaleTo (Go.Au.ginv (((Go.Au.swapR (Go.Au.gaussTo V k c) c p).getD c []).getD c 0)) ((Go.Au.swapR (Go.Au.gaussTo V k c) c p).getD c []) (2 * k))) c (2 * k) r).getD r []) 0)) = (Go.Au.elimAll ((Go.Au.swapR (Go.Au.gaussTo V k c) c p).set c (Go.Au.scaleTo (Go.Au.ginv (((Go.Au.swapR (Go.Au.gaussTo V k c) c p).getD c []).getD c 0)) ((Go.Au.swapR (Go.Au.gaussTo V k c) c p).getD c []) (2 * k))) c (2 * k) r) from (Go.Au.row_self (by rw [(hs186).1]; omega))]; exact hs186
    refine W_loop (fun M ρ w' => ∃ (j : Nat) (a214 : Option Addr) (c215 : Nat) (vs216 : List Value) (G212 : Hp), M = (2 * k) - j ∧ j ≤ 2 * k ∧ ρ = [(4, .int .i64 ((k : Nat) : Int)), (5, .slice a214 k c215), (8, .int .i64 (c : Int)), (12, .int .i64 (r : Int)), (13, bV (((Go.Au.elimAll ((Go.Au.swapR (Go.Au.gaussTo V k c) c p).set c (Go.Au.scaleTo (Go.Au.ginv (((Go.Au.swapR (Go.Au.gaussTo V k c) c p).getD c []).getD c 0)) ((Go.Au.swapR (Go.Au.gaussTo V k c) c p).getD c []) (2 * k))) c (2 * k) r).getD r []).getD c 0)), (51, .int .i64 (p : Int)), (54, .int .i64 (c : Int)), (56, bV (((Go.Au.gaussTo V k c).getD p []).getD c 0)), (57, .bool (decide (((((Go.Au.gaussTo V k c).getD p []).getD c 0).toNat : Int) = (0 : Int)))), (126, bV (((Go.Au.elimAll ((Go.Au.swapR (Go.Au.gaussTo V k c) c p).set c (Go.Au.scaleTo (Go.Au.ginv (((Go.Au.swapR (Go.Au.gaussTo V k c) c p).getD c []).getD c 0)) ((Go.Au.swapR (Go.Au.gaussTo V k c) c p).getD c []) (2 * k))) c (2 * k) r).getD r []).getD c 0)), (127, .bool (decide (((((Go.Au.elimAll ((Go.Au.swapR (Go.Au.gaussTo V k c) c p).set c (Go.Au.scaleTo (Go.Au.ginv (((Go.Au.swapR (Go.Au.gaussTo V k c) c p).getD c []).getD c 0)) ((Go.Au.swapR (Go.Au.gaussTo V k c) c p).getD c []) (2 * k))) c (2 * k) r).getD r []).getD c 0).toNat : Int) = (0 : Int)))), (133, .int .i64 (((2 * k) : Nat) : Int)), (134, .int .i64 (j : Int))] ∧ G179.le G212 ∧ St w H G212 (.row 24 1 (.slice a214 k c215) k vs216 :: (mrows 5 vs216 ((Go.Au.elimAll ((Go.Au.swapR (Go.Au.gaussTo V k c) c p).set c (Go.Au.scaleTo (Go.Au.ginv (((Go.Au.swapR (Go.Au.gaussTo V k c) c p).getD c []).getD c 0)) ((Go.Au.swapR (Go.Au.gaussTo V k c) c p).getD c []) (2 * k))) c (2 * k) r).set r (Go.Au.elimTo (((Go.Au.elimAll ((Go.Au.swapR (Go.Au.gaussTo V k c) c p).set c (Go.Au.scaleTo (Go.Au.ginv (((Go.Au.swapR (Go.Au.gaussTo V k c) c p).getD c []).getD c 0)) ((Go.Au.swapR (Go.Au.gaussTo V k c) c p).getD c []) (2 * k))) c (2 * k) r).getD r []).getD c 0) ((Go.Au.elimAll ((Go.Au.swapR (Go.Au.gaussTo V k c) c p).set c (Go.Au.scaleTo (Go.Au.ginv (((Go.Au.swapR (Go.Au.gaussTo V k c) c p).getD c []).getD c 0)) ((Go.Au.swapR (Go.Au.gaussTo V k c) c p).getD c []) (2 * k))) c (2 * k) r).getD c []) ((Go.Au.elimAll ((Go.Au.swapR (Go.Au.gaussTo V k c) c p).set c (Go.Au.scaleTo (Go.Au.ginv (((Go.Au.swapR (Go.Au.gaussTo V k c) c p).getD c []).getD c 0)) ((Go.Au.swapR (Go.Au.gaussTo V k c) c p).getD c []) (2 * k))) c (2 * k) r).getD r []) j)) ++ [])) w' ∧ k ≤ c215 ∧ vs216.length = k ∧ MShape k (2 * k) ((Go.Au.elimAll ((Go.Au.swapR (Go.Au.gaussTo V k c) c p).set c (Go.Au.scaleTo (Go.Au.ginv (((Go.Au.swapR (Go.Au.gaussTo V k c) c p).getD c []).getD c 0)) ((Go.Au.swapR (Go.Au.gaussTo V k c) c p).getD c []) (2 * k))) c (2 * k) r).set r (Go.Au.elimTo (((Go.Au.elimAll ((Go.Au.swapR (Go.Au.gaussTo V k c) c p).set c (Go.Au.scaleTo (Go.Au.ginv (((Go.Au.swapR (Go.Au.gaussTo V k c) c p).getD c []).getD c 0)) ((Go.Au.swapR (Go.Au.gaussTo V k c) c p).getD c []) (2 * k))) c (2 * k) r).getD r []).getD c 0) ((Go.Au.elimAll ((Go.Au.swapR (Go.Au.gaussTo V k c) c p).set c (Go.Au.scaleTo (Go.Au.ginv (((Go.Au.swapR (Go.Au.gaussTo V k c) c p).getD c []).getD c 0)) ((Go.Au.swapR (Go.Au.gaussTo V k c) c p).getD c []) (2 * k))) c (2 * k) r).getD c []) ((Go.Au.elimAll ((Go.Au.swapR (Go.Au.gaussTo V k c) c p).set c (Go.Au.scaleTo (Go.Au.ginv (((Go.Au.swapR (Go.Au.gaussTo V k c) c p).getD c []).getD c 0)) ((Go.Au.swapR (Go.Au.gaussTo V k c) c p).getD c []) (2 * k))) c (2 * k) r).getD r []) j)))
     ((2 * k) - 0) [(4, .int .i64 ((k : Nat) : Int)), (5, .slice (some ⟨g191, 0, none⟩) k c182), (8, .int .i64 (c : Int)), (12, .int .i64 (r : Int)), (13, bV (((Go.Au.elimAll ((Go.Au.swapR (Go.Au.gaussTo V k c) c p).set c (Go.Au.scaleTo (Go.Au.ginv (((Go.Au.swapR (Go.Au.gaussTo V k c) c p).getD c []).getD c 0)) ((Go.Au.swapR (Go.Au.gaussTo V k c) c p).getD c []) (2 * k))) c (2 * k) r).getD r []).getD c 0)), (51, .int .i64 (p : Int)), (54, .int .i64 (c : Int)), (56, bV (((Go.Au.gaussTo V k c).getD p []).getD c 0)), (57, .bool (decide (((((Go.Au.gaussTo V k c).getD p []).getD c 0).toNat : Int) = (0 : Int)))), (126, bV (((Go.Au.elimAll ((Go.Au.swapR (Go.Au.gaussTo V k c) c p).set c (Go.Au.scaleTo (Go.Au.ginv (((Go.Au.swapR (Go.Au.gaussTo V k c) c p).getD c []).getD c 0)) ((Go.Au.swapR (Go.Au.gaussTo V k c) c p).getD c []) (2 * k))) c (2 * k) r).getD r []).getD c 0)), (127, .bool (decide (((((Go.Au.elimAll ((Go.Au.swapR (Go.Au.gaussTo V k c) c p).set c (Go.Au.scaleTo (Go.Au.ginv (((Go.Au.swapR (Go.Au.gaussTo V k c) c p).getD c []).getD c 0)) ((Go.Au.swapR (Go.Au.gaussTo V k c) c p).getD c []) (2 * k))) c (2 * k) r).getD r []).getD c 0).toNat : Int) = (0 : Int)))), (133, .int .i64 (((2 * k) : Nat) : Int)), (134, .int .i64 ((0 : Nat) : Int))] ⟨(congrArg (fun z => some (Value.int .i64 z)) (by omega)), rfl, (congrArg (fun z => some (Value.int .i64 z)) (by omega)), (congrArg (fun z => some (Value.int .i64 z)) (by omega)), rfl, (congrArg (fun z => some (Value.int .i64 z)) (by omega)), (congrArg (fun z => some (Value.int .i64 z)) (by omega)), rfl, rfl, rfl, rfl, (congrArg (fun z => some (Value.int .i64 z)) (by omega)), (congrArg (fun z => some (Value.int .i64 z)) (by omega)), trivial⟩ ⟨0, (some ⟨g191, 0, none⟩), c182, vs183, G179, rfl, (by omega), rfl, Hp.le.refl _, S210, hc184, hv185, hs211⟩ ?_
    rintro M ρ w220 ⟨j, a214, c215, vs216, G212, rfl, hp222, rfl, hl213, S221, hc217, hv218, hs219⟩
    refine Wr ?_
    refine Pv ?_
    refine T_nil ?_
    refine W_seq ?_
    refine W_cond_dec rfl (fun h223 => ?_) (fun h223 => ?_)
    ·refine W_skip ?_
     refine W_seq ?_
     refine W_block ?_
     refine Wr ?_
     iterate 2 refine Pv ?_
     refine T_nil ?_
     refine W_plan (planF Tryz.prog G212 [152]) rfl (by kernel_rfl) S221.le ?_
     have S224 := S221.drew
     iterate 2 refine Pv ?_
     obtain ⟨g225, rfl⟩ := S224.rowAt 0 rfl (by omega)
     refine T_idxm (r * 1) rfl rfl rfl rfl rfl rfl rfl rfl (by omega) (by show 0 + Int.toNat _ * 1 = _; omega) ?_
     obtain ⟨g226, c227, hv228, hc229, hr230, hm231⟩ := S224.matCell hs219 hv218 (by omega) (show r < k by omega)
     refine T_load rfl rfl rfl rfl rfl rfl rfl (S224.rowCell 0 rfl (by rw [Nat.mul_one]; exact hv228)) ?_
     refine Pv ?_
     refine T_idxm (j * 1) rfl rfl rfl rfl rfl rfl rfl rfl (by omega) (by show 0 + Int.toNat _ * 1 = _; omega) ?_
     refine T_load rfl rfl rfl rfl rfl rfl rfl (S224.matAt hv228 hr230 hm231 (by omega)) ?_
     iterate 3 refine Pv ?_
     refine T_idxm (c * 1) rfl rfl rfl rfl rfl rfl rfl rfl (by omega) (by show 0 + Int.toNat _ * 1 = _; omega) ?_
     obtain ⟨g232, c233, hv234, hc235, hr236, hm237⟩ := S224.matCell hs219 hv218 (by omega) (show c < k by omega)
     refine T_load rfl rfl rfl rfl rfl rfl rfl (S224.rowCell 0 rfl (by rw [Nat.mul_one]; exact hv234)) ?_
     refine Pv ?_
     refine T_idxm (j * 1) rfl rfl rfl rfl rfl rfl rfl rfl (by omega) (by show 0 + Int.toNat _ * 1 = _; omega) ?_
     refine T_load rfl rfl rfl rfl rfl rfl rfl (S224.matAt hv234 hr236 hm237 (by omega)) ?_
     refine T_re (v' := bV (((Go.Au.elimAll ((Go.Au.swapR (Go.Au.gaussTo V k c) c p).set c (Go.Au.scaleTo (Go.Au.ginv (((Go.Au.swapR (Go.Au.gaussTo V k c) c p).getD c []).getD c 0)) ((Go.Au.swapR (Go.Au.gaussTo V k c) c p).getD c []) (2 * k))) c (2 * k) r).getD c []).getD j 0)) (congrArg (fun z => bV (List.getD z j 0)) (Go.Au.row_other (by omega))) ?_
     refine T_callQ rfl rfl g_aumbry_aumbryref04_Mul (by kernel_rfl) rfl rfl rfl rfl (fun u => rmul_ok (H := fun _ => none) (w := u) (fun _ _ h => by cases h) (((Go.Au.elimAll ((Go.Au.swapR (Go.Au.gaussTo V k c) c p).set c (Go.Au.scaleTo (Go.Au.ginv (((Go.Au.swapR (Go.Au.gaussTo V k c) c p).getD c []).getD c 0)) ((Go.Au.swapR (Go.Au.gaussTo V k c) c p).getD c []) (2 * k))) c (2 * k) r).getD r []).getD c 0) (((Go.Au.elimAll ((Go.Au.swapR (Go.Au.gaussTo V k c) c p).set c (Go.Au.scaleTo (Go.Au.ginv (((Go.Au.swapR (Go.Au.gaussTo V k c) c p).getD c []).getD c 0)) ((Go.Au.swapR (Go.Au.gaussTo V k c) c p).getD c []) (2 * k))) c (2 * k) r).getD c []).getD j 0) ) ?_
     refine Pv ?_
     refine T_re (v' := bV ((((Go.Au.elimAll ((Go.Au.swapR (Go.Au.gaussTo V k c) c p).set c (Go.Au.scaleTo (Go.Au.ginv (((Go.Au.swapR (Go.Au.gaussTo V k c) c p).getD c []).getD c 0)) ((Go.Au.swapR (Go.Au.gaussTo V k c) c p).getD c []) (2 * k))) c (2 * k) r).set r (Go.Au.elimTo (((Go.Au.elimAll ((Go.Au.swapR (Go.Au.gaussTo V k c) c p).set c (Go.Au.scaleTo (Go.Au.ginv (((Go.Au.swapR (Go.Au.gaussTo V k c) c p).getD c []).getD c 0)) ((Go.Au.swapR (Go.Au.gaussTo V k c) c p).getD c []) (2 * k))) c (2 * k) r).getD r []).getD c 0) ((Go.Au.elimAll ((Go.Au.swapR (Go.Au.gaussTo V k c) c p).set c (Go.Au.scaleTo (Go.Au.ginv (((Go.Au.swapR (Go.Au.gaussTo V k c) c p).getD c []).getD c 0)) ((Go.Au.swapR (Go.Au.gaussTo V k c) c p).getD c []) (2 * k))) c (2 * k) r).getD c []) ((Go.Au.elimAll ((Go.Au.swapR (Go.Au.gaussTo V k c) c p).set c (Go.Au.scaleTo (Go.Au.ginv (((Go.Au.swapR (Go.Au.gaussTo V k c) c p).getD c []).getD c 0)) ((Go.Au.swapR (Go.Au.gaussTo V k c) c p).getD c []) (2 * k))) c (2 * k) r).getD r []) j)).getD r []).getD j 0 ^^^ Go.Au.gmul (((Go.Au.elimAll ((Go.Au.swapR (Go.Au.gaussTo V k c) c p).set c (Go.Au.scaleTo (Go.Au.ginv (((Go.Au.swapR (Go.Au.gaussTo V k c) c p).getD c []).getD c 0)) ((Go.Au.swapR (Go.Au.gaussTo V k c) c p).getD c []) (2 * k))) c (2 * k) r).getD r []).getD c 0) (((Go.Au.elimAll ((Go.Au.swapR (Go.Au.gaussTo V k c) c p).set c (Go.Au.scaleTo (Go.Au.ginv (((Go.Au.swapR (Go.Au.gaussTo V k c) c p).getD c []).getD c 0)) ((Go.Au.swapR (Go.Au.gaussTo V k c) c p).getD c []) (2 * k))) c (2 * k) r).getD c []).getD j 0))) (congrArg (Value.int .u8) (xorU8 _ _)) ?_
     refine T_idxm (j * 1) rfl rfl rfl rfl rfl rfl rfl rfl (by omega) (by show 0 + Int.toNat _ * 1 = _; omega) ?_
     refine T_matStore (u := ((((Go.Au.elimAll ((Go.Au.swapR (Go.Au.gaussTo V k c) c p).set c (Go.Au.scaleTo (Go.Au.ginv (((Go.Au.swapR (Go.Au.gaussTo V k c) c p).getD c []).getD c 0)) ((Go.Au.swapR (Go.Au.gaussTo V k c) c p).getD c []) (2 * k))) c (2 * k) r).set r (Go.Au.elimTo (((Go.Au.elimAll ((Go.Au.swapR (Go.Au.gaussTo V k c) c p).set c (Go.Au.scaleTo (Go.Au.ginv (((Go.Au.swapR (Go.Au.gaussTo V k c) c p).getD c []).getD c 0)) ((Go.Au.swapR (Go.Au.gaussTo V k c) c p).getD c []) (2 * k))) c (2 * k) r).getD r []).getD c 0) ((Go.Au.elimAll ((Go.Au.swapR (Go.Au.gaussTo V k c) c p).set c (Go.Au.scaleTo (Go.Au.ginv (((Go.Au.swapR (Go.Au.gaussTo V k c) c p).getD c []).getD c 0)) ((Go.Au.swapR (Go.Au.gaussTo V k c) c p).getD c []) (2 * k))) c (2 * k) r).getD c []) ((Go.Au.elimAll ((Go.Au.swapR (Go.Au.gaussTo V k c) c p).set c (Go.Au.scaleTo (Go.Au.ginv (((Go.Au.swapR (Go.Au.gaussTo V k c) c p).getD c []).getD c 0)) ((Go.Au.swapR (Go.Au.gaussTo V k c) c p).getD c []) (2 * k))) c (2 * k) r).getD r []) j)).getD r []).getD j 0 ^^^ Go.Au.gmul (((Go.Au.elimAll ((Go.Au.swapR (Go.Au.gaussTo V k c) c p).set c (Go.Au.scaleTo (Go.Au.ginv (((Go.Au.swapR (Go.Au.gaussTo V k c) c p).getD c []).getD c 0)) ((Go.Au.swapR (Go.Au.gaussTo V k c) c p).getD c []) (2 * k))) c (2 * k) r).getD r []).getD c 0) (((Go.Au.elimAll ((Go.Au.swapR (Go.Au.gaussTo V k c) c p).set c (Go.Au.scaleTo (Go.Au.ginv (((Go.Au.swapR (Go.Au.gaussTo V k c) c p).getD c []).getD c 0)) ((Go.Au.swapR (Go.Au.gaussTo V k c) c p).getD c []) (2 * k))) c (2 * k) r).getD c []).getD j 0))) r j S224 (fun _ h => ((Hp.le.refl _)).trans h) hv228 hr230 hm231 (by omega) rfl rfl rfl rfl rfl rfl rfl rfl rfl fun w238 S239 => ?_
     have hs240 := MShape.set (r := r) (l := (((Go.Au.elimAll ((Go.Au.swapR (Go.Au.gaussTo V k c) c p).set c (Go.Au.scaleTo (Go.Au.ginv (((Go.Au.swapR (Go.Au.gaussTo V k c) c p).getD c []).getD c 0)) ((Go.Au.swapR (Go.Au.gaussTo V k c) c p).getD c []) (2 * k))) c (2 * k) r).set r (Go.Au.elimTo (((Go.Au.elimAll ((Go.Au.swapR (Go.Au.gaussTo V k c) c p).set c (Go.Au.scaleTo (Go.Au.ginv (((Go.Au.swapR (Go.Au.gaussTo V k c) c p).getD c []).getD c 0)) ((Go.Au.swapR (Go.Au.gaussTo V k c) c p).getD c []) (2 * k))) c (2 * k) r).getD r []).getD c 0) ((Go.Au.elimAll ((Go.Au.swapR (Go.Au.gaussTo V k c) c p).set c (Go.Au.scaleTo (Go.Au.ginv (((Go.Au.swapR (Go.Au.gaussTo V k c) c p).getD c []).getD c 0)) ((Go.Au.swapR (Go.Au.gaussTo V k c) c p).getD c []) (2 * k))) c (2 * k) r).getD c []) ((Go.Au.elimAll ((Go.Au.swapR (Go.Au.gaussTo V k c) c p).set c (Go.Au.scaleTo (Go.Au.ginv (((Go.Au.swapR (Go.Au.gaussTo V k c) c p).getD c []).getD c 0)) ((Go.Au.swapR (Go.Au.gaussTo V k c) c p).getD c []) (2 * k))) c (2 * k) r).getD r []) j)).getD r []).set j ((((Go.Au.elimAll ((Go.Au.swapR (Go.Au.gaussTo V k c) c p).set c (Go.Au.scaleTo (Go.Au.ginv (((Go.Au.swapR (Go.Au.gaussTo V k c) c p).getD c []).getD c 0)) ((Go.Au.swapR (Go.Au.gaussTo V k c) c p).getD c []) (2 * k))) c (2 * k) r).set r (Go.Au.elimTo (((Go.Au.elimAll ((Go.Au.swapR (Go.Au.gaussTo V k c) c p).set c (Go.Au.scaleTo (Go.Au.ginv (((Go.Au.swapR (Go.Au.gaussTo V k c) c p).getD c []).getD c 0)) ((Go.Au.swapR (Go.Au.gaussTo V k c) c p).getD c []) (2 * k))) c (2 * k) r).getD r []).getD c 0) ((Go.Au.elimAll ((Go.Au.swapR (Go.Au.gaussTo V k c) c p).set c (Go.Au.scaleTo (Go.Au.ginv (((Go.Au.swapR (Go.Au.gaussTo V k c) c p).getD c []).getD c 0)) ((Go.Au.swapR (Go.Au.gaussTo V k c) c p).getD c []) (2 * k))) c (2 * k) r).getD c []) ((Go.Au.elimAll ((Go.Au.swapR (Go.Au.gaussTo V k c) c p).set c (Go.Au.scaleTo (Go.Au.ginv (((Go.Au.swapR (Go.Au.gaussTo V k c) c p).getD c []).getD c 0)) ((Go.Au.swapR (Go.Au.gaussTo V k c) c p).getD c []) (2 * k))) c (2 * k) r).getD r []) j)).getD r []).getD j 0 ^^^ Go.Au.gmul (((Go.Au.elimAll ((Go.Au.swapR (Go.Au.gaussTo V k c) c p).set c (Go.Au.scaleTo (Go.Au.ginv (((Go.Au.swapR (Go.Au.gaussTo V k c) c p).getD c []).getD c 0)) ((Go.Au.swapR (Go.Au.gaussTo V k c) c p).getD c []) (2 * k))) c (2 * k) r).getD r []).getD c 0) (((Go.Au.elimAll ((Go.Au.swapR (Go.Au.gaussTo V k c) c p).set c (Go.Au.scaleTo (Go.Au.ginv (((Go.Au.swapR (Go.Au.gaussTo V k c) c p).getD c []).getD c 0)) ((Go.Au.swapR (Go.Au.gaussTo V k c) c p).getD c []) (2 * k))) c (2 * k) r).getD c []).getD j 0))) hs219 (by rw [List.length_set]; exact hm231)
     have hD241 : (((Go.Au.elimAll ((Go.Au.swapR (Go.Au.gaussTo V k c) c p).set c (Go.Au.scaleTo (Go.Au.ginv (((Go.Au.swapR (Go.Au.gaussTo V k c) c p).getD c []).getD c 0)) ((Go.Au.swapR (Go.Au.gaussTo V k c) c p).getD c []) (2 * k))) c (2 * k) r).set r (Go.Au.elimTo (((Go.Au.elimAll ((Go.Au.swapR (Go.Au.gaussTo V k c) c p).set c (Go.Au.scaleTo (Go.Au.ginv (((Go.Au.swapR (Go.Au.gaussTo V k c) c p).getD c []).getD c 0)) ((Go.Au.swapR (Go.Au.gaussTo V k c) c p).getD c []) (2 * k))) c (2 * k) r).getD r []).getD c 0) ((Go.Au.elimAll ((Go.Au.swapR (Go.Au.gaussTo V k c) c p).set c (Go.Au.scaleTo (Go.Au.ginv (((Go.Au.swapR (Go.Au.gaussTo V k c) c p).getD c []).getD c 0)) ((Go.Au.swapR (Go.Au.gaussTo V k c) c p).getD c []) (2 * k))) c (2 * k) r).getD c []) ((Go.Au.elimAll ((Go.Au.swapR (Go.Au.gaussTo V k c) c p).set c (Go.Au.scaleTo (Go.Au.ginv (((Go.Au.swapR (Go.Au.gaussTo V k c) c p).getD c []).getD c 0)) ((Go.Au.swapR (Go.Au.gaussTo V k c) c p).getD c []) (2 * k))) c (2 * k) r).getD r []) j)).set r ((((Go.Au.elimAll ((Go.Au.swapR (Go.Au.gaussTo V k c) c p).set c (Go.Au.scaleTo (Go.Au.ginv (((Go.Au.swapR (Go.Au.gaussTo V k c) c p).getD c []).getD c 0)) ((Go.Au.swapR (Go.Au.gaussTo V k c) c p).getD c []) (2 * k))) c (2 * k) r).set r (Go.Au.elimTo (((Go.Au.elimAll ((Go.Au.swapR (Go.Au.gaussTo V k c) c p).set c (Go.Au.scaleTo (Go.Au.ginv (((Go.Au.swapR (Go.Au.gaussTo V k c) c p).getD c []).getD c 0)) ((Go.Au.swapR (Go.Au.gaussTo V k c) c p).getD c []) (2 * k))) c (2 * k) r).getD r []).getD c 0) ((Go.Au.elimAll ((Go.Au.swapR (Go.Au.gaussTo V k c) c p).set c (Go.Au.scaleTo (Go.Au.ginv (((Go.Au.swapR (Go.Au.gaussTo V k c) c p).getD c []).getD c 0)) ((Go.Au.swapR (Go.Au.gaussTo V k c) c p).getD c []) (2 * k))) c (2 * k) r).getD c []) ((Go.Au.elimAll ((Go.Au.swapR (Go.Au.gaussTo V k c) c p).set c (Go.Au.scaleTo (Go.Au.ginv (((Go.Au.swapR (Go.Au.gaussTo V k c) c p).getD c []).getD c 0)) ((Go.Au.swapR (Go.Au.gaussTo V k c) c p).getD c []) (2 * k))) c (2 * k) r).getD r []) j)).getD r []).set j ((((Go.Au.elimAll ((Go.Au.swapR (Go.Au.gaussTo V k c) c p).set c (Go.Au.scaleTo (Go.Au.ginv (((Go.Au.swapR (Go.Au.gaussTo V k c) c p).getD c []).getD c 0)) ((Go.Au.swapR (Go.Au.gaussTo V k c) c p).getD c []) (2 * k))) c (2 * k) r).set r (Go.Au.elimTo (((Go.Au.elimAll ((Go.Au.swapR (Go.Au.gaussTo V k c) c p).set c (Go.Au.scaleTo (Go.Au.ginv (((Go.Au.swapR (Go.Au.gaussTo V k c) c p).getD c []).getD c 0)) ((Go.Au.swapR (Go.Au.gaussTo V k c) c p).getD c []) (2 * k))) c (2 * k) r).getD r []).getD c 0) ((Go.Au.elimAll ((Go.Au.swapR (Go.Au.gaussTo V k c) c p).set c (Go.Au.scaleTo (Go.Au.ginv (((Go.Au.swapR (Go.Au.gaussTo V k c) c p).getD c []).getD c 0)) ((Go.Au.swapR (Go.Au.gaussTo V k c) c p).getD c []) (2 * k))) c (2 * k) r).getD c []) ((Go.Au.elimAll ((Go.Au.swapR (Go.Au.gaussTo V k c) c p).set c (Go.Au.scaleTo (Go.Au.ginv (((Go.Au.swapR (Go.Au.gaussTo V k c) c p).getD c []).getD c 0)) ((Go.Au.swapR (Go.Au.gaussTo V k c) c p).getD c []) (2 * k))) c (2 * k) r).getD r []) j)).getD r []).getD j 0 ^^^ Go.Au.gmul (((Go.Au.elimAll ((Go.Au.swapR (Go.Au.gaussTo V k c) c p).set c (Go.Au.scaleTo (Go.Au.ginv (((Go.Au.swapR (Go.Au.gaussTo V k c) c p).getD c []).getD c 0)) ((Go.Au.swapR (Go.Au.gaussTo V k c) c p).getD c []) (2 * k))) c (2 * k) r).getD r []).getD c 0) (((Go.Au.elimAll ((Go.Au.swapR (Go.Au.gaussTo V k c) c p).set c (Go.Au.scaleTo (Go.Au.ginv (((Go.Au.swapR (Go.Au.gaussTo V k c) c p).getD c []).getD c 0)) ((Go.Au.swapR (Go.Au.gaussTo V k c) c p).getD c []) (2 * k))) c (2 * k) r).getD c []).getD j 0)))) = ((Go.Au.elimAll ((Go.Au.swapR (Go.Au.gaussTo V k c) c p).set c (Go.Au.scaleTo (Go.Au.ginv (((Go.Au.swapR (Go.Au.gaussTo V k c) c p).getD c []).getD c 0)) ((Go.Au.swapR (Go.Au.gaussTo V k c) c p).getD c []) (2 * k))) c (2 * k) r).set r (Go.Au.elimTo (((Go.Au.elimAll ((Go.Au.swapR (Go.Au.gaussTo V k c) c p).set c (Go.Au.scaleTo (Go.Au.ginv (((Go.Au.swapR (Go.Au.gaussTo V k c) c p).getD c []).getD c 0)) ((Go.Au.swapR (Go.Au.gaussTo V k c) c p).getD c []) (2 * k))) c (2 * k) r).getD r []).getD c 0) ((Go.Au.elimAll ((Go.Au.swapR (Go.Au.gaussTo V k c) c p).set c (Go.Au.scaleTo (Go.Au.ginv (((Go.Au.swapR (Go.Au.gaussTo V k c) c p).getD c []).getD c 0)) ((Go.Au.swapR (Go.Au.gaussTo V k c) c p).getD c []) (2 * k))) c (2 * k) r).getD c []) ((Go.Au.elimAll ((Go.Au.swapR (Go.Au.gaussTo V k c) c p).set c (Go.Au.scaleTo (Go.Au.ginv (((Go.Au.swapR (Go.Au.gaussTo V k c) c p).getD c []).getD c 0)) ((Go.Au.swapR (Go.Au.gaussTo V k c) c p).getD c []) (2 * k))) c (2 * k) r).getD r []) (j + 1))) := (Go.Au.row_step (by have h := (hs219).1; rw [List.length_set] at h; omega) (fun l => l.set j (l.getD j 0 ^^^ Go.Au.gmul (((Go.Au.elimAll ((Go.Au.swapR (Go.Au.gaussTo V k c) c p).set c (Go.Au.scaleTo (Go.Au.ginv (((Go.Au.swapR (Go.Au.gaussTo V k c) c p).getD c []).getD c 0)) ((Go.Au.swapR (Go.Au.gaussTo V k c) c p).getD c []) (2 * k))) c (2 * k) r).getD r []).getD c 0) (((Go.Au.elimAll ((Go.Au.swapR (Go.Au.gaussTo V k c) c p).set c (Go.Au.scaleTo (Go.Au.ginv (((Go.Au.swapR (Go.Au.gaussTo V k c) c p).getD c []).getD c 0)) ((Go.Au.swapR (Go.Au.gaussTo V k c) c p).getD c []) (2 * k))) c (2 * k) r).getD c []).getD j 0))))
     rw [hD241] at S239 hs240
     refine T_nil ?_
     refine W_region ?_
     refine Ar ?_
     refine Pv ?_
     refine T_nil ?_
     exact ⟨(2 * k) - (j + 1), [(4, .int .i64 ((k : Nat) : Int)), (5, .slice (some ⟨g225, 0, none⟩) k c215), (8, .int .i64 (c : Int)), (12, .int .i64 (r : Int)), (13, bV (((Go.Au.elimAll ((Go.Au.swapR (Go.Au.gaussTo V k c) c p).set c (Go.Au.scaleTo (Go.Au.ginv (((Go.Au.swapR (Go.Au.gaussTo V k c) c p).getD c []).getD c 0)) ((Go.Au.swapR (Go.Au.gaussTo V k c) c p).getD c []) (2 * k))) c (2 * k) r).getD r []).getD c 0)), (51, .int .i64 (p : Int)), (54, .int .i64 (c : Int)), (56, bV (((Go.Au.gaussTo V k c).getD p []).getD c 0)), (57, .bool (decide (((((Go.Au.gaussTo V k c).getD p []).getD c 0).toNat : Int) = (0 : Int)))), (126, bV (((Go.Au.elimAll ((Go.Au.swapR (Go.Au.gaussTo V k c) c p).set c (Go.Au.scaleTo (Go.Au.ginv (((Go.Au.swapR (Go.Au.gaussTo V k c) c p).getD c []).getD c 0)) ((Go.Au.swapR (Go.Au.gaussTo V k c) c p).getD c []) (2 * k))) c (2 * k) r).getD r []).getD c 0)), (127, .bool (decide (((((Go.Au.elimAll ((Go.Au.swapR (Go.Au.gaussTo V k c) c p).set c (Go.Au.scaleTo (Go.Au.ginv (((Go.Au.swapR (Go.Au.gaussTo V k c) c p).getD c []).getD c 0)) ((Go.Au.swapR (Go.Au.gaussTo V k c) c p).getD c []) (2 * k))) c (2 * k) r).getD r []).getD c 0).toNat : Int) = (0 : Int)))), (133, .int .i64 (((2 * k) : Nat) : Int)), (134, .int .i64 ((j + 1 : Nat) : Int))], by omega, ⟨(congrArg (fun z => some (Value.int .i64 z)) (by omega)), rfl, (congrArg (fun z => some (Value.int .i64 z)) (by omega)), (congrArg (fun z => some (Value.int .i64 z)) (by omega)), rfl, (congrArg (fun z => some (Value.int .i64 z)) (by omega)), (congrArg (fun z => some (Value.int .i64 z)) (by omega)), rfl, rfl, rfl, rfl, (congrArg (fun z => some (Value.int .i64 z)) (by omega)), (congrArg (fun z => some (Value.int .i64 z)) (by omega)), trivial⟩, j + 1, (some ⟨g225, 0, none⟩), c215, vs216, G212, rfl, (by omega), rfl, hl213, S239, hc217, hv218, hs240⟩
    refine W_exit ?_
    refine W_region ?_
    refine Pv ?_
    refine Ar ?_
    refine Pv ?_
    refine T_nil ?_
    obtain rfl : 2 * k = j := by omega
    have S242 : St w H G212 (.row 24 1 (.slice a214 k c215) k vs216 :: (mrows 5 vs216 (Go.Au.elimAll ((Go.Au.swapR (Go.Au.gaussTo V k c) c p).set c (Go.Au.scaleTo (Go.Au.ginv (((Go.Au.swapR (Go.Au.gaussTo V k c) c p).getD c []).getD c 0)) ((Go.Au.swapR (Go.Au.gaussTo V k c) c p).getD c []) (2 * k))) c (2 * k) (r + 1)) ++ [])) w220 := by rw [show (Go.Au.elimAll ((Go.Au.swapR (Go.Au.gaussTo V k c) c p).set c (Go.Au.scaleTo (Go.Au.ginv (((Go.Au.swapR (Go.Au.gaussTo V k c) c p).getD c []).getD c 0)) ((Go.Au.swapR (Go.Au.gaussTo V k c) c p).getD c []) (2 * k))) c (2 * k) (r + 1)) = ((Go.Au.elimAll ((Go.Au.swapR (Go.Au.gaussTo V k c) c p).set c (Go.Au.scaleTo (Go.Au.ginv (((Go.Au.swapR (Go.Au.gaussTo V k c) c p).getD c []).getD c 0)) ((Go.Au.swapR (Go.Au.gaussTo V k c) c p).getD c []) (2 * k))) c (2 * k) r).set r (Go.Au.elimTo (((Go.Au.elimAll ((Go.Au.swapR (Go.Au.gaussTo V k c) c p).set c (Go.Au.scaleTo (Go.Au.ginv (((Go.Au.swapR (Go.Au.gaussTo V k c) c p).getD c []).getD c 0)) ((Go.Au.swapR (Go.Au.gaussTo V k c) c p).getD c []) (2 * k))) c (2 * k) r).getD r []).getD c 0) ((Go.Au.elimAll ((Go.Au.swapR (Go.Au.gaussTo V k c) c p).set c (Go.Au.scaleTo (Go.Au.ginv (((Go.Au.swapR (Go.Au.gaussTo V k c) c p).getD c []).getD c 0)) ((Go.Au.swapR (Go.Au.gaussTo V k c) c p).getD c []) (2 * k))) c (2 * k) r).getD c []) ((Go.Au.elimAll ((Go.Au.swapR (Go.Au.gaussTo V k c) c p).set c (Go.Au.scaleTo (Go.Au.ginv (((Go.Au.swapR (Go.Au.gaussTo V k c) c p).getD c []).getD c 0)) ((Go.Au.swapR (Go.Au.gaussTo V k c) c p).getD c []) (2 * k))) c (2 * k) r).getD r []) (2 * k))) from (Go.Au.elim_do (by omega) (fun e => hnz (by rw [show (((Go.Au.elimAll ((Go.Au.swapR (Go.Au.gaussTo V k c) c p).set c (Go.Au.scaleTo (Go.Au.ginv (((Go.Au.swapR (Go.Au.gaussTo V k c) c p).getD c []).getD c 0)) ((Go.Au.swapR (Go.Au.gaussTo V k c) c p).getD c []) (2 * k))) c (2 * k) r).getD r []).getD c 0) = 0 from e]; rfl)))]; exact S221
    have hs243 : MShape k (2 * k) (Go.Au.elimAll ((Go.Au.swapR (Go.Au.gaussTo V k c) c p).set c (Go.Au.scaleTo (Go.Au.ginv (((Go.Au.swapR (Go.Au.gaussTo V k c) c p).getD c []).getD c 0)) ((Go.Au.swapR (Go.Au.gaussTo V k c) c p).getD c []) (2 * k))) c (2 * k) (r + 1)) := by rw [show (Go.Au.elimAll ((Go.Au.swapR (Go.Au.gaussTo V k c) c p).set c (Go.Au.scaleTo (Go.Au.ginv (((Go.Au.swapR (Go.Au.gaussTo V k c) c p).getD c []).getD c 0)) ((Go.Au.swapR (Go.Au.gaussTo V k c) c p).getD c []) (2 * k))) c (2 * k) (r + 1)) = ((Go.Au.elimAll ((Go.Au.swapR (Go.Au.gaussTo V k c) c p).set c (Go.Au.scaleTo (Go.Au.ginv (((Go.Au.swapR (Go.Au.gaussTo V k c) c p).getD c []).getD c 0)) ((Go.Au.swapR (Go.Au.gaussTo V k c) c p).getD c []) (2 * k))) c (2 * k) r).set r (Go.Au.elimTo (((Go.Au.elimAll ((Go.Au.swapR (Go.Au.gaussTo V k c) c p).set c (Go.Au.scaleTo (Go.Au.ginv (((Go.Au.swapR (Go.Au.gaussTo V k c) c p).getD c []).getD c 0)) ((Go.Au.swapR (Go.Au.gaussTo V k c) c p).getD c []) (2 * k))) c (2 * k) r).getD r []).getD c 0) ((Go.Au.elimAll ((Go.Au.swapR (Go.Au.gaussTo V k c) c p).set c (Go.Au.scaleTo (Go.Au.ginv (((Go.Au.swapR (Go.Au.gaussTo V k c) c p).getD c []).getD c 0)) ((Go.Au.swapR (Go.Au.gaussTo V k c) c p).getD c []) (2 * k))) c (2 * k) r).getD c []) ((Go.Au.elimAll ((Go.Au.swapR (Go.Au.gaussTo V k c) c p).set c (Go.Au.scaleTo (Go.Au.ginv (((Go.Au.swapR (Go.Au.gaussTo V k c) c p).getD c []).getD c 0)) ((Go.Au.swapR (Go.Au.gaussTo V k c) c p).getD c []) (2 * k))) c (2 * k) r).getD r []) (2 * k))) from (Go.Au.elim_do (by omega) (fun e => hnz (by rw [show (((Go.Au.elimAll ((Go.Au.swapR (Go.Au.gaussTo V k c) c p).set c (Go.Au.scaleTo (Go.Au.ginv (((Go.Au.swapR (Go.Au.gaussTo V k c) c p).getD c []).getD c 0)) ((Go.Au.swapR (Go.Au.gaussTo V k c) c p).getD c []) (2 * k))) c (2 * k) r).getD r []).getD c 0) = 0 from e]; rfl)))]; exact hs219
    exact ⟨k - (r + 1), [(4, .int .i64 ((k : Nat) : Int)), (5, .slice a214 k c215), (8, .int .i64 (c : Int)), (12, .int .i64 ((r + 1 : Nat) : Int)), (51, .int .i64 (p : Int)), (54, .int .i64 (c : Int)), (56, bV (((Go.Au.gaussTo V k c).getD p []).getD c 0)), (57, .bool (decide (((((Go.Au.gaussTo V k c).getD p []).getD c 0).toNat : Int) = (0 : Int))))], by omega, ⟨(congrArg (fun z => some (Value.int .i64 z)) (by omega)), rfl, (congrArg (fun z => some (Value.int .i64 z)) (by omega)), (congrArg (fun z => some (Value.int .i64 z)) (by omega)), (congrArg (fun z => some (Value.int .i64 z)) (by omega)), (congrArg (fun z => some (Value.int .i64 z)) (by omega)), rfl, rfl, trivial⟩, r + 1, a214, c215, vs216, G212, rfl, (by omega), rfl, (hl180.trans hl213), S242, hc217, hv218, hs243⟩
   refine W_exit ?_
   refine W_region ?_
   refine Pv ?_
   refine Ar ?_
   refine Pv ?_
   refine T_nil ?_
   obtain rfl : k = r := by omega
   have S244 : St w H G179 (.row 24 1 (.slice a181 k c182) k vs183 :: (mrows 5 vs183 (Go.Au.gaussTo V k (c + 1)) ++ [])) w187 := by rw [show Go.Au.gaussTo V k (c + 1) = (Go.Au.elimAll ((Go.Au.swapR (Go.Au.gaussTo V k c) c p).set c (Go.Au.scaleTo (Go.Au.ginv (((Go.Au.swapR (Go.Au.gaussTo V k c) c p).getD c []).getD c 0)) ((Go.Au.swapR (Go.Au.gaussTo V k c) c p).getD c []) (2 * k))) c (2 * k) k) from (by show Go.Au.sweep _ _ _ _ _ = _; rw [hpv]; rfl)]; exact S188
   have hs245 : MShape k (2 * k) (Go.Au.gaussTo V k (c + 1)) := by rw [show Go.Au.gaussTo V k (c + 1) = (Go.Au.elimAll ((Go.Au.swapR (Go.Au.gaussTo V k c) c p).set c (Go.Au.scaleTo (Go.Au.ginv (((Go.Au.swapR (Go.Au.gaussTo V k c) c p).getD c []).getD c 0)) ((Go.Au.swapR (Go.Au.gaussTo V k c) c p).getD c []) (2 * k))) c (2 * k) k) from (by show Go.Au.sweep _ _ _ _ _ = _; rw [hpv]; rfl)]; exact hs186
   exact ⟨k - (c + 1), [(4, .int .i64 ((k : Nat) : Int)), (5, .slice a181 k c182), (8, .int .i64 ((c + 1 : Nat) : Int))], by omega, ⟨(congrArg (fun z => some (Value.int .i64 z)) (by omega)), rfl, (congrArg (fun z => some (Value.int .i64 z)) (by omega)), trivial⟩, c + 1, a181, c182, vs183, G179, rfl, (by omega), rfl, (hl76.trans (hl88.trans (hl148.trans hl180))), S244, hc184, hv185, hs245⟩
  have h100 := of_decide_eq_false h100'
  iterate 8 refine No ?_
  refine Pv ?_
  refine T_nil ?_
  refine W_cond_false rfl ?_
  refine W_exit ?_
  iterate 2 refine W_seq ?_
  have hpv : Go.Au.pivF (Go.Au.gaussTo V k c) c k (k - c) c = p := hq.trans (Go.Au.piv_end (fun h0 => by first | (exfalso; omega) | exact fun e => h100 (by rw [show ((Go.Au.gaussTo V k c).getD p []).getD c 0 = 0 from e]; rfl)) (by omega))
  have hlt := hp c (by omega)
  rw [hpv] at hlt
  refine W_region ?_
  iterate 3 refine Pv ?_
  refine T_nil ?_
  refine W_bool 63 false rfl (decide_eq_false (by omega)) ?_
  refine W_cond_false rfl ?_
  refine W_skip ?_
  refine W_seq ?_
  refine W_draw rfl (by kernel_rfl) ?_
  have S246 := S96.drew
  iterate 6 refine Pv ?_
  obtain ⟨g247, rfl⟩ := S246.rowAt 0 rfl (by omega)
  refine T_idxm (p * 1) rfl rfl rfl rfl rfl rfl rfl rfl (by omega) (by show 0 + Int.toNat _ * 1 = _; omega) ?_
  obtain ⟨g248, c249, hv250, hc251, hr252, hm253⟩ := S246.matCell hs94 hv93 (by omega) (show p < k by omega)
  refine T_load rfl rfl rfl rfl rfl rfl rfl (S246.rowCell 0 rfl (by rw [Nat.mul_one]; exact hv250)) ?_
  iterate 2 refine Pv ?_
  refine T_idxm (c * 1) rfl rfl rfl rfl rfl rfl rfl rfl (by omega) (by show 0 + Int.toNat _ * 1 = _; omega) ?_
  obtain ⟨g254, c255, hv256, hc257, hr258, hm259⟩ := S246.matCell hs94 hv93 (by omega) (show c < k by omega)
  refine T_load rfl rfl rfl rfl rfl rfl rfl (S246.rowCell 0 rfl (by rw [Nat.mul_one]; exact hv256)) ?_
  refine T_idxm (c * 1) rfl rfl rfl rfl rfl rfl rfl rfl (by omega) (by show 0 + Int.toNat _ * 1 = _; omega) ?_
  refine T_storeRow 0 (vs91.set c (.slice (some ⟨g248, 0, none⟩) (2 * k) c249)) S246 (fun _ _ => trivial) rfl rfl rfl rfl rfl rfl rfl rfl rfl (by show _ + 1 ≤ _ * 1; omega) (one_all rfl) (set_cells (by first | omega | (simp only [List.length_set]; omega)) rfl) fun w260 S261 => ?_
  refine T_idxm (p * 1) rfl rfl rfl rfl rfl rfl rfl rfl (by omega) (by show 0 + Int.toNat _ * 1 = _; omega) ?_
  refine T_storeRow 0 ((vs91.set c (.slice (some ⟨g248, 0, none⟩) (2 * k) c249)).set p (.slice (some ⟨g254, 0, none⟩) (2 * k) c255)) S261 (fun _ _ => trivial) rfl rfl rfl rfl rfl rfl rfl rfl rfl (by show _ + 1 ≤ _ * 1; omega) (one_all rfl) (set_cells (by first | omega | (simp only [List.length_set]; omega)) rfl) fun w262 S263 => ?_
  have S264 := S263.matSwap0 (its := []) hs94 hv93 (show c < k by omega) (show p < k by omega) hv256 hv250
  have hv265 : ((vs91.set c (.slice (some ⟨g248, 0, none⟩) (2 * k) c249)).set p (.slice (some ⟨g254, 0, none⟩) (2 * k) c255)).length = k := by rw [List.length_set, List.length_set]; exact hv93
  have hs266 := hs94.swap (show c < k by omega) (show p < k by omega)
  have hD267 : (((Go.Au.gaussTo V k c).set c ((Go.Au.gaussTo V k c).getD p [])).set p ((Go.Au.gaussTo V k c).getD c [])) = Go.Au.swapR (Go.Au.gaussTo V k c) c p := rfl
  rw [hD267] at S264 hs266
  refine T_nil ?_
  refine Wr ?_
  iterate 2 refine Pv ?_
  refine T_idxm (c * 1) rfl rfl rfl rfl rfl rfl rfl rfl (by omega) (by show 0 + Int.toNat _ * 1 = _; omega) ?_
  obtain ⟨g268, c269, hv270, hc271, hr272, hm273⟩ := S264.matCell hs266 hv265 (by omega) (show c < k by omega)
  refine T_load rfl rfl rfl rfl rfl rfl rfl (S264.rowCell 0 rfl (by rw [Nat.mul_one]; exact hv270)) ?_
  refine Pv ?_
  refine T_idxm (c * 1) rfl rfl rfl rfl rfl rfl rfl rfl (by omega) (by show 0 + Int.toNat _ * 1 = _; omega) ?_
  refine T_load rfl rfl rfl rfl rfl rfl rfl (S264.matAt hv270 hr272 hm273 (by omega)) ?_
  refine Cs g_aumbry_aumbryref04_Inv ((rinv_ok S264.le (((Go.Au.swapR (Go.Au.gaussTo V k c) c p).getD c []).getD c 0) ).mono ?_)
  rintro e w275 ⟨rfl, hB274⟩
  have S276 := S264.call hB274
  refine ⟨_, rfl, trivial, ?_⟩
  refine Pv ?_
  refine T_nil ?_
  refine W_seq ?_
  refine Wr ?_
  iterate 2 refine Pv ?_
  refine T_idxm (c * 1) rfl rfl rfl rfl rfl rfl rfl rfl (by omega) (by show 0 + Int.toNat _ * 1 = _; omega) ?_
  obtain ⟨g277, c278, hv279, hc280, hr281, hm282⟩ := S276.matCell hs266 hv265 (by omega) (show c < k by omega)
  refine T_load rfl rfl rfl rfl rfl rfl rfl (S276.rowCell 0 rfl (by rw [Nat.mul_one]; exact hv279)) ?_
  iterate 2 refine Pv ?_
  refine T_nil ?_
  refine W_block ?_
  have S283 : St w H G87 (.row 24 1 (.slice (some ⟨g247, 0, none⟩) k c90) k ((vs91.set c (.slice (some ⟨g248, 0, none⟩) (2 * k) c249)).set p (.slice (some ⟨g254, 0, none⟩) (2 * k) c255)) :: (mrows 5 ((vs91.set c (.slice (some ⟨g248, 0, none⟩) (2 * k) c249)).set p (.slice (some ⟨g254, 0, none⟩) (2 * k) c255)) ((Go.Au.swapR (Go.Au.gaussTo V k c) c p).set c (Go.Au.scaleTo (Go.Au.ginv (((Go.Au.swapR (Go.Au.gaussTo V k c) c p).getD c []).getD c 0)) ((Go.Au.swapR (Go.Au.gaussTo V k c) c p).getD c []) 0)) ++ [])) w275 := by rw [show ((Go.Au.swapR (Go.Au.gaussTo V k c) c p).set c (Go.Au.scaleTo (Go.Au.ginv (((Go.Au.swapR (Go.Au.gaussTo V k c) c p).getD c []).getD c 0)) ((Go.Au.swapR (Go.Au.gaussTo V k c) c p).getD c []) 0)) = Go.Au.swapR (Go.Au.gaussTo V k c) c p from (Go.Au.row_self (by rw [(hs266).1]; omega))]; exact S276
  have hs284 : MShape k (2 * k) ((Go.Au.swapR (Go.Au.gaussTo V k c) c p).set c (Go.Au.scaleTo (Go.Au.ginv (((Go.Au.swapR (Go.Au.gaussTo V k c) c p).getD c []).getD c 0)) ((Go.Au.swapR (Go.Au.gaussTo V k c) c p).getD c []) 0)) := by rw [show ((Go.Au.swapR (Go.Au.gaussTo V k c) c p).set c (Go.Au.scaleTo (Go.Au.ginv (((Go.Au.swapR (Go.Au.gaussTo V k c) c p).getD c []).getD c 0)) ((Go.Au.swapR (Go.Au.gaussTo V k c) c p).getD c []) 0)) = Go.Au.swapR (Go.Au.gaussTo V k c) c p from (Go.Au.row_self (by rw [(hs266).1]; omega))]; exact hs266
  refine W_loop (fun M ρ w' => ∃ (j : Nat) (a287 : Option Addr) (c288 : Nat) (vs289 : List Value) (G285 : Hp), M = (2 * k) - j ∧ j ≤ 2 * k ∧ ρ = [(4, .int .i64 ((k : Nat) : Int)), (5, .slice a287 k c288), (8, .int .i64 (c : Int)), (10, bV (Go.Au.ginv (((Go.Au.swapR (Go.Au.gaussTo V k c) c p).getD c []).getD c 0))), (50, undef), (51, undef), (52, undef), (53, undef), (54, undef), (55, undef), (56, undef), (57, undef), (90, .int .i64 (((2 * k) : Nat) : Int)), (91, .int .i64 (j : Int))] ∧ G87.le G285 ∧ St w H G285 (.row 24 1 (.slice a287 k c288) k vs289 :: (mrows 5 vs289 ((Go.Au.swapR (Go.Au.gaussTo V k c) c p).set c (Go.Au.scaleTo (Go.Au.ginv (((Go.Au.swapR (Go.Au.gaussTo V k c) c p).getD c []).getD c 0)) ((Go.Au.swapR (Go.Au.gaussTo V k c) c p).getD c []) j)) ++ [])) w' ∧ k ≤ c288 ∧ vs289.length = k ∧ MShape k (2 * k) ((Go.Au.swapR (Go.Au.gaussTo V k c) c p).set c (Go.Au.scaleTo (Go.Au.ginv (((Go.Au.swapR (Go.Au.gaussTo V k c) c p).getD c []).getD c 0)) ((Go.Au.swapR (Go.Au.gaussTo V k c) c p).getD c []) j)))
   ((2 * k) - 0) [(4, .int .i64 ((k : Nat) : Int)), (5, .slice (some ⟨g247, 0, none⟩) k c90), (8, .int .i64 (c : Int)), (10, bV (Go.Au.ginv (((Go.Au.swapR (Go.Au.gaussTo V k c) c p).getD c []).getD c 0))), (50, undef), (51, undef), (52, undef), (53, undef), (54, undef), (55, undef), (56, undef), (57, undef), (90, .int .i64 (((2 * k) : Nat) : Int)), (91, .int .i64 ((0 : Nat) : Int))] ⟨(congrArg (fun z => some (Value.int .i64 z)) (by omega)), rfl, (congrArg (fun z => some (Value.int .i64 z)) (by omega)), rfl, rfl, rfl, rfl, rfl, rfl, rfl, rfl, rfl, (congrArg (fun z => some (Value.int .i64 z)) (by omega)), (congrArg (fun z => some (Value.int .i64 z)) (by omega)), trivial⟩ ⟨0, (some ⟨g247, 0, none⟩), c90, ((vs91.set c (.slice (some ⟨g248, 0, none⟩) (2 * k) c249)).set p (.slice (some ⟨g254, 0, none⟩) (2 * k) c255)), G87, rfl, (by omega), rfl, Hp.le.refl _, S283, hc92, hv265, hs284⟩ ?_
  rintro M ρ w293 ⟨j, a287, c288, vs289, G285, rfl, hp295, rfl, hl286, S294, hc290, hv291, hs292⟩
  refine Wr ?_
  refine Pv ?_
  refine T_nil ?_
  refine W_seq ?_
  refine W_cond_dec rfl (fun h296 => ?_) (fun h296 => ?_)
  ·refine W_skip ?_
   refine W_seq ?_
   refine W_block ?_
   refine Wr ?_
   iterate 2 refine Pv ?_
   refine T_nil ?_
   refine W_plan (planF Tryz.prog G285 [107]) rfl (by kernel_rfl) S294.le ?_
   have S297 := S294.drew
   iterate 2 refine Pv ?_
   obtain ⟨g298, rfl⟩ := S297.rowAt 0 rfl (by omega)
   refine T_idxm (c * 1) rfl rfl rfl rfl rfl rfl rfl rfl (by omega) (by show 0 + Int.toNat _ * 1 = _; omega) ?_
   obtain ⟨g299, c300, hv301, hc302, hr303, hm304⟩ := S297.matCell hs292 hv291 (by omega) (show c < k by omega)
   refine T_load rfl rfl rfl rfl rfl rfl rfl (S297.rowCell 0 rfl (by rw [Nat.mul_one]; exact hv301)) ?_
   iterate 3 refine Pv ?_
   refine T_idxm (c * 1) rfl rfl rfl rfl rfl rfl rfl rfl (by omega) (by show 0 + Int.toNat _ * 1 = _; omega) ?_
   obtain ⟨g305, c306, hv307, hc308, hr309, hm310⟩ := S297.matCell hs292 hv291 (by omega) (show c < k by omega)
   refine T_load rfl rfl rfl rfl rfl rfl rfl (S297.rowCell 0 rfl (by rw [Nat.mul_one]; exact hv307)) ?_
   refine Pv ?_
   refine T_idxm (j * 1) rfl rfl rfl rfl rfl rfl rfl rfl (by omega) (by show 0 + Int.toNat _ * 1 = _; omega) ?_
   refine T_load rfl rfl rfl rfl rfl rfl rfl (S297.matAt hv307 hr309 hm310 (by omega)) ?_
   refine Pv ?_
   refine T_callQ rfl rfl g_aumbry_aumbryref04_Mul (by kernel_rfl) rfl rfl rfl rfl (fun u => rmul_ok (H := fun _ => none) (w := u) (fun _ _ h => by cases h) ((((Go.Au.swapR (Go.Au.gaussTo V k c) c p).set c (Go.Au.scaleTo (Go.Au.ginv (((Go.Au.swapR (Go.Au.gaussTo V k c) c p).getD c []).getD c 0)) ((Go.Au.swapR (Go.Au.gaussTo V k c) c p).getD c []) j)).getD c []).getD j 0) (Go.Au.ginv (((Go.Au.swapR (Go.Au.gaussTo V k c) c p).getD c []).getD c 0)) ) ?_
   refine T_idxm (j * 1) rfl rfl rfl rfl rfl rfl rfl rfl (by omega) (by show 0 + Int.toNat _ * 1 = _; omega) ?_
   refine T_matStore (u := (Go.Au.gmul ((((Go.Au.swapR (Go.Au.gaussTo V k c) c p).set c (Go.Au.scaleTo (Go.Au.ginv (((Go.Au.swapR (Go.Au.gaussTo V k c) c p).getD c []).getD c 0)) ((Go.Au.swapR (Go.Au.gaussTo V k c) c p).getD c []) j)).getD c []).getD j 0) (Go.Au.ginv (((Go.Au.swapR (Go.Au.gaussTo V k c) c p).getD c []).getD c 0)))) c j S297 (fun _ h => ((Hp.le.refl _)).trans h) hv301 hr303 hm304 (by omega) rfl rfl rfl rfl rfl rfl rfl rfl rfl fun w311 S312 => ?_
   have hs313 := MShape.set (r := c) (l := (((Go.Au.swapR (Go.Au.gaussTo V k c) c p).set c (Go.Au.scaleTo (Go.Au.ginv (((Go.Au.swapR (Go.Au.gaussTo V k c) c p).getD c []).getD c 0)) ((Go.Au.swapR (Go.Au.gaussTo V k c) c p).getD c []) j)).getD c []).set j (Go.Au.gmul ((((Go.Au.swapR (Go.Au.gaussTo V k c) c p).set c (Go.Au.scaleTo (Go.Au.ginv (((Go.Au.swapR (Go.Au.gaussTo V k c) c p).getD c []).getD c 0)) ((Go.Au.swapR (Go.Au.gaussTo V k c) c p).getD c []) j)).getD c []).getD j 0) (Go.Au.ginv (((Go.Au.swapR (Go.Au.gaussTo V k c) c p).getD c []).getD c 0)))) hs292 (by rw [List.length_set]; exact hm304)
   have hD314 : (((Go.Au.swapR (Go.Au.gaussTo V k c) c p).set c (Go.Au.scaleTo (Go.Au.ginv (((Go.Au.swapR (Go.Au.gaussTo V k c) c p).getD c []).getD c 0)) ((Go.Au.swapR (Go.Au.gaussTo V k c) c p).getD c []) j)).set c ((((Go.Au.swapR (Go.Au.gaussTo V k c) c p).set c (Go.Au.scaleTo (Go.Au.ginv (((Go.Au.swapR (Go.Au.gaussTo V k c) c p).getD c []).getD c 0)) ((Go.Au.swapR (Go.Au.gaussTo V k c) c p).getD c []) j)).getD c []).set j (Go.Au.gmul ((((Go.Au.swapR (Go.Au.gaussTo V k c) c p).set c (Go.Au.scaleTo (Go.Au.ginv (((Go.Au.swapR (Go.Au.gaussTo V k c) c p).getD c []).getD c 0)) ((Go.Au.swapR (Go.Au.gaussTo V k c) c p).getD c []) j)).getD c []).getD j 0) (Go.Au.ginv (((Go.Au.swapR (Go.Au.gaussTo V k c) c p).getD c []).getD c 0))))) = ((Go.Au.swapR (Go.Au.gaussTo V k c) c p).set c (Go.Au.scaleTo (Go.Au.ginv (((Go.Au.swapR (Go.Au.gaussTo V k c) c p).getD c []).getD c 0)) ((Go.Au.swapR (Go.Au.gaussTo V k c) c p).getD c []) (j + 1))) := (Go.Au.row_step (by have h := (hs292).1; rw [List.length_set] at h; omega) (fun l => l.set j (Go.Au.gmul (l.getD j 0) (Go.Au.ginv (((Go.Au.swapR (Go.Au.gaussTo V k c) c p).getD c []).getD c 0)))))
   rw [hD314] at S312 hs313
   refine T_nil ?_
   refine W_region ?_
   refine Ar ?_
   refine Pv ?_
   refine T_nil ?_
   exact ⟨(2 * k) - (j + 1), [(4, .int .i64 ((k : Nat) : Int)), (5, .slice (some ⟨g298, 0, none⟩) k c288), (8, .int .i64 (c : Int)), (10, bV (Go.Au.ginv (((Go.Au.swapR (Go.Au.gaussTo V k c) c p).getD c []).getD c 0))), (50, undef), (51, undef), (52, undef), (53, undef), (54, undef), (55, undef), (56, undef), (57, undef), (90, .int .i64 (((2 * k) : Nat) : Int)), (91, .int .i64 ((j + 1 : Nat) : Int))], by omega, ⟨(congrArg (fun z => some (Value.int .i64 z)) (by omega)), rfl, (congrArg (fun z => some (Value.int .i64 z)) (by omega)), rfl, rfl, rfl, rfl, rfl, rfl, rfl, rfl, rfl, (congrArg (fun z => some (Value.int .i64 z)) (by omega)), (congrArg (fun z => some (Value.int .i64 z)) (by omega)), trivial⟩, j + 1, (some ⟨g298, 0, none⟩), c288, vs289, G285, rfl, (by omega), rfl, hl286, S312, hc290, hv291, hs313⟩
  refine W_exit ?_
  refine Wr ?_
  refine Pv ?_
  refine T_nil ?_
  refine W_block ?_
  obtain rfl : 2 * k = j := by omega
  have S315 : St w H G285 (.row 24 1 (.slice a287 k c288) k vs289 :: (mrows 5 vs289 (Go.Au.elimAll ((Go.Au.swapR (Go.Au.gaussTo V k c) c p).set c (Go.Au.scaleTo (Go.Au.ginv (((Go.Au.swapR (Go.Au.gaussTo V k c) c p).getD c []).getD c 0)) ((Go.Au.swapR (Go.Au.gaussTo V k c) c p).getD c []) (2 * k))) c (2 * k) 0) ++ [])) w293 := by rw [show (Go.Au.elimAll ((Go.Au.swapR (Go.Au.gaussTo V k c) c p).set c (Go.Au.scaleTo (Go.Au.ginv (((Go.Au.swapR (Go.Au.gaussTo V k c) c p).getD c []).getD c 0)) ((Go.Au.swapR (Go.Au.gaussTo V k c) c p).getD c []) (2 * k))) c (2 * k) 0) = ((Go.Au.swapR (Go.Au.gaussTo V k c) c p).set c (Go.Au.scaleTo (Go.Au.ginv (((Go.Au.swapR (Go.Au.gaussTo V k c) c p).getD c []).getD c 0)) ((Go.Au.swapR (Go.Au.gaussTo V k c) c p).getD c []) (2 * k))) from rfl]; exact S294
  have hs316 : MShape k (2 * k) (Go.Au.elimAll ((Go.Au.swapR (Go.Au.gaussTo V k c) c p).set c (Go.Au.scaleTo (Go.Au.ginv (((Go.Au.swapR (Go.Au.gaussTo V k c) c p).getD c []).getD c 0)) ((Go.Au.swapR (Go.Au.gaussTo V k c) c p).getD c []) (2 * k))) c (2 * k) 0) := by rw [show (Go.Au.elimAll ((Go.Au.swapR (Go.Au.gaussTo V k c) c p).set c (Go.Au.scaleTo (Go.Au.ginv (((Go.Au.swapR (Go.Au.gaussTo V k c) c p).getD c []).getD c 0)) ((Go.Au.swapR (Go.Au.gaussTo V k c) c p).getD c []) (2 * k))) c (2 * k) 0) = ((Go.Au.swapR (Go.Au.gaussTo V k c) c p).set c (Go.Au.scaleTo (Go.Au.ginv (((Go.Au.swapR (Go.Au.gaussTo V k c) c p).getD c []).getD c 0)) ((Go.Au.swapR (Go.Au.gaussTo V k c) c p).getD c []) (2 * k))) from rfl]; exact hs292
  refine W_loop (fun M ρ w' => ∃ (r : Nat) (a319 : Option Addr) (c320 : Nat) (vs321 : List Value) (G317 : Hp), M = k - r ∧ r ≤ k ∧ ρ = [(4, .int .i64 ((k : Nat) : Int)), (5, .slice a319 k c320), (8, .int .i64 (c : Int)), (12, .int .i64 (r : Int)), (50, undef), (51, undef), (52, undef), (53, undef), (54, undef), (55, undef), (56, undef), (57, undef)] ∧ G285.le G317 ∧ St w H G317 (.row 24 1 (.slice a319 k c320) k vs321 :: (mrows 5 vs321 (Go.Au.elimAll ((Go.Au.swapR (Go.Au.gaussTo V k c) c p).set c (Go.Au.scaleTo (Go.Au.ginv (((Go.Au.swapR (Go.Au.gaussTo V k c) c p).getD c []).getD c 0)) ((Go.Au.swapR (Go.Au.gaussTo V k c) c p).getD c []) (2 * k))) c (2 * k) r) ++ [])) w' ∧ k ≤ c320 ∧ vs321.length = k ∧ MShape k (2 * k) (Go.Au.elimAll ((Go.Au.swapR (Go.Au.gaussTo V k c) c p).set c (Go.Au.scaleTo (Go.Au.ginv (((Go.Au.swapR (Go.Au.gaussTo V k c) c p).getD c []).getD c 0)) ((Go.Au.swapR (Go.Au.gaussTo V k c) c p).getD c []) (2 * k))) c (2 * k) r))
   (k - 0) [(4, .int .i64 ((k : Nat) : Int)), (5, .slice a287 k c288), (8, .int .i64 (c : Int)), (12, .int .i64 ((0 : Nat) : Int)), (50, undef), (51, undef), (52, undef), (53, undef), (54, undef), (55, undef), (56, undef), (57, undef)] ⟨(congrArg (fun z => some (Value.int .i64 z)) (by omega)), rfl, (congrArg (fun z => some (Value.int .i64 z)) (by omega)), (congrArg (fun z => some (Value.int .i64 z)) (by omega)), rfl, rfl, rfl, rfl, rfl, rfl, rfl, rfl, trivial⟩ ⟨0, a287, c288, vs289, G285, rfl, (by omega), rfl, Hp.le.refl _, S315, hc290, hv291, hs316⟩ ?_
  rintro M ρ w325 ⟨r, a319, c320, vs321, G317, rfl, hp327, rfl, hl318, S326, hc322, hv323, hs324⟩
  refine W_seq ?_
  refine Wr ?_
  iterate 3 refine Pv ?_
  refine T_nil ?_
  refine W_cond_dec rfl (fun h328 => ?_) (fun h328 => ?_)
  ·refine W_skip ?_
   refine W_seq ?_
   refine W_block ?_
   refine Wr ?_
   iterate 2 refine Pv ?_
   obtain ⟨g329, rfl⟩ := S326.rowAt 0 rfl (by omega)
   refine T_idxm (r * 1) rfl rfl rfl rfl rfl rfl rfl rfl (by omega) (by show 0 + Int.toNat _ * 1 = _; omega) ?_
   obtain ⟨g330, c331, hv332, hc333, hr334, hm335⟩ := S326.matCell hs324 hv323 (by omega) (show r < k by omega)
   refine T_load rfl rfl rfl rfl rfl rfl rfl (S326.rowCell 0 rfl (by rw [Nat.mul_one]; exact hv332)) ?_
   refine Pv ?_
   refine T_idxm (c * 1) rfl rfl rfl rfl rfl rfl rfl rfl (by omega) (by show 0 + Int.toNat _ * 1 = _; omega) ?_
   refine T_load rfl rfl rfl rfl rfl rfl rfl (S326.matAt hv332 hr334 hm335 (by omega)) ?_
   refine Pv ?_
   refine T_nil ?_
   refine W_seq ?_
   refine Wr ?_
   iterate 4 refine Pv ?_
   refine T_part (t := 125) rfl (List.cons_ne_nil _ _) (fun h336' => ?_) (fun h336' => ?_)
   ·have h336 := of_decide_eq_true h336'
    iterate 2 refine No ?_
    refine Pv ?_
    refine T_nil ?_
    refine W_cond_true rfl ?_
    refine W_exit ?_
    refine W_region ?_
    refine Pv ?_
    refine Ar ?_
    refine Pv ?_
    refine T_nil ?_
    have S337 : St w H G317 (.row 24 1 (.slice (some ⟨g329, 0, none⟩) k c320) k vs321 :: (mrows 5 vs321 (Go.Au.elimAll ((Go.Au.swapR (Go.Au.gaussTo V k c) c p).set c (Go.Au.scaleTo (Go.Au.ginv (((Go.Au.swapR (Go.Au.gaussTo V k c) c p).getD c []).getD c 0)) ((Go.Au.swapR (Go.Au.gaussTo V k c) c p).getD c []) (2 * k))) c (2 * k) (r + 1)) ++ [])) w325 := by rw [show (Go.Au.elimAll ((Go.Au.swapR (Go.Au.gaussTo V k c) c p).set c (Go.Au.scaleTo (Go.Au.ginv (((Go.Au.swapR (Go.Au.gaussTo V k c) c p).getD c []).getD c 0)) ((Go.Au.swapR (Go.Au.gaussTo V k c) c p).getD c []) (2 * k))) c (2 * k) (r + 1)) = (Go.Au.elimAll ((Go.Au.swapR (Go.Au.gaussTo V k c) c p).set c (Go.Au.scaleTo (Go.Au.ginv (((Go.Au.swapR (Go.Au.gaussTo V k c) c p).getD c []).getD c 0)) ((Go.Au.swapR (Go.Au.gaussTo V k c) c p).getD c []) (2 * k))) c (2 * k) r) from (Go.Au.elim_skip (by first | (left; omega) | exact Or.inr (Go.Au.u8_zero h336)))]; exact S326
    have hs338 : MShape k (2 * k) (Go.Au.elimAll ((Go.Au.swapR (Go.Au.gaussTo V k c) c p).set c (Go.Au.scaleTo (Go.Au.ginv (((Go.Au.swapR (Go.Au.gaussTo V k c) c p).getD c []).getD c 0)) ((Go.Au.swapR (Go.Au.gaussTo V k c) c p).getD c []) (2 * k))) c (2 * k) (r + 1)) := by rw [show (Go.Au.elimAll ((Go.Au.swapR (Go.Au.gaussTo V k c) c p).set c (Go.Au.scaleTo (Go.Au.ginv (((Go.Au.swapR (Go.Au.gaussTo V k c) c p).getD c []).getD c 0)) ((Go.Au.swapR (Go.Au.gaussTo V k c) c p).getD c []) (2 * k))) c (2 * k) (r + 1)) = (Go.Au.elimAll ((Go.Au.swapR (Go.Au.gaussTo V k c) c p).set c (Go.Au.scaleTo (Go.Au.ginv (((Go.Au.swapR (Go.Au.gaussTo V k c) c p).getD c []).getD c 0)) ((Go.Au.swapR (Go.Au.gaussTo V k c) c p).getD c []) (2 * k))) c (2 * k) r) from (Go.Au.elim_skip (by first | (left; omega) | exact Or.inr (Go.Au.u8_zero h336)))]; exact hs324
    exact ⟨k - (r + 1), [(4, .int .i64 ((k : Nat) : Int)), (5, .slice (some ⟨g329, 0, none⟩) k c320), (8, .int .i64 (c : Int)), (12, .int .i64 ((r + 1 : Nat) : Int)), (50, undef), (51, undef), (52, undef), (53, undef), (54, undef), (55, undef), (56, undef), (57, undef)], by omega, ⟨(congrArg (fun z => some (Value.int .i64 z)) (by omega)), rfl, (congrArg (fun z => some (Value.int .i64 z)) (by omega)), (congrArg (fun z => some (Value.int .i64 z)) (by omega)), rfl, rfl, rfl, rfl, rfl, rfl, rfl, rfl, trivial⟩, r + 1, (some ⟨g329, 0, none⟩), c320, vs321, G317, rfl, (by omega), rfl, hl318, S337, hc322, hv323, hs338⟩
   have h336 := of_decide_eq_false h336'
   iterate 2 (refine Ys ?_; refine Pv ?_)
   refine Pv ?_
   refine T_nil ?_
   refine W_cond_dec rfl (fun h339 => ?_) (fun h339 => ?_)
   ·refine W_exit ?_
    refine W_region ?_
    refine Pv ?_
    refine Ar ?_
    refine Pv ?_
    refine T_nil ?_
    have S340 : St w H G317 (.row 24 1 (.slice (some ⟨g329, 0, none⟩) k c320) k vs321 :: (mrows 5 vs321 (Go.Au.elimAll ((Go.Au.swapR (Go.Au.gaussTo V k c) c p).set c (Go.Au.scaleTo (Go.Au.ginv (((Go.Au.swapR (Go.Au.gaussTo V k c) c p).getD c []).getD c 0)) ((Go.Au.swapR (Go.Au.gaussTo V k c) c p).getD c []) (2 * k))) c (2 * k) (r + 1)) ++ [])) w325 := by rw [show (Go.Au.elimAll ((Go.Au.swapR (Go.Au.gaussTo V k c) c p).set c (Go.Au.scaleTo (Go.Au.ginv (((Go.Au.swapR (Go.Au.gaussTo V k c) c p).getD c []).getD c 0)) ((Go.Au.swapR (Go.Au.gaussTo V k c) c p).getD c []) (2 * k))) c (2 * k) (r + 1)) = (Go.Au.elimAll ((Go.Au.swapR (Go.Au.gaussTo V k c) c p).set c (Go.Au.scaleTo (Go.Au.ginv (((Go.Au.swapR (Go.Au.gaussTo V k c) c p).getD c []).getD c 0)) ((Go.Au.swapR (Go.Au.gaussTo V k c) c p).getD c []) (2 * k))) c (2 * k) r) from (Go.Au.elim_skip (by first | (left; omega) | exact Or.inr (Go.Au.u8_zero h339)))]; exact S326
    have hs341 : MShape k (2 * k) (Go.Au.elimAll ((Go.Au.swapR (Go.Au.gaussTo V k c) c p).set c (Go.Au.scaleTo (Go.Au.ginv (((Go.Au.swapR (Go.Au.gaussTo V k c) c p).getD c []).getD c 0)) ((Go.Au.swapR (Go.Au.gaussTo V k c) c p).getD c []) (2 * k))) c (2 * k) (r + 1)) := by rw [show (Go.Au.elimAll ((Go.Au.swapR (Go.Au.gaussTo V k c) c p).set c (Go.Au.scaleTo (Go.Au.ginv (((Go.Au.swapR (Go.Au.gaussTo V k c) c p).getD c []).getD c 0)) ((Go.Au.swapR (Go.Au.gaussTo V k c) c p).getD c []) (2 * k))) c (2 * k) (r + 1)) = (Go.Au.elimAll ((Go.Au.swapR (Go.Au.gaussTo V k c) c p).set c (Go.Au.scaleTo (Go.Au.ginv (((Go.Au.swapR (Go.Au.gaussTo V k c) c p).getD c []).getD c 0)) ((Go.Au.swapR (Go.Au.gaussTo V k c) c p).getD c []) (2 * k))) c (2 * k) r) from (Go.Au.elim_skip (by first | (left; omega) | exact Or.inr (Go.Au.u8_zero h339)))]; exact hs324
    exact ⟨k - (r + 1), [(4, .int .i64 ((k : Nat) : Int)), (5, .slice (some ⟨g329, 0, none⟩) k c320), (8, .int .i64 (c : Int)), (12, .int .i64 ((r + 1 : Nat) : Int)), (50, undef), (51, undef), (52, undef), (53, undef), (54, undef), (55, undef), (56, undef), (57, undef)], by omega, ⟨(congrArg (fun z => some (Value.int .i64 z)) (by omega)), rfl, (congrArg (fun z => some (Value.int .i64 z)) (by omega)), (congrArg (fun z => some (Value.int .i64 z)) (by omega)), rfl, rfl, rfl, rfl, rfl, rfl, rfl, rfl, trivial⟩, r + 1, (some ⟨g329, 0, none⟩), c320, vs321, G317, rfl, (by omega), rfl, hl318, S340, hc322, hv323, hs341⟩
   refine W_skip ?_
   refine Wr ?_
   iterate 2 refine Pv ?_
   refine T_idxm (r * 1) rfl rfl rfl rfl rfl rfl rfl rfl (by omega) (by show 0 + Int.toNat _ * 1 = _; omega) ?_
   obtain ⟨g342, c343, hv344, hc345, hr346, hm347⟩ := S326.matCell hs324 hv323 (by omega) (show r < k by omega)
   refine T_load rfl rfl rfl rfl rfl rfl rfl (S326.rowCell 0 rfl (by rw [Nat.mul_one]; exact hv344)) ?_
   iterate 2 refine Pv ?_
   refine T_nil ?_
   refine W_block ?_
   have hnz := h339
   have S348 : St w H G317 (.row 24 1 (.slice (some ⟨g329, 0, none⟩) k c320) k vs321 :: (mrows 5 vs321 ((Go.Au.elimAll ((Go.Au.swapR (Go.Au.gaussTo V k c) c p).set c (Go.Au.scaleTo (Go.Au.ginv (((Go.Au.swapR (Go.Au.gaussTo V k c) c p).getD c []).getD c 0)) ((Go.Au.swapR (Go.Au.gaussTo V k c) c p).getD c []) (2 * k))) c (2 * k) r).set r (Go.Au.elimTo (((Go.Au.elimAll ((Go.Au.swapR (Go.Au.gaussTo V k c) c p).set c (Go.Au.scaleTo (Go.Au.ginv (((Go.Au.swapR (Go.Au.gaussTo V k c) c p).getD c []).getD c 0)) ((Go.Au.swapR (Go.Au.gaussTo V k c) c p).getD c []) (2 * k))) c (2 * k) r).getD r []).getD c 0) ((Go.Au.elimAll ((Go.Au.swapR (Go.Au.gaussTo V k c) c p).set c (Go.Au.scaleTo (Go.Au.ginv (((Go.Au.swapR (Go.Au.gaussTo V k c) c p).getD c []).getD c 0)) ((Go.Au.swapR (Go.Au.gaussTo V k c) c p).getD c []) (2 * k))) c (2 * k) r).getD c []) ((Go.Au.elimAll ((Go.Au.swapR (Go.Au.gaussTo V k c) c p).set c (Go.Au.scaleTo (Go.Au.ginv (((Go.Au.swapR (Go.Au.gaussTo V k c) c p).getD c []).getD c 0)) ((Go.Au.swapR (Go.Au.gaussTo V k c) c p).getD c []) (2 * k))) c (2 * k) r).getD r []) 0)) ++ [])) w325 := by rw [show ((Go.Au.elimAll ((Go.Au.swapR (Go.Au.gaussTo V k c) c p).set c (Go.Au.scaleTo (Go.Au.ginv (((Go.Au.swapR (Go.Au.gaussTo V k c) c p).getD c []).getD c 0)) ((Go.Au.swapR (Go.Au.gaussTo V k c) c p).getD c []) (2 * k))) c (2 * k) r).set r (Go.Au.elimTo (((Go.Au.elimAll ((Go.Au.swapR (Go.Au.gaussTo V k c) c p).set c (Go.Au.scaleTo (Go.Au.ginv (((Go.Au.swapR (Go.Au.gaussTo V k c) c p).getD c []).getD c 0)) ((Go.Au.swapR (Go.Au.gaussTo V k c) c p).getD c []) (2 * k))) c (2 * k) r).getD r []).getD c 0) ((Go.Au.elimAll ((Go.Au.swapR (Go.Au.gaussTo V k c) c p).set c (Go.Au.scaleTo (Go.Au.ginv (((Go.Au.swapR (Go.Au.gaussTo V k c) c p).getD c []).getD c 0)) ((Go.Au.swapR (Go.Au.gaussTo V k c) c p).getD c []) (2 * k))) c (2 * k) r).getD c []) ((Go.Au.elimAll ((Go.Au.swapR (Go.Au.gaussTo V k c) c p).set c (Go.Au.scaleTo (Go.Au.ginv (((Go.Au.swapR (Go.Au.gaussTo V k c) c p).getD c []).getD c 0)) ((Go.Au.swapR (Go.Au.gaussTo V k c) c p).getD c []) (2 * k))) c (2 * k) r).getD r []) 0)) = (Go.Au.elimAll ((Go.Au.swapR (Go.Au.gaussTo V k c) c p).set c (Go.Au.scaleTo (Go.Au.ginv (((Go.Au.swapR (Go.Au.gaussTo V k c) c p).getD c []).getD c 0)) ((Go.Au.swapR (Go.Au.gaussTo V k c) c p).getD c []) (2 * k))) c (2 * k) r) from (Go.Au.row_self (by rw [(hs324).1]; omega))]; exact S326
   have hs349 : MShape k (2 * k) ((Go.Au.elimAll ((Go.Au.swapR (Go.Au.gaussTo V k c) c p).set c (Go.Au.scaleTo (Go.Au.ginv (((Go.Au.swapR (Go.Au.gaussTo V k c) c p).getD c []).getD c 0)) ((Go.Au.swapR (Go.Au.gaussTo V k c) c p).getD c []) (2 * k))) c (2 * k) r).set r (Go.Au.elimTo (((Go.Au.elimAll ((Go.Au.swapR (Go.Au.gaussTo V k c) c p).set c (Go.Au.scaleTo (Go.Au.ginv (((Go.Au.swapR (Go.Au.gaussTo V k c) c p).getD c []).getD c 0)) ((Go.Au.swapR (Go.Au.gaussTo V k c) c p).getD c []) (2 * k))) c (2 * k) r).getD r []).getD c 0) ((Go.Au.elimAll ((Go.Au.swapR (Go.Au.gaussTo V k c) c p).set c (Go.Au.scaleTo (Go.Au.ginv (((Go.Au.swapR (Go.Au.gaussTo V k c) c p).getD c []).getD c 0)) ((Go.Au.swapR (Go.Au.gaussTo V k c) c p).getD c []) (2 * k))) c (2 * k) r).getD c []) ((Go.Au.elimAll ((Go.Au.swapR (Go.Au.gaussTo V k c) c p).set c (Go.Au.scaleTo (Go.Au.ginv (((Go.Au.swapR (Go.Au.gaussTo V k c) c p).getD c []).getD c 0)) ((Go.Au.swapR (Go.Au.gaussTo V k c) c p).getD c []) (2 * k))) c (2 * k) r).getD r []) 0)) := by rw [show ((Go.Au.elimAll ((Go.Au.swapR (Go.Au.gaussTo V k c) c p).set c (Go.Au.scaleTo (Go.Au.ginv (((Go.Au.swapR (Go.Au.gaussTo V k c) c p).getD c []).getD c 0)) ((Go.Au.swapR (Go.Au.gaussTo V k c) c p).getD c []) (2 * k))) c (2 * k) r).set r (Go.Au.elimTo (((Go.Au.elimAll ((Go.Au.swapR (Go.Au.gaussTo V k c) c p).set c (Go.Au.scaleTo (Go.Au.ginv (((Go.Au.swapR (Go.Au.gaussTo V k c) c p).getD c []).getD c 0)) ((Go.Au.swapR (Go.Au.gaussTo V k c) c p).getD c []) (2 * k))) c (2 * k) r).getD r []).getD c 0) ((Go.Au.elimAll ((Go.Au.swapR (Go.Au.gaussTo V k c) c p).set c (Go.Au.scaleTo (Go.Au.ginv (((Go.Au.swapR (Go.Au.gaussTo V k c) c p).getD c []).getD c 0)) ((Go.Au.swapR (Go.Au.gaussTo V k c) c p).getD c []) (2 * k))) c (2 * k) r).getD c []) ((Go.Au.elimAll ((Go.Au.swapR (Go.Au.gaussTo V k c) c p).set c (Go.Au.scaleTo (Go.Au.ginv (((Go.Au.swapR (Go.Au.gaussTo V k c) c p).getD c []).getD c 0)) ((Go.Au.swapR (Go.Au.gaussTo V k c) c p).getD c []) (2 * k))) c (2 * k) r).getD r []) 0)) = (Go.Au.elimAll ((Go.Au.swapR (Go.Au.gaussTo V k c) c p).set c (Go.Au.scaleTo (Go.Au.ginv (((Go.Au.swapR (Go.Au.gaussTo V k c) c p).getD c []).getD c 0)) ((Go.Au.swapR (Go.Au.gaussTo V k c) c p).getD c []) (2 * k))) c (2 * k) r) from (Go.Au.row_self (by rw [(hs324).1]; omega))]; exact hs324
   refine W_loop (fun M ρ w' => ∃ (j : Nat) (a352 : Option Addr) (c353 : Nat) (vs354 : List Value) (G350 : Hp), M = (2 * k) - j ∧ j ≤ 2 * k ∧ ρ = [(4, .int .i64 ((k : Nat) : Int)), (5, .slice a352 k c353), (8, .int .i64 (c : Int)), (12, .int .i64 (r : Int)), (13, bV (((Go.Au.elimAll ((Go.Au.swapR (Go.Au.gaussTo V k c) c p).set c (Go.Au.scaleTo (Go.Au.ginv (((Go.Au.swapR (Go.Au.gaussTo V k c) c p).getD c []).getD c 0)) ((Go.Au.swapR (Go.Au.gaussTo V k c) c p).getD c []) (2 * k))) c (2 * k) r).getD r []).getD c 0)), (50, undef), (51, undef), (52, undef), (53, undef), (54, undef), (55, undef), (56, undef), (57, undef), (126, bV (((Go.Au.elimAll ((Go.Au.swapR (Go.Au.gaussTo V k c) c p).set c (Go.Au.scaleTo (Go.Au.ginv (((Go.Au.swapR (Go.Au.gaussTo V k c) c p).getD c []).getD c 0)) ((Go.Au.swapR (Go.Au.gaussTo V k c) c p).getD c []) (2 * k))) c (2 * k) r).getD r []).getD c 0)), (127, .bool (decide (((((Go.Au.elimAll ((Go.Au.swapR (Go.Au.gaussTo V k c) c p).set c (Go.Au.scaleTo (Go.Au.ginv (((Go.Au.swapR (Go.Au.gaussTo V k c) c p).getD c []).getD c 0)) ((Go.Au.swapR (Go.Au.gaussTo V k c) c p).getD c []) (2 * k))) c (2 * k) r).getD r []).getD c 0).toNat : Int) = (0 : Int)))), (133, .int .i64 (((2 * k) : Nat) : Int)), (134, .int .i64 (j : Int))] ∧ G317.le G350 ∧ St w H G350 (.row 24 1 (.slice a352 k c353) k vs354 :: (mrows 5 vs354 ((Go.Au.elimAll ((Go.Au.swapR (Go.Au.gaussTo V k c) c p).set c (Go.Au.scaleTo (Go.Au.ginv (((Go.Au.swapR (Go.Au.gaussTo V k c) c p).getD c []).getD c 0)) ((Go.Au.swapR (Go.Au.gaussTo V k c) c p).getD c []) (2 * k))) c (2 * k) r).set r (Go.Au.elimTo (((Go.Au.elimAll ((Go.Au.swapR (Go.Au.gaussTo V k c) c p).set c (Go.Au.scaleTo (Go.Au.ginv (((Go.Au.swapR (Go.Au.gaussTo V k c) c p).getD c []).getD c 0)) ((Go.Au.swapR (Go.Au.gaussTo V k c) c p).getD c []) (2 * k))) c (2 * k) r).getD r []).getD c 0) ((Go.Au.elimAll ((Go.Au.swapR (Go.Au.gaussTo V k c) c p).set c (Go.Au.scaleTo (Go.Au.ginv (((Go.Au.swapR (Go.Au.gaussTo V k c) c p).getD c []).getD c 0)) ((Go.Au.swapR (Go.Au.gaussTo V k c) c p).getD c []) (2 * k))) c (2 * k) r).getD c []) ((Go.Au.elimAll ((Go.Au.swapR (Go.Au.gaussTo V k c) c p).set c (Go.Au.scaleTo (Go.Au.ginv (((Go.Au.swapR (Go.Au.gaussTo V k c) c p).getD c []).getD c 0)) ((Go.Au.swapR (Go.Au.gaussTo V k c) c p).getD c []) (2 * k))) c (2 * k) r).getD r []) j)) ++ [])) w' ∧ k ≤ c353 ∧ vs354.length = k ∧ MShape k (2 * k) ((Go.Au.elimAll ((Go.Au.swapR (Go.Au.gaussTo V k c) c p).set c (Go.Au.scaleTo (Go.Au.ginv (((Go.Au.swapR (Go.Au.gaussTo V k c) c p).getD c []).getD c 0)) ((Go.Au.swapR (Go.Au.gaussTo V k c) c p).getD c []) (2 * k))) c (2 * k) r).set r (Go.Au.elimTo (((Go.Au.elimAll ((Go.Au.swapR (Go.Au.gaussTo V k c) c p).set c (Go.Au.scaleTo (Go.Au.ginv (((Go.Au.swapR (Go.Au.gaussTo V k c) c p).getD c []).getD c 0)) ((Go.Au.swapR (Go.Au.gaussTo V k c) c p).getD c []) (2 * k))) c (2 * k) r).getD r []).getD c 0) ((Go.Au.elimAll ((Go.Au.swapR (Go.Au.gaussTo V k c) c p).set c (Go.Au.scaleTo (Go.Au.ginv (((Go.Au.swapR (Go.Au.gaussTo V k c) c p).getD c []).getD c 0)) ((Go.Au.swapR (Go.Au.gaussTo V k c) c p).getD c []) (2 * k))) c (2 * k) r).getD c []) ((Go.Au.elimAll ((Go.Au.swapR (Go.Au.gaussTo V k c) c p).set c (Go.Au.scaleTo (Go.Au.ginv (((Go.Au.swapR (Go.Au.gaussTo V k c) c p).getD c []).getD c 0)) ((Go.Au.swapR (Go.Au.gaussTo V k c) c p).getD c []) (2 * k))) c (2 * k) r).getD r []) j)))
    ((2 * k) - 0) [(4, .int .i64 ((k : Nat) : Int)), (5, .slice (some ⟨g329, 0, none⟩) k c320), (8, .int .i64 (c : Int)), (12, .int .i64 (r : Int)), (13, bV (((Go.Au.elimAll ((Go.Au.swapR (Go.Au.gaussTo V k c) c p).set c (Go.Au.scaleTo (Go.Au.ginv (((Go.Au.swapR (Go.Au.gaussTo V k c) c p).getD c []).getD c 0)) ((Go.Au.swapR (Go.Au.gaussTo V k c) c p).getD c []) (2 * k))) c (2 * k) r).getD r []).getD c 0)), (50, undef), (51, undef), (52, undef), (53, undef), (54, undef), (55, undef), (56, undef), (57, undef), (126, bV (((Go.Au.elimAll ((Go.Au.swapR (Go.Au.gaussTo V k c) c p).set c (Go.Au.scaleTo (Go.Au.ginv (((Go.Au.swapR (Go.Au.gaussTo V k c) c p).getD c []).getD c 0)) ((Go.Au.swapR (Go.Au.gaussTo V k c) c p).getD c []) (2 * k))) c (2 * k) r).getD r []).getD c 0)), (127, .bool (decide (((((Go.Au.elimAll ((Go.Au.swapR (Go.Au.gaussTo V k c) c p).set c (Go.Au.scaleTo (Go.Au.ginv (((Go.Au.swapR (Go.Au.gaussTo V k c) c p).getD c []).getD c 0)) ((Go.Au.swapR (Go.Au.gaussTo V k c) c p).getD c []) (2 * k))) c (2 * k) r).getD r []).getD c 0).toNat : Int) = (0 : Int)))), (133, .int .i64 (((2 * k) : Nat) : Int)), (134, .int .i64 ((0 : Nat) : Int))] ⟨(congrArg (fun z => some (Value.int .i64 z)) (by omega)), rfl, (congrArg (fun z => some (Value.int .i64 z)) (by omega)), (congrArg (fun z => some (Value.int .i64 z)) (by omega)), rfl, rfl, rfl, rfl, rfl, rfl, rfl, rfl, rfl, rfl, rfl, (congrArg (fun z => some (Value.int .i64 z)) (by omega)), (congrArg (fun z => some (Value.int .i64 z)) (by omega)), trivial⟩ ⟨0, (some ⟨g329, 0, none⟩), c320, vs321, G317, rfl, (by omega), rfl, Hp.le.refl _, S348, hc322, hv323, hs349⟩ ?_
   rintro M ρ w358 ⟨j, a352, c353, vs354, G350, rfl, hp360, rfl, hl351, S359, hc355, hv356, hs357⟩
   refine Wr ?_
   refine Pv ?_
   refine T_nil ?_
   refine W_seq ?_
   refine W_cond_dec rfl (fun h361 => ?_) (fun h361 => ?_)
   ·refine W_skip ?_
    refine W_seq ?_
    refine W_block ?_
    refine Wr ?_
    iterate 2 refine Pv ?_
    refine T_nil ?_
    refine W_plan (planF Tryz.prog G350 [152]) rfl (by kernel_rfl) S359.le ?_
    have S362 := S359.drew
    iterate 2 refine Pv ?_
    obtain ⟨g363, rfl⟩ := S362.rowAt 0 rfl (by omega)
    refine T_idxm (r * 1) rfl rfl rfl rfl rfl rfl rfl rfl (by omega) (by show 0 + Int.toNat _ * 1 = _; omega) ?_
    obtain ⟨g364, c365, hv366, hc367, hr368, hm369⟩ := S362.matCell hs357 hv356 (by omega) (show r < k by omega)
    refine T_load rfl rfl rfl rfl rfl rfl rfl (S362.rowCell 0 rfl (by rw [Nat.mul_one]; exact hv366)) ?_
    refine Pv ?_
    refine T_idxm (j * 1) rfl rfl rfl rfl rfl rfl rfl rfl (by omega) (by show 0 + Int.toNat _ * 1 = _; omega) ?_
    refine T_load rfl rfl rfl rfl rfl rfl rfl (S362.matAt hv366 hr368 hm369 (by omega)) ?_
    iterate 3 refine Pv ?_
    refine T_idxm (c * 1) rfl rfl rfl rfl rfl rfl rfl rfl (by omega) (by show 0 + Int.toNat _ * 1 = _; omega) ?_
    obtain ⟨g370, c371, hv372, hc373, hr374, hm375⟩ := S362.matCell hs357 hv356 (by omega) (show c < k by omega)
    refine T_load rfl rfl rfl rfl rfl rfl rfl (S362.rowCell 0 rfl (by rw [Nat.mul_one]; exact hv372)) ?_
    refine Pv ?_
    refine T_idxm (j * 1) rfl rfl rfl rfl rfl rfl rfl rfl (by omega) (by show 0 + Int.toNat _ * 1 = _; omega) ?_
    refine T_load rfl rfl rfl rfl rfl rfl rfl (S362.matAt hv372 hr374 hm375 (by omega)) ?_
    refine T_re (v' := bV (((Go.Au.elimAll ((Go.Au.swapR (Go.Au.gaussTo V k c) c p).set c (Go.Au.scaleTo (Go.Au.ginv (((Go.Au.swapR (Go.Au.gaussTo V k c) c p).getD c []).getD c 0)) ((Go.Au.swapR (Go.Au.gaussTo V k c) c p).getD c []) (2 * k))) c (2 * k) r).getD c []).getD j 0)) (congrArg (fun z => bV (List.getD z j 0)) (Go.Au.row_other (by omega))) ?_
    refine T_callQ rfl rfl g_aumbry_aumbryref04_Mul (by kernel_rfl) rfl rfl rfl rfl (fun u => rmul_ok (H := fun _ => none) (w := u) (fun _ _ h => by cases h) (((Go.Au.elimAll ((Go.Au.swapR (Go.Au.gaussTo V k c) c p).set c (Go.Au.scaleTo (Go.Au.ginv (((Go.Au.swapR (Go.Au.gaussTo V k c) c p).getD c []).getD c 0)) ((Go.Au.swapR (Go.Au.gaussTo V k c) c p).getD c []) (2 * k))) c (2 * k) r).getD r []).getD c 0) (((Go.Au.elimAll ((Go.Au.swapR (Go.Au.gaussTo V k c) c p).set c (Go.Au.scaleTo (Go.Au.ginv (((Go.Au.swapR (Go.Au.gaussTo V k c) c p).getD c []).getD c 0)) ((Go.Au.swapR (Go.Au.gaussTo V k c) c p).getD c []) (2 * k))) c (2 * k) r).getD c []).getD j 0) ) ?_
    refine Pv ?_
    refine T_re (v' := bV ((((Go.Au.elimAll ((Go.Au.swapR (Go.Au.gaussTo V k c) c p).set c (Go.Au.scaleTo (Go.Au.ginv (((Go.Au.swapR (Go.Au.gaussTo V k c) c p).getD c []).getD c 0)) ((Go.Au.swapR (Go.Au.gaussTo V k c) c p).getD c []) (2 * k))) c (2 * k) r).set r (Go.Au.elimTo (((Go.Au.elimAll ((Go.Au.swapR (Go.Au.gaussTo V k c) c p).set c (Go.Au.scaleTo (Go.Au.ginv (((Go.Au.swapR (Go.Au.gaussTo V k c) c p).getD c []).getD c 0)) ((Go.Au.swapR (Go.Au.gaussTo V k c) c p).getD c []) (2 * k))) c (2 * k) r).getD r []).getD c 0) ((Go.Au.elimAll ((Go.Au.swapR (Go.Au.gaussTo V k c) c p).set c (Go.Au.scaleTo (Go.Au.ginv (((Go.Au.swapR (Go.Au.gaussTo V k c) c p).getD c []).getD c 0)) ((Go.Au.swapR (Go.Au.gaussTo V k c) c p).getD c []) (2 * k))) c (2 * k) r).getD c []) ((Go.Au.elimAll ((Go.Au.swapR (Go.Au.gaussTo V k c) c p).set c (Go.Au.scaleTo (Go.Au.ginv (((Go.Au.swapR (Go.Au.gaussTo V k c) c p).getD c []).getD c 0)) ((Go.Au.swapR (Go.Au.gaussTo V k c) c p).getD c []) (2 * k))) c (2 * k) r).getD r []) j)).getD r []).getD j 0 ^^^ Go.Au.gmul (((Go.Au.elimAll ((Go.Au.swapR (Go.Au.gaussTo V k c) c p).set c (Go.Au.scaleTo (Go.Au.ginv (((Go.Au.swapR (Go.Au.gaussTo V k c) c p).getD c []).getD c 0)) ((Go.Au.swapR (Go.Au.gaussTo V k c) c p).getD c []) (2 * k))) c (2 * k) r).getD r []).getD c 0) (((Go.Au.elimAll ((Go.Au.swapR (Go.Au.gaussTo V k c) c p).set c (Go.Au.scaleTo (Go.Au.ginv (((Go.Au.swapR (Go.Au.gaussTo V k c) c p).getD c []).getD c 0)) ((Go.Au.swapR (Go.Au.gaussTo V k c) c p).getD c []) (2 * k))) c (2 * k) r).getD c []).getD j 0))) (congrArg (Value.int .u8) (xorU8 _ _)) ?_
    refine T_idxm (j * 1) rfl rfl rfl rfl rfl rfl rfl rfl (by omega) (by show 0 + Int.toNat _ * 1 = _; omega) ?_
    refine T_matStore (u := ((((Go.Au.elimAll ((Go.Au.swapR (Go.Au.gaussTo V k c) c p).set c (Go.Au.scaleTo (Go.Au.ginv (((Go.Au.swapR (Go.Au.gaussTo V k c) c p).getD c []).getD c 0)) ((Go.Au.swapR (Go.Au.gaussTo V k c) c p).getD c []) (2 * k))) c (2 * k) r).set r (Go.Au.elimTo (((Go.Au.elimAll ((Go.Au.swapR (Go.Au.gaussTo V k c) c p).set c (Go.Au.scaleTo (Go.Au.ginv (((Go.Au.swapR (Go.Au.gaussTo V k c) c p).getD c []).getD c 0)) ((Go.Au.swapR (Go.Au.gaussTo V k c) c p).getD c []) (2 * k))) c (2 * k) r).getD r []).getD c 0) ((Go.Au.elimAll ((Go.Au.swapR (Go.Au.gaussTo V k c) c p).set c (Go.Au.scaleTo (Go.Au.ginv (((Go.Au.swapR (Go.Au.gaussTo V k c) c p).getD c []).getD c 0)) ((Go.Au.swapR (Go.Au.gaussTo V k c) c p).getD c []) (2 * k))) c (2 * k) r).getD c []) ((Go.Au.elimAll ((Go.Au.swapR (Go.Au.gaussTo V k c) c p).set c (Go.Au.scaleTo (Go.Au.ginv (((Go.Au.swapR (Go.Au.gaussTo V k c) c p).getD c []).getD c 0)) ((Go.Au.swapR (Go.Au.gaussTo V k c) c p).getD c []) (2 * k))) c (2 * k) r).getD r []) j)).getD r []).getD j 0 ^^^ Go.Au.gmul (((Go.Au.elimAll ((Go.Au.swapR (Go.Au.gaussTo V k c) c p).set c (Go.Au.scaleTo (Go.Au.ginv (((Go.Au.swapR (Go.Au.gaussTo V k c) c p).getD c []).getD c 0)) ((Go.Au.swapR (Go.Au.gaussTo V k c) c p).getD c []) (2 * k))) c (2 * k) r).getD r []).getD c 0) (((Go.Au.elimAll ((Go.Au.swapR (Go.Au.gaussTo V k c) c p).set c (Go.Au.scaleTo (Go.Au.ginv (((Go.Au.swapR (Go.Au.gaussTo V k c) c p).getD c []).getD c 0)) ((Go.Au.swapR (Go.Au.gaussTo V k c) c p).getD c []) (2 * k))) c (2 * k) r).getD c []).getD j 0))) r j S362 (fun _ h => ((Hp.le.refl _)).trans h) hv366 hr368 hm369 (by omega) rfl rfl rfl rfl rfl rfl rfl rfl rfl fun w376 S377 => ?_
    have hs378 := MShape.set (r := r) (l := (((Go.Au.elimAll ((Go.Au.swapR (Go.Au.gaussTo V k c) c p).set c (Go.Au.scaleTo (Go.Au.ginv (((Go.Au.swapR (Go.Au.gaussTo V k c) c p).getD c []).getD c 0)) ((Go.Au.swapR (Go.Au.gaussTo V k c) c p).getD c []) (2 * k))) c (2 * k) r).set r (Go.Au.elimTo (((Go.Au.elimAll ((Go.Au.swapR (Go.Au.gaussTo V k c) c p).set c (Go.Au.scaleTo (Go.Au.ginv (((Go.Au.swapR (Go.Au.gaussTo V k c) c p).getD c []).getD c 0)) ((Go.Au.swapR (Go.Au.gaussTo V k c) c p).getD c []) (2 * k))) c (2 * k) r).getD r []).getD c 0) ((Go.Au.elimAll ((Go.Au.swapR (Go.Au.gaussTo V k c) c p).set c (Go.Au.scaleTo (Go.Au.ginv (((Go.Au.swapR (Go.Au.gaussTo V k c) c p).getD c []).getD c 0)) ((Go.Au.swapR (Go.Au.gaussTo V k c) c p).getD c []) (2 * k))) c (2 * k) r).getD c []) ((Go.Au.elimAll ((Go.Au.swapR (Go.Au.gaussTo V k c) c p).set c (Go.Au.scaleTo (Go.Au.ginv (((Go.Au.swapR (Go.Au.gaussTo V k c) c p).getD c []).getD c 0)) ((Go.Au.swapR (Go.Au.gaussTo V k c) c p).getD c []) (2 * k))) c (2 * k) r).getD r []) j)).getD r []).set j ((((Go.Au.elimAll ((Go.Au.swapR (Go.Au.gaussTo V k c) c p).set c (Go.Au.scaleTo (Go.Au.ginv (((Go.Au.swapR (Go.Au.gaussTo V k c) c p).getD c []).getD c 0)) ((Go.Au.swapR (Go.Au.gaussTo V k c) c p).getD c []) (2 * k))) c (2 * k) r).set r (Go.Au.elimTo (((Go.Au.elimAll ((Go.Au.swapR (Go.Au.gaussTo V k c) c p).set c (Go.Au.scaleTo (Go.Au.ginv (((Go.Au.swapR (Go.Au.gaussTo V k c) c p).getD c []).getD c 0)) ((Go.Au.swapR (Go.Au.gaussTo V k c) c p).getD c []) (2 * k))) c (2 * k) r).getD r []).getD c 0) ((Go.Au.elimAll ((Go.Au.swapR (Go.Au.gaussTo V k c) c p).set c (Go.Au.scaleTo (Go.Au.ginv (((Go.Au.swapR (Go.Au.gaussTo V k c) c p).getD c []).getD c 0)) ((Go.Au.swapR (Go.Au.gaussTo V k c) c p).getD c []) (2 * k))) c (2 * k) r).getD c []) ((Go.Au.elimAll ((Go.Au.swapR (Go.Au.gaussTo V k c) c p).set c (Go.Au.scaleTo (Go.Au.ginv (((Go.Au.swapR (Go.Au.gaussTo V k c) c p).getD c []).getD c 0)) ((Go.Au.swapR (Go.Au.gaussTo V k c) c p).getD c []) (2 * k))) c (2 * k) r).getD r []) j)).getD r []).getD j 0 ^^^ Go.Au.gmul (((Go.Au.elimAll ((Go.Au.swapR (Go.Au.gaussTo V k c) c p).set c (Go.Au.scaleTo (Go.Au.ginv (((Go.Au.swapR (Go.Au.gaussTo V k c) c p).getD c []).getD c 0)) ((Go.Au.swapR (Go.Au.gaussTo V k c) c p).getD c []) (2 * k))) c (2 * k) r).getD r []).getD c 0) (((Go.Au.elimAll ((Go.Au.swapR (Go.Au.gaussTo V k c) c p).set c (Go.Au.scaleTo (Go.Au.ginv (((Go.Au.swapR (Go.Au.gaussTo V k c) c p).getD c []).getD c 0)) ((Go.Au.swapR (Go.Au.gaussTo V k c) c p).getD c []) (2 * k))) c (2 * k) r).getD c []).getD j 0))) hs357 (by rw [List.length_set]; exact hm369)
    have hD379 : (((Go.Au.elimAll ((Go.Au.swapR (Go.Au.gaussTo V k c) c p).set c (Go.Au.scaleTo (Go.Au.ginv (((Go.Au.swapR (Go.Au.gaussTo V k c) c p).getD c []).getD c 0)) ((Go.Au.swapR (Go.Au.gaussTo V k c) c p).getD c []) (2 * k))) c (2 * k) r).set r (Go.Au.elimTo (((Go.Au.elimAll ((Go.Au.swapR (Go.Au.gaussTo V k c) c p).set c (Go.Au.scaleTo (Go.Au.ginv (((Go.Au.swapR (Go.Au.gaussTo V k c) c p).getD c []).getD c 0)) ((Go.Au.swapR (Go.Au.gaussTo V k c) c p).getD c []) (2 * k))) c (2 * k) r).getD r []).getD c 0) ((Go.Au.elimAll ((Go.Au.swapR (Go.Au.gaussTo V k c) c p).set c (Go.Au.scaleTo (Go.Au.ginv (((Go.Au.swapR (Go.Au.gaussTo V k c) c p).getD c []).getD c 0)) ((Go.Au.swapR (Go.Au.gaussTo V k c) c p).getD c []) (2 * k))) c (2 * k) r).getD c []) ((Go.Au.elimAll ((Go.Au.swapR (Go.Au.gaussTo V k c) c p).set c (Go.Au.scaleTo (Go.Au.ginv (((Go.Au.swapR (Go.Au.gaussTo V k c) c p).getD c []).getD c 0)) ((Go.Au.swapR (Go.Au.gaussTo V k c) c p).getD c []) (2 * k))) c (2 * k) r).getD r []) j)).set r ((((Go.Au.elimAll ((Go.Au.swapR (Go.Au.gaussTo V k c) c p).set c (Go.Au.scaleTo (Go.Au.ginv (((Go.Au.swapR (Go.Au.gaussTo V k c) c p).getD c []).getD c 0)) ((Go.Au.swapR (Go.Au.gaussTo V k c) c p).getD c []) (2 * k))) c (2 * k) r).set r (Go.Au.elimTo (((Go.Au.elimAll ((Go.Au.swapR (Go.Au.gaussTo V k c) c p).set c (Go.Au.scaleTo (Go.Au.ginv (((Go.Au.swapR (Go.Au.gaussTo V k c) c p).getD c []).getD c 0)) ((Go.Au.swapR (Go.Au.gaussTo V k c) c p).getD c []) (2 * k))) c (2 * k) r).getD r []).getD c 0) ((Go.Au.elimAll ((Go.Au.swapR (Go.Au.gaussTo V k c) c p).set c (Go.Au.scaleTo (Go.Au.ginv (((Go.Au.swapR (Go.Au.gaussTo V k c) c p).getD c []).getD c 0)) ((Go.Au.swapR (Go.Au.gaussTo V k c) c p).getD c []) (2 * k))) c (2 * k) r).getD c []) ((Go.Au.elimAll ((Go.Au.swapR (Go.Au.gaussTo V k c) c p).set c (Go.Au.scaleTo (Go.Au.ginv (((Go.Au.swapR (Go.Au.gaussTo V k c) c p).getD c []).getD c 0)) ((Go.Au.swapR (Go.Au.gaussTo V k c) c p).getD c []) (2 * k))) c (2 * k) r).getD r []) j)).getD r []).set j ((((Go.Au.elimAll ((Go.Au.swapR (Go.Au.gaussTo V k c) c p).set c (Go.Au.scaleTo (Go.Au.ginv (((Go.Au.swapR (Go.Au.gaussTo V k c) c p).getD c []).getD c 0)) ((Go.Au.swapR (Go.Au.gaussTo V k c) c p).getD c []) (2 * k))) c (2 * k) r).set r (Go.Au.elimTo (((Go.Au.elimAll ((Go.Au.swapR (Go.Au.gaussTo V k c) c p).set c (Go.Au.scaleTo (Go.Au.ginv (((Go.Au.swapR (Go.Au.gaussTo V k c) c p).getD c []).getD c 0)) ((Go.Au.swapR (Go.Au.gaussTo V k c) c p).getD c []) (2 * k))) c (2 * k) r).getD r []).getD c 0) ((Go.Au.elimAll ((Go.Au.swapR (Go.Au.gaussTo V k c) c p).set c (Go.Au.scaleTo (Go.Au.ginv (((Go.Au.swapR (Go.Au.gaussTo V k c) c p).getD c []).getD c 0)) ((Go.Au.swapR (Go.Au.gaussTo V k c) c p).getD c []) (2 * k))) c (2 * k) r).getD c []) ((Go.Au.elimAll ((Go.Au.swapR (Go.Au.gaussTo V k c) c p).set c (Go.Au.scaleTo (Go.Au.ginv (((Go.Au.swapR (Go.Au.gaussTo V k c) c p).getD c []).getD c 0)) ((Go.Au.swapR (Go.Au.gaussTo V k c) c p).getD c []) (2 * k))) c (2 * k) r).getD r []) j)).getD r []).getD j 0 ^^^ Go.Au.gmul (((Go.Au.elimAll ((Go.Au.swapR (Go.Au.gaussTo V k c) c p).set c (Go.Au.scaleTo (Go.Au.ginv (((Go.Au.swapR (Go.Au.gaussTo V k c) c p).getD c []).getD c 0)) ((Go.Au.swapR (Go.Au.gaussTo V k c) c p).getD c []) (2 * k))) c (2 * k) r).getD r []).getD c 0) (((Go.Au.elimAll ((Go.Au.swapR (Go.Au.gaussTo V k c) c p).set c (Go.Au.scaleTo (Go.Au.ginv (((Go.Au.swapR (Go.Au.gaussTo V k c) c p).getD c []).getD c 0)) ((Go.Au.swapR (Go.Au.gaussTo V k c) c p).getD c []) (2 * k))) c (2 * k) r).getD c []).getD j 0)))) = ((Go.Au.elimAll ((Go.Au.swapR (Go.Au.gaussTo V k c) c p).set c (Go.Au.scaleTo (Go.Au.ginv (((Go.Au.swapR (Go.Au.gaussTo V k c) c p).getD c []).getD c 0)) ((Go.Au.swapR (Go.Au.gaussTo V k c) c p).getD c []) (2 * k))) c (2 * k) r).set r (Go.Au.elimTo (((Go.Au.elimAll ((Go.Au.swapR (Go.Au.gaussTo V k c) c p).set c (Go.Au.scaleTo (Go.Au.ginv (((Go.Au.swapR (Go.Au.gaussTo V k c) c p).getD c []).getD c 0)) ((Go.Au.swapR (Go.Au.gaussTo V k c) c p).getD c []) (2 * k))) c (2 * k) r).getD r []).getD c 0) ((Go.Au.elimAll ((Go.Au.swapR (Go.Au.gaussTo V k c) c p).set c (Go.Au.scaleTo (Go.Au.ginv (((Go.Au.swapR (Go.Au.gaussTo V k c) c p).getD c []).getD c 0)) ((Go.Au.swapR (Go.Au.gaussTo V k c) c p).getD c []) (2 * k))) c (2 * k) r).getD c []) ((Go.Au.elimAll ((Go.Au.swapR (Go.Au.gaussTo V k c) c p).set c (Go.Au.scaleTo (Go.Au.ginv (((Go.Au.swapR (Go.Au.gaussTo V k c) c p).getD c []).getD c 0)) ((Go.Au.swapR (Go.Au.gaussTo V k c) c p).getD c []) (2 * k))) c (2 * k) r).getD r []) (j + 1))) := (Go.Au.row_step (by have h := (hs357).1; rw [List.length_set] at h; omega) (fun l => l.set j (l.getD j 0 ^^^ Go.Au.gmul (((Go.Au.elimAll ((Go.Au.swapR (Go.Au.gaussTo V k c) c p).set c (Go.Au.scaleTo (Go.Au.ginv (((Go.Au.swapR (Go.Au.gaussTo V k c) c p).getD c []).getD c 0)) ((Go.Au.swapR (Go.Au.gaussTo V k c) c p).getD c []) (2 * k))) c (2 * k) r).getD r []).getD c 0) (((Go.Au.elimAll ((Go.Au.swapR (Go.Au.gaussTo V k c) c p).set c (Go.Au.scaleTo (Go.Au.ginv (((Go.Au.swapR (Go.Au.gaussTo V k c) c p).getD c []).getD c 0)) ((Go.Au.swapR (Go.Au.gaussTo V k c) c p).getD c []) (2 * k))) c (2 * k) r).getD c []).getD j 0))))
    rw [hD379] at S377 hs378
    refine T_nil ?_
    refine W_region ?_
    refine Ar ?_
    refine Pv ?_
    refine T_nil ?_
    exact ⟨(2 * k) - (j + 1), [(4, .int .i64 ((k : Nat) : Int)), (5, .slice (some ⟨g363, 0, none⟩) k c353), (8, .int .i64 (c : Int)), (12, .int .i64 (r : Int)), (13, bV (((Go.Au.elimAll ((Go.Au.swapR (Go.Au.gaussTo V k c) c p).set c (Go.Au.scaleTo (Go.Au.ginv (((Go.Au.swapR (Go.Au.gaussTo V k c) c p).getD c []).getD c 0)) ((Go.Au.swapR (Go.Au.gaussTo V k c) c p).getD c []) (2 * k))) c (2 * k) r).getD r []).getD c 0)), (50, undef), (51, undef), (52, undef), (53, undef), (54, undef), (55, undef), (56, undef), (57, undef), (126, bV (((Go.Au.elimAll ((Go.Au.swapR (Go.Au.gaussTo V k c) c p).set c (Go.Au.scaleTo (Go.Au.ginv (((Go.Au.swapR (Go.Au.gaussTo V k c) c p).getD c []).getD c 0)) ((Go.Au.swapR (Go.Au.gaussTo V k c) c p).getD c []) (2 * k))) c (2 * k) r).getD r []).getD c 0)), (127, .bool (decide (((((Go.Au.elimAll ((Go.Au.swapR (Go.Au.gaussTo V k c) c p).set c (Go.Au.scaleTo (Go.Au.ginv (((Go.Au.swapR (Go.Au.gaussTo V k c) c p).getD c []).getD c 0)) ((Go.Au.swapR (Go.Au.gaussTo V k c) c p).getD c []) (2 * k))) c (2 * k) r).getD r []).getD c 0).toNat : Int) = (0 : Int)))), (133, .int .i64 (((2 * k) : Nat) : Int)), (134, .int .i64 ((j + 1 : Nat) : Int))], by omega, ⟨(congrArg (fun z => some (Value.int .i64 z)) (by omega)), rfl, (congrArg (fun z => some (Value.int .i64 z)) (by omega)), (congrArg (fun z => some (Value.int .i64 z)) (by omega)), rfl, rfl, rfl, rfl, rfl, rfl, rfl, rfl, rfl, rfl, rfl, (congrArg (fun z => some (Value.int .i64 z)) (by omega)), (congrArg (fun z => some (Value.int .i64 z)) (by omega)), trivial⟩, j + 1, (some ⟨g363, 0, none⟩), c353, vs354, G350, rfl, (by omega), rfl, hl351, S377, hc355, hv356, hs378⟩
   refine W_exit ?_
   refine W_region ?_
   refine Pv ?_
   refine Ar ?_
   refine Pv ?_
   refine T_nil ?_
   obtain rfl : 2 * k = j := by omega
   have S380 : St w H G350 (.row 24 1 (.slice a352 k c353) k vs354 :: (mrows 5 vs354 (Go.Au.elimAll ((Go.Au.swapR (Go.Au.gaussTo V k c) c p).set c (Go.Au.scaleTo (Go.Au.ginv (((Go.Au.swapR (Go.Au.gaussTo V k c) c p).getD c []).getD c 0)) ((Go.Au.swapR (Go.Au.gaussTo V k c) c p).getD c []) (2 * k))) c (2 * k) (r + 1)) ++ [])) w358 := by rw [show (Go.Au.elimAll ((Go.Au.swapR (Go.Au.gaussTo V k c) c p).set c (Go.Au.scaleTo (Go.Au.ginv (((Go.Au.swapR (Go.Au.gaussTo V k c) c p).getD c []).getD c 0)) ((Go.Au.swapR (Go.Au.gaussTo V k c) c p).getD c []) (2 * k))) c (2 * k) (r + 1)) = ((Go.Au.elimAll ((Go.Au.swapR (Go.Au.gaussTo V k c) c p).set c (Go.Au.scaleTo (Go.Au.ginv (((Go.Au.swapR (Go.Au.gaussTo V k c) c p).getD c []).getD c 0)) ((Go.Au.swapR (Go.Au.gaussTo V k c) c p).getD c []) (2 * k))) c (2 * k) r).set r (Go.Au.elimTo (((Go.Au.elimAll ((Go.Au.swapR (Go.Au.gaussTo V k c) c p).set c (Go.Au.scaleTo (Go.Au.ginv (((Go.Au.swapR (Go.Au.gaussTo V k c) c p).getD c []).getD c 0)) ((Go.Au.swapR (Go.Au.gaussTo V k c) c p).getD c []) (2 * k))) c (2 * k) r).getD r []).getD c 0) ((Go.Au.elimAll ((Go.Au.swapR (Go.Au.gaussTo V k c) c p).set c (Go.Au.scaleTo (Go.Au.ginv (((Go.Au.swapR (Go.Au.gaussTo V k c) c p).getD c []).getD c 0)) ((Go.Au.swapR (Go.Au.gaussTo V k c) c p).getD c []) (2 * k))) c (2 * k) r).getD c []) ((Go.Au.elimAll ((Go.Au.swapR (Go.Au.gaussTo V k c) c p).set c (Go.Au.scaleTo (Go.Au.ginv (((Go.Au.swapR (Go.Au.gaussTo V k c) c p).getD c []).getD c 0)) ((Go.Au.swapR (Go.Au.gaussTo V k c) c p).getD c []) (2 * k))) c (2 * k) r).getD r []) (2 * k))) from (Go.Au.elim_do (by omega) (fun e => hnz (by rw [show (((Go.Au.elimAll ((Go.Au.swapR (Go.Au.gaussTo V k c) c p).set c (Go.Au.scaleTo (Go.Au.ginv (((Go.Au.swapR (Go.Au.gaussTo V k c) c p).getD c []).getD c 0)) ((Go.Au.swapR (Go.Au.gaussTo V k c) c p).getD c []) (2 * k))) c (2 * k) r).getD r []).getD c 0) = 0 from e]; rfl)))]; exact S359
   have hs381 : MShape k (2 * k) (Go.Au.elimAll ((Go.Au.swapR (Go.Au.gaussTo V k c) c p).set c (Go.Au.scaleTo (Go.Au.ginv (((Go.Au.swapR (Go.Au.gaussTo V k c) c p).getD c []).getD c 0)) ((Go.Au.swapR (Go.Au.gaussTo V k c) c p).getD c []) (2 * k))) c (2 * k) (r + 1)) := by rw [show (Go.Au.elimAll ((Go.Au.swapR (Go.Au.gaussTo V k c) c p).set c (Go.Au.scaleTo (Go.Au.ginv (((Go.Au.swapR (Go.Au.gaussTo V k c) c p).getD c []).getD c 0)) ((Go.Au.swapR (Go.Au.gaussTo V k c) c p).getD c []) (2 * k))) c (2 * k) (r + 1)) = ((Go.Au.elimAll ((Go.Au.swapR (Go.Au.gaussTo V k c) c p).set c (Go.Au.scaleTo (Go.Au.ginv (((Go.Au.swapR (Go.Au.gaussTo V k c) c p).getD c []).getD c 0)) ((Go.Au.swapR (Go.Au.gaussTo V k c) c p).getD c []) (2 * k))) c (2 * k) r).set r (Go.Au.elimTo (((Go.Au.elimAll ((Go.Au.swapR (Go.Au.gaussTo V k c) c p).set c (Go.Au.scaleTo (Go.Au.ginv (((Go.Au.swapR (Go.Au.gaussTo V k c) c p).getD c []).getD c 0)) ((Go.Au.swapR (Go.Au.gaussTo V k c) c p).getD c []) (2 * k))) c (2 * k) r).getD r []).getD c 0) ((Go.Au.elimAll ((Go.Au.swapR (Go.Au.gaussTo V k c) c p).set c (Go.Au.scaleTo (Go.Au.ginv (((Go.Au.swapR (Go.Au.gaussTo V k c) c p).getD c []).getD c 0)) ((Go.Au.swapR (Go.Au.gaussTo V k c) c p).getD c []) (2 * k))) c (2 * k) r).getD c []) ((Go.Au.elimAll ((Go.Au.swapR (Go.Au.gaussTo V k c) c p).set c (Go.Au.scaleTo (Go.Au.ginv (((Go.Au.swapR (Go.Au.gaussTo V k c) c p).getD c []).getD c 0)) ((Go.Au.swapR (Go.Au.gaussTo V k c) c p).getD c []) (2 * k))) c (2 * k) r).getD r []) (2 * k))) from (Go.Au.elim_do (by omega) (fun e => hnz (by rw [show (((Go.Au.elimAll ((Go.Au.swapR (Go.Au.gaussTo V k c) c p).set c (Go.Au.scaleTo (Go.Au.ginv (((Go.Au.swapR (Go.Au.gaussTo V k c) c p).getD c []).getD c 0)) ((Go.Au.swapR (Go.Au.gaussTo V k c) c p).getD c []) (2 * k))) c (2 * k) r).getD r []).getD c 0) = 0 from e]; rfl)))]; exact hs357
   exact ⟨k - (r + 1), [(4, .int .i64 ((k : Nat) : Int)), (5, .slice a352 k c353), (8, .int .i64 (c : Int)), (12, .int .i64 ((r + 1 : Nat) : Int)), (50, undef), (51, undef), (52, undef), (53, undef), (54, undef), (55, undef), (56, undef), (57, undef)], by omega, ⟨(congrArg (fun z => some (Value.int .i64 z)) (by omega)), rfl, (congrArg (fun z => some (Value.int .i64 z)) (by omega)), (congrArg (fun z => some (Value.int .i64 z)) (by omega)), rfl, rfl, rfl, rfl, rfl, rfl, rfl, rfl, trivial⟩, r + 1, a352, c353, vs354, G350, rfl, (by omega), rfl, (hl318.trans hl351), S380, hc355, hv356, hs381⟩
  refine W_exit ?_
  refine W_region ?_
  refine Pv ?_
  refine Ar ?_
  refine Pv ?_
  refine T_nil ?_
  obtain rfl : k = r := by omega
  have S382 : St w H G317 (.row 24 1 (.slice a319 k c320) k vs321 :: (mrows 5 vs321 (Go.Au.gaussTo V k (c + 1)) ++ [])) w325 := by rw [show Go.Au.gaussTo V k (c + 1) = (Go.Au.elimAll ((Go.Au.swapR (Go.Au.gaussTo V k c) c p).set c (Go.Au.scaleTo (Go.Au.ginv (((Go.Au.swapR (Go.Au.gaussTo V k c) c p).getD c []).getD c 0)) ((Go.Au.swapR (Go.Au.gaussTo V k c) c p).getD c []) (2 * k))) c (2 * k) k) from (by show Go.Au.sweep _ _ _ _ _ = _; rw [hpv]; rfl)]; exact S326
  have hs383 : MShape k (2 * k) (Go.Au.gaussTo V k (c + 1)) := by rw [show Go.Au.gaussTo V k (c + 1) = (Go.Au.elimAll ((Go.Au.swapR (Go.Au.gaussTo V k c) c p).set c (Go.Au.scaleTo (Go.Au.ginv (((Go.Au.swapR (Go.Au.gaussTo V k c) c p).getD c []).getD c 0)) ((Go.Au.swapR (Go.Au.gaussTo V k c) c p).getD c []) (2 * k))) c (2 * k) k) from (by show Go.Au.sweep _ _ _ _ _ = _; rw [hpv]; rfl)]; exact hs324
  exact ⟨k - (c + 1), [(4, .int .i64 ((k : Nat) : Int)), (5, .slice a319 k c320), (8, .int .i64 ((c + 1 : Nat) : Int))], by omega, ⟨(congrArg (fun z => some (Value.int .i64 z)) (by omega)), rfl, (congrArg (fun z => some (Value.int .i64 z)) (by omega)), trivial⟩, c + 1, a319, c320, vs321, G317, rfl, (by omega), rfl, (hl76.trans (hl88.trans (hl286.trans hl318))), S382, hc322, hv323, hs383⟩
 refine W_exit ?_
 refine W_seq ?_
 obtain rfl : k = c := by omega
 have hgl := (hs82).1
 have hgr : ∀ q, q < k → ((Go.Au.gaussTo V k k).getD q []).length = 2 * k := fun q hq => ((hs82).row hq).2
 refine W_region ?_
 refine Pv ?_
 refine T_nil ?_
 refine W_seq ?_
 refine Wr ?_
 iterate 3 refine Pv ?_
 refine T_nil ?_
 refine W_block ?_
 obtain ⟨G384, hl385, S386, r387⟩ := S84.matAll (its := []) hs82 hv81
 have S388 := S386.nilRow 24 1
 have rs389 := Rds.nil G384
 refine W_loop (fun M ρ w' => ∃ (q : Nat) (a392 : Option Addr) (c393 : Nat) (hs395 : List Value) (G390 : Hp), M = k - q ∧ q ≤ k ∧ ρ = [(4, .int .i64 ((k : Nat) : Int)), (5, .slice a77 k c78), (15, .slice a392 q c393), (157, .int .i64 ((k : Nat) : Int)), (158, .int .i64 (q : Int))] ∧ G384.le G390 ∧ St w H G390 [.row 24 1 (.slice a392 q c393) q hs395] w' ∧ Rds G390 hs395 (Go.Au.invTo V k q) ∧ q ≤ c393)
  (k - 0) [(4, .int .i64 ((k : Nat) : Int)), (5, .slice a77 k c78), (15, .slice none 0 0), (157, .int .i64 ((k : Nat) : Int)), (158, .int .i64 ((0 : Nat) : Int))] ⟨(congrArg (fun z => some (Value.int .i64 z)) (by omega)), rfl, rfl, (congrArg (fun z => some (Value.int .i64 z)) (by omega)), (congrArg (fun z => some (Value.int .i64 z)) (by omega)), trivial⟩ ⟨0, none, 0, _, G384, rfl, (by omega), rfl, Hp.le.refl _, S388, rs389, (Nat.le_refl _)⟩ ?_
 rintro M ρ w397 ⟨q, a392, c393, hs395, G390, rfl, hp399, rfl, hl391, S398, rs396, hc394⟩
 refine Wr ?_
 refine Pv ?_
 refine T_nil ?_
 refine W_seq ?_
 refine W_cond_dec rfl (fun h400 => ?_) (fun h400 => ?_)
 ·refine W_skip ?_
  refine W_seq ?_
  refine W_block ?_
  refine Wr ?_
  iterate 2 refine Pv ?_
  refine T_nil ?_
  refine W_region ?_
  iterate 2 refine Pv ?_
  have hgq := hgr q (by omega)
  refine Pv ?_
  obtain ⟨hs404, r405, r406⟩ := (r387.mono hl391)
  refine T_idxR q r405 rfl rfl rfl rfl rfl rfl rfl rfl rfl (by omega) (by omega) fun b401 o402 hc403 => ?_
  obtain ⟨a409, c410, hc412, hv408, r411⟩ := r406.at q (by omega)
  have hc413 := hc403 0 (.slice a409 ((Go.Au.gaussTo V k k).getD q []).length c410) (by simpa using hv408)
  simp only [Nat.add_zero] at hc413
  refine T_loadG S398 hc413 rfl rfl rfl rfl rfl rfl rfl ?_
  refine Pv ?_
  refine T_sliceR k (((Go.Au.gaussTo V k k).getD q []).length) r411 rfl rfl rfl rfl rfl rfl rfl rfl rfl rfl (by first | rfl | exact congrArg some (by omega)) (bound_of (by omega)) (by omega) (by omega) fun a414 c415 hc416 r417 => ?_
  have r418 := Rd.cutB r417
  have rs423 : Rds G390 [.slice a414 (((Go.Au.gaussTo V k k).getD q []).length - k) c415] [((((Go.Au.gaussTo V k k).getD q []).drop k).take (((Go.Au.gaussTo V k k).getD q []).length - k))] := Rds.cons (Rd.canonB r418) (Rds.nil _)
  refine T_litS [.slice a414 (((Go.Au.gaussTo V k k).getD q []).length - k) c415] rfl rfl rfl rfl rfl rfl rfl rfl rfl rfl rfl rfl rfl (by simp [Value.cells]; rfl) rfl fun a419 w420 hB421 ho422 => ?_
  have S424 := S398.own hB421 ho422
  refine ⟨trivial, ?_⟩
  have hD425 : (Go.Au.invTo V k q ++ [((((Go.Au.gaussTo V k k).getD q []).drop k).take (((Go.Au.gaussTo V k k).getD q []).length - k))]) = Go.Au.invTo V k (q + 1) := (by rw [List.take_of_length_le (by rw [List.length_drop]; omega)]; exact Go.Au.invTo_snoc V k q)
  refine T_appendS 1 (q + 1) _ S424 (fun _ _ => trivial) rfl rfl rfl rfl rfl rfl rfl rfl rfl rfl rfl rfl rfl rfl (S424.rd 0 rfl) rs423.one (by first | rfl | (simp; done) | (simp; omega) | omega) rfl (by unfold maxLen; first | omega | (rw [List.length_append]; omega)) (by show _ * 24 ≤ _; first | omega | (rw [List.length_append]; omega)) fun a426 c427 w428 hc429 S430 => ?_
  have rs431 := Rds.append rs396 rs423
  rw [hD425] at rs431
  refine Pv ?_
  refine T_nil ?_
  refine W_region ?_
  refine Ar ?_
  refine Pv ?_
  refine T_nil ?_
  have S432 := S430.drop 0
  exact ⟨k - (q + 1), [(4, .int .i64 ((k : Nat) : Int)), (5, .slice a77 k c78), (15, .slice a426 (q + 1) c427), (157, .int .i64 ((k : Nat) : Int)), (158, .int .i64 ((q + 1 : Nat) : Int))], by omega, ⟨(congrArg (fun z => some (Value.int .i64 z)) (by omega)), rfl, rfl, (congrArg (fun z => some (Value.int .i64 z)) (by omega)), (congrArg (fun z => some (Value.int .i64 z)) (by omega)), trivial⟩, q + 1, a426, c427, _, G390, rfl, (by omega), rfl, hl391, S432, rs431, hc429⟩
 refine W_exit ?_
 refine Wr ?_
 iterate 3 refine Pv ?_
 refine T_nil ?_
 refine W_ret ?_
 refine ⟨_, ⟨_, _, rfl, rfl, ⟨_, _, rfl, rfl, rfl⟩⟩, ?_⟩
 obtain rfl : k = q := by omega
 obtain ⟨G434, hl435, S433, r436⟩ := S398.stillRow 0 rfl
 have r437 := RdL.mk r436 (rs396.mono hl435)
 have hix : ∀ x ∈ Go.Au.invTo V k k, x.length = k := fun x hx => by
  obtain ⟨q, hq, rfl⟩ := List.mem_map.1 hx
  have h2 := hgr q (List.mem_range.1 hq)
  rw [List.length_drop]; omega
 exact ⟨_, _, rfl, (r437).mono S433.fin, hix, S433.below⟩

end Go.Proofs.YtmjmjjkigblbgaaGreatDoor
