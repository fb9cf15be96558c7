/- Walks of the program's functions. -/
import Derived.Test.YtfcejolipdcoaaaGreatDoorMssC
import Derived.Test.YtfcejolipdcoaaaGreatDoorFDoor
set_option linter.unusedVariables false
set_option linter.unusedSimpArgs false
set_option maxRecDepth 8192
namespace Go.Proofs.YtfcejolipdcoaaaGreatDoor
open Go Go.F Go.RowKit
open Go.Au

theorem okW_bd {n i : Int} {m : Nat} (h : okW n i m = true) : m ≤ 8 := by
 have e := okW_of h
 have := lg_le (n := n.toNat) (m := 8) (by omega)
 omega
theorem wts_even {i k : Nat} {x : List UInt8} {p : List (List UInt8)} (h : ¬ i / 2 ^ k % 2 = 1) (hc : (climb i x p k).length = 32) : wtexts i x p k ++ [Go.Au.text [110, 111, 100, 101] [climb i x p k, p.getD k []]] = wtexts i x p (k + 1) := by
 rw [← wtexts_snoc, onW_even h, textP_app hc]; rfl
theorem wts_odd {i k : Nat} {x : List UInt8} {p : List (List UInt8)} (h : i / 2 ^ k % 2 = 1) (hc : (p.getD k []).length = 32) : wtexts i x p k ++ [Go.Au.text [110, 111, 100, 101] [p.getD k [], climb i x p k]] = wtexts i x p (k + 1) := by
 rw [← wtexts_snoc, onW_odd h, textP_app hc]; rfl
theorem textsj_bd {i m j : Nat} {x : List UInt8} {p : List (List UInt8)} (hx : x.length = 32) (hp : ∀ b ∈ p, b.length = 32) (hm : m ≤ p.length) (hj : j < m) : ((wtexts i x p m).getD j []).length ≤ 100000 := by
 rw [wtexts_at _ _ _ hj]
 exact Nat.le_trans (Nat.le_of_lt (textP_bd (getD_len (ways_all i hx hp hm) (by rw [ways_len]; exact hj)))) (by decide)
section
variable {n i : Int} {x y : List UInt8} {p q : List (List UInt8)}
theorem wtexts_waysH (h : okW n i p.length = true) {j : Nat} (hj : j < p.length) : (wtexts i.toNat x p p.length).getD j [] = textP ((waysH n i x p).getD j []) := by
 rw [wtexts_at _ _ _ hj, waysH_ok h]
theorem brk_texts (h1 : okW n i p.length = true) (h2 : okW n i q.length = true) {j : Nat} (hj : j < p.length)
  (h : (!decide ((wtexts i.toNat x p p.length).getD j [] = (wtexts i.toNat y q p.length).getD j []) && decide (Go.Sha.sha ((wtexts i.toNat x p p.length).getD j []) = Go.Sha.sha ((wtexts i.toNat y q p.length).getD j []))) = true) :
  ¬ (waysH n i x p).getD j [] = (waysH n i y q).getD j [] ∧ (wtexts i.toNat x p p.length).getD j [] = textP ((waysH n i x p).getD j []) ∧ (wtexts i.toNat y q p.length).getD j [] = textP ((waysH n i y q).getD j []) := by
 have e1 := okW_of h1
 have e2 := okW_of h2
 have hl : q.length = p.length := by omega
 have t1 := wtexts_waysH (x := x) h1 hj
 have t2 := wtexts_waysH (x := y) h2 (show j < q.length by omega)
 rw [hl] at t2
 refine ⟨fun e => ?_, t1, t2⟩
 rw [t1, t2, e] at h
 simp at h
theorem brk_stepT (ha : x.length = 32) (hb : y.length = 32) (hp : ∀ b ∈ p, b.length = 32) (hq : ∀ b ∈ q, b.length = 32) (h1 : okW n i p.length = true) (h2 : okW n i q.length = true) (h3 : climbH n i x p = climbH n i y q) {j : Nat} (hj : j < p.length)
  (hi : lastNe (waysH n i x p) (waysH n i y q) p.length = lastNe (waysH n i x p) (waysH n i y q) (j + 1))
  (h : (!decide ((wtexts i.toNat x p p.length).getD j [] = (wtexts i.toNat y q p.length).getD j []) && decide (Go.Sha.sha ((wtexts i.toNat x p p.length).getD j []) = Go.Sha.sha ((wtexts i.toNat y q p.length).getD j []))) = false) :
  (waysH n i x p).getD j [] = (waysH n i y q).getD j [] := by
 have e1 := okW_of h1
 have e2 := okW_of h2
 have hl : q.length = p.length := by omega
 have t1 := wtexts_waysH (x := x) h1 hj
 have t2 := wtexts_waysH (x := y) h2 (show j < q.length by omega)
 rw [hl] at t2
 rw [t1, t2] at h
 exact brk_step ha hb hp hq h1 h2 h3 hj hi h
end
set_option maxHeartbeats 2000000 in
theorem breakR_ok {H : Hp} {w : World} (hH : H.le (hw w)) (n i : Int) {x y : List UInt8} (hx : x.length = 32) (hy : y.length = 32) {p : List (List UInt8)} {aa4 : Option Addr} {nn4 cc4 : Nat} (hp : RdH H (.slice aa4 nn4 cc4) 32 p) {q : List (List UInt8)} {aa5 : Option Addr} {nn5 cc5 : Nat} (hq : RdH H (.slice aa5 nn5 cc5) 32 q) :
  Calls Tryz.prog 44 #[.int .i64 n, .int .i64 i, hV x, hV y, .slice aa4 nn4 cc4, .slice aa5 nn5 cc5] w fun e w' => ∃ a1 c1 a2 c2, e = .returned (.tuple #[.agg #[.slice a1 (brA (brk n i x y p q)).length c1, .slice a2 (brB (brk n i x y p q)).length c2], .bool (brk n i x y p q).isSome]) ∧ Rd (F.ext H w.heap.size w') (.slice a1 (brA (brk n i x y p q)).length c1) (brA (brk n i x y p q)).length 1 ((brA (brk n i x y p q)).map bV) ∧ Rd (F.ext H w.heap.size w') (.slice a2 (brB (brk n i x y p q)).length c2) (brB (brk n i x y p q)).length 1 ((brB (brk n i x y p q)).map bV) ∧ Below w.heap.size w w' := by
 obtain rfl : nn4 = p.length := hp.len
 have hpcap : p.length ≤ cc4 := hp.2.capOf
 obtain rfl : nn5 = q.length := hq.len
 have hqcap : q.length ≤ cc5 := hq.2.capOf
 refine enter6 _ Tryz.func44 rfl Tryz.ntmps44 Tryz.results44 rfl ?_
 have S0 := St.start w hH
 refine Wr (Ah S0 fun b1 w2 S3 => ?_)
 refine Ah S3 fun b4 w5 S6 => ?_
 refine Ac S6 fun b7 w8 S9 => ?_
 refine Pv (Nr ?_)
 refine P2 ?_
 refine Ai (hl := by exact hVs hx) 2 S9 ?_
 refine Pv ?_
 refine Cs g_aumbry_aumbryref07_Climb ((climbR_ok S9.le n i hx hp).mono ?_)
 rintro e w11 ⟨rfl, hB10⟩
 have S12 := S9.call hB10
 refine ⟨_, rfl, trivial, ?_⟩
 refine P3 ?_
 refine Ac S12 fun b13 w14 S15 => ?_
 refine Ag (hl := by exact hVs (climbH_len _ _ hx _)) (hl2 := by exact hVs (climbH_len _ _ hx _)) (h1 := by exact one_hA _) 0 S15 fun w16 S17 => ?_
 refine Pv (Nr ?_)
 refine P2 ?_
 refine Ai (hl := by exact hVs hy) 2 S17 ?_
 refine Pv ?_
 refine Cs g_aumbry_aumbryref07_Climb ((climbR_ok S17.le n i hy hq).mono ?_)
 rintro e w19 ⟨rfl, hB18⟩
 have S20 := S17.call hB18
 refine ⟨_, rfl, trivial, ?_⟩
 refine P3 ?_
 refine Ac S20 fun b21 w22 S23 => ?_
 refine Ag (hl := by exact hVs (climbH_len _ _ hy _)) (hl2 := by exact hVs (climbH_len _ _ hy _)) (h1 := by exact one_hA _) 0 S23 fun w24 S25 => ?_
 refine Pv (T_nil (W_seq (Wr ?_)))
 refine P3 ?_
 refine Tp 41 (fun h26' => ?_) (fun h26' => ?_)
 ·have h26 := h26'
  iterate 2 (refine No ?_; refine No ?_; refine Pv ?_; refine Pv ?_; refine No ?_)
  iterate 3 refine No ?_
  iterate 3 refine T_un rfl rfl rfl rfl rfl ?_
  refine No ?_
  refine Pv (T_nil ?_)
  refine W_cond_true rfl (Wr (T_buildS (cells := #[.slice none 0 0, .slice none 0 0]) rfl rfl rfl rfl rfl rfl rfl rfl rfl rfl (Ag (hl := by first | rfl | simp [hVs, *]) (hl2 := by first | rfl | simp [hVs, *]) (h1 := by exact one_all rfl) 2 S25 fun w27 S28 => ?_)))
  refine Pv (T_nil (W_ret ?_))
  refine ⟨_, ⟨_, _, _, rfl, rfl, run_loadVarA rfl rfl (by first | rfl | simp [hVs, *]) (S28.cells 2 rfl), ⟨_, _, rfl, rfl, rfl⟩⟩, ?_⟩
  have hno : (brk n i x y p q) = none := brk_no1 (by simpa using h26)
  rw [hno]
  exact ⟨none, 0, none, 0, rfl, nilB _, nilB _, S28.below⟩
 have h26 := h26'
 iterate 2 (refine Ys ?_; refine Pv ?_)
 refine P2 ?_
 refine Tp 45 (fun h29' => ?_) (fun h29' => ?_)
 ·have h29 := h29'
  iterate 3 refine No ?_
  refine P2 ?_
  iterate 4 refine No ?_
  iterate 3 refine T_un rfl rfl rfl rfl rfl ?_
  refine No ?_
  refine Pv (T_nil ?_)
  refine W_cond_true rfl (Wr (T_buildS (cells := #[.slice none 0 0, .slice none 0 0]) rfl rfl rfl rfl rfl rfl rfl rfl rfl rfl (Ag (hl := by first | rfl | simp [hVs, *]) (hl2 := by first | rfl | simp [hVs, *]) (h1 := by exact one_all rfl) 2 S25 fun w30 S31 => ?_)))
  refine Pv (T_nil (W_ret ?_))
  refine ⟨_, ⟨_, _, _, rfl, rfl, run_loadVarA rfl rfl (by first | rfl | simp [hVs, *]) (S31.cells 2 rfl), ⟨_, _, rfl, rfl, rfl⟩⟩, ?_⟩
  have hno : (brk n i x y p q) = none := brk_no2 (by simpa using h29)
  rw [hno]
  exact ⟨none, 0, none, 0, rfl, nilB _, nilB _, S31.below⟩
 have h29 := h29'
 refine Ys ?_
 refine Ai (hl := by exact hVs (climbH_len _ _ hx _)) 1 S25 ?_
 refine Ys ?_
 refine Ai (hl := by exact hVs (climbH_len _ _ hy _)) 0 S25 ?_
 refine Ys ?_
 refine T_neB (xs := climbH n i x p) (ys := climbH n i y q) rfl rfl rfl rfl rfl rfl rfl rfl rfl rfl rfl (climbH_len _ _ hx _) (climbH_len _ _ hy _) (P2 ?_)
 refine Tn 50 (fun h32 => ?_) (fun h32 => ?_)
 ·iterate 4 refine No ?_
  iterate 3 refine T_un rfl rfl rfl rfl rfl ?_
  refine No ?_
  refine Pv (T_nil ?_)
  refine W_cond_true rfl (Wr (T_buildS (cells := #[.slice none 0 0, .slice none 0 0]) rfl rfl rfl rfl rfl rfl rfl rfl rfl rfl (Ag (hl := by first | rfl | simp [hVs, *]) (hl2 := by first | rfl | simp [hVs, *]) (h1 := by exact one_all rfl) 2 S25 fun w33 S34 => ?_)))
  refine Pv (T_nil (W_ret ?_))
  refine ⟨_, ⟨_, _, _, rfl, rfl, run_loadVarA rfl rfl (by first | rfl | simp [hVs, *]) (S34.cells 2 rfl), ⟨_, _, rfl, rfl, rfl⟩⟩, ?_⟩
  have hno : (brk n i x y p q) = none := brk_no3 h32
  rw [hno]
  exact ⟨none, 0, none, 0, rfl, nilB _, nilB _, S34.below⟩
 refine Ys ?_
 refine Ai (hl := by exact hVs hx) 4 S25 ?_
 refine Ys ?_
 refine Ai (hl := by exact hVs hy) 3 S25 ?_
 refine Ys ?_
 refine T_eqB (xs := x) (ys := y) rfl rfl rfl rfl rfl rfl rfl rfl rfl rfl rfl hx hy (Ys ?_)
 refine Pv ?_
 refine Td 54 (fun h35 => ?_) (fun h35 => ?_)
 ·iterate 2 (refine Ys ?_; refine Pv ?_)
  refine Ys ?_
  have hP8 := okW_bd (n := n) (i := i) (m := p.length) (by simpa using h26)
  refine T_callS rfl rfl g_aumbry_aumbryref07_same rfl rfl rfl rfl ((sameRef_ok S25.le hp hq (by first | omega | (simp; done) | (simp only [List.length_take, List.length_drop]; omega))).mono ?_)
  rintro e w37 ⟨rfl, hB36⟩
  have S38 := S25.call hB36
  refine ⟨_, rfl, trivial, ?_⟩
  refine Ys ?_
  refine P2 (T_nil ?_)
  refine Aa (fun h39 => ?_) (fun h39 => ?_)
  ·refine Wr (T_buildS (cells := #[.slice none 0 0, .slice none 0 0]) rfl rfl rfl rfl rfl rfl rfl rfl rfl rfl (Ag (hl := by first | rfl | simp [hVs, *]) (hl2 := by first | rfl | simp [hVs, *]) (h1 := by exact one_all rfl) 2 S38 fun w40 S41 => ?_))
   refine Pv (T_nil (W_ret ?_))
   refine ⟨_, ⟨_, _, _, rfl, rfl, run_loadVarA rfl rfl (by first | rfl | simp [hVs, *]) (S41.cells 2 rfl), ⟨_, _, rfl, rfl, rfl⟩⟩, ?_⟩
   have hno : (brk n i x y p q) = none := (by rw [h35, h39]; exact brk_same)
   rw [hno]
   exact ⟨none, 0, none, 0, rfl, nilB _, nilB _, S41.below⟩
  refine W_skip (W_seq ?_)
  have hok1 : okW n i p.length = true := by simpa using h26
  have hok2 : okW n i q.length = true := by simpa using h29
  have hcl : climbH n i x p = climbH n i y q := by simpa using h32
  have hXl := waysH_len (x := x) hok1
  have hYl := waysH_len (x := y) hok2
  have hO1 := okW_of hok1
  have hO2 := okW_of hok2
  have hlg := lg_le (n := n.toNat) (m := 8) (by omega)
  refine W_region (P2 (T_nil (W_seq (Wr ?_))))
  refine P3 (T_nil (W_block ?_))
  have S42 := S38.nilRow 24 1
  have rs43 := Rds.nil H
  have S44 := S42.nilRow 24 1
  have rs45 := Rds.nil H
  refine W_loop (fun M ρ w' => ∃ (k : Nat) (a48 : Option Addr) (c49 : Nat) (hs51 : List Value) (a53 : Option Addr) (c54 : Nat) (hs56 : List Value) (G46 : Hp), M = p.length - k ∧ k ≤ p.length ∧ ρ = [(1, .int .i64 ((i.toNat / 2 ^ k : Nat) : Int)), (4, .slice aa4 p.length cc4), (5, .slice aa5 q.length cc5), (8, .pointer (some ⟨b1, 0, none⟩)), (9, .pointer (some ⟨b4, 0, none⟩)), (12, .pointer (some ⟨b7, 0, none⟩)), (18, .slice a48 k c49), (19, .slice a53 k c54), (62, .int .i64 ((p.length : Nat) : Int)), (63, .int .i64 (k : Int))] ∧ H.le G46 ∧ St w H G46 [.row 24 1 (.slice a53 k c54) k hs56, .row 24 1 (.slice a48 k c49) k hs51, .blk b21 (hV (climbH n i y q) : Value).cells 37, .blk b13 (hV (climbH n i x p) : Value).cells 37, .blk b7 (.agg #[.slice none 0 0, .slice none 0 0] : Value).cells 35, .blk b4 (hV (climb i.toNat y q k) : Value).cells 37, .blk b1 (hV (climb i.toNat x p k) : Value).cells 37] w' ∧ Rds G46 hs51 (wtexts i.toNat x p k) ∧ k ≤ c49 ∧ Rds G46 hs56 (wtexts i.toNat y q k) ∧ k ≤ c54)
   (p.length - 0) [(1, .int .i64 ((i.toNat / 2 ^ 0 : Nat) : Int)), (4, .slice aa4 p.length cc4), (5, .slice aa5 q.length cc5), (8, .pointer (some ⟨b1, 0, none⟩)), (9, .pointer (some ⟨b4, 0, none⟩)), (12, .pointer (some ⟨b7, 0, none⟩)), (18, .slice none 0 0), (19, .slice none 0 0), (62, .int .i64 ((p.length : Nat) : Int)), (63, .int .i64 ((0 : Nat) : Int))] ⟨ciI, rfl, rfl, rfl, rfl, rfl, rfl, rfl, ciI, ciI, trivial⟩ ⟨0, none, 0, _, none, 0, _, H, rfl, (by omega), rfl, Hp.le.refl _, S44, rs43, (Nat.le_refl _), rs45, (Nat.le_refl _)⟩ ?_
  rintro M ρ w58 ⟨k, a48, c49, hs51, a53, c54, hs56, G46, rfl, hp60, rfl, hl47, S59, rs52, hc50, rs57, hc55⟩
  refine Wr (Pv (T_nil (W_seq ?_)))
  refine Aa (fun h61 => ?_) (fun h61 => ?_)
  ·refine W_skip (W_seq (W_block (Wr (P2 (T_nil (W_seq (Wr ?_)))))))
   have hnn := Int.natCast_nonneg (i.toNat / 2 ^ k)
   have hdl := Nat.div_le_self i.toNat (2 ^ k)
   refine Pv ?_
   refine T_rem rfl rfl rfl rfl rfl rfl (by omega) ?_
   refine Pv (T_nil ?_)
   refine Aa (fun h62 => ?_) (fun h62 => ?_)
   ·refine W_j1 (fun ρ w' => ∃ (a92 : Option Addr) (c93 : Nat) (a116 : Option Addr) (c117 : Nat) (hs133 : List Value) (hs130 : List Value) (G124 : Hp), ρ = [(1, .int .i64 ((i.toNat / 2 ^ k : Nat) : Int)), (4, .slice aa4 p.length cc4), (5, .slice aa5 q.length cc5), (8, .pointer (some ⟨b1, 0, none⟩)), (9, .pointer (some ⟨b4, 0, none⟩)), (12, .pointer (some ⟨b7, 0, none⟩)), (18, .slice a92 (k + 1) c93), (19, .slice a116 (k + 1) c117), (20, .int .i64 (k : Int)), (62, .int .i64 ((p.length : Nat) : Int)), (63, .int .i64 (k : Int))] ∧ G46.le G124 ∧ St w H G124 [.row 24 1 (.slice a116 (k + 1) c117) (k + 1) hs133, .row 24 1 (.slice a92 (k + 1) c93) (k + 1) hs130, .blk b21 (hV (climbH n i y q) : Value).cells 37, .blk b13 (hV (climbH n i x p) : Value).cells 37, .blk b7 (.agg #[.slice none 0 0, .slice none 0 0] : Value).cells 35, .blk b4 (hV (climb i.toNat y q k) : Value).cells 37, .blk b1 (hV (climb i.toNat x p k) : Value).cells 37] w' ∧ (k + 1) ≤ c93 ∧ Rds G124 hs130 (wtexts i.toNat x p (k + 1)) ∧ (k + 1) ≤ c117 ∧ Rds G124 hs133 (wtexts i.toNat y q (k + 1))) ?_ (fun J128 => ?_)
    ·rintro ρ w127 ⟨a92, c93, a116, c117, hs133, hs130, G124, rfl, hl125, S126, hc129, rs131, hc132, rs134⟩
     refine W_tree (planF Tryz.prog G124 [97]) (.step 0 (.step 1 (.step 2 (.step 3 (.step 4 (.step 7 (.step 8 (.step 9 (.step 10 (.fork 5 6 (.step 6 (.step 11 (.step 12 (.step 13 .done)))) (.step 5 (.step 11 (.step 12 (.step 13 .done)))))))))))))) rfl (by kernel_rfl) S126.le ?_
     have S135 := S126.drew
     refine TT_step rfl (Ai (hl := by exact hVs (climb_len _ hx _ _)) 6 S135 ?_)
     iterate 2 (refine T_nil ?_; refine TT_step rfl ?_; refine Pv ?_)
     refine Nt rfl (Af k (hp.mono (hl47.trans hl125)).2 fun b136 o137 hc138 => ?_)
     have hc139 := cells_h (hp.mono (hl47.trans hl125)).1 k (by omega) hc138
     have hl140 := len_h (hp.mono (hl47.trans hl125)).1 k (by omega)
     refine Nt rfl (T_loadGA _ S135 hc139 rfl rfl rfl rfl rfl rfl rfl rfl (hVs hl140) ?_)
     iterate 2 (refine T_nil ?_; refine TT_step rfl ?_; refine Pv ?_)
     refine Nt rfl (Af k (hq.mono (hl47.trans hl125)).2 fun b141 o142 hc143 => ?_)
     have hc144 := cells_h (hq.mono (hl47.trans hl125)).1 k (by omega) hc143
     have hl145 := len_h (hq.mono (hl47.trans hl125)).1 k (by omega)
     refine Nt rfl (T_loadGAP _ (fun _ h => h) hc144 rfl rfl rfl rfl rfl rfl rfl rfl (hVs hl145) (T_nil (TT_fork rfl rfl ?_ ?_)))
     ·refine Cs g_aumbry_aumbryref07_Node ((nodeR_ok S135.le (climb_len _ hx _ _) hl140).mono ?_)
      rintro e w147 ⟨rfl, hB146⟩
      have S148 := S135.call hB146
      refine ⟨_, rfl, (((Hp.le.refl _)).trans S148.le), ?_⟩
      refine T_re (v' := hV (climb i.toNat x p (k + 1))) (congrArg (fun q => hV q) (climb_even (by omega) (climb_len _ hx _ _))) ?_
      refine Nt rfl (Ai (hl := by exact hVs (climb_len _ hy _ _)) 5 S148 ?_)
      refine Nt rfl (Cs g_aumbry_aumbryref07_Node ((nodeR_ok S148.le (climb_len _ hy _ _) hl145).mono ?_))
      rintro e w150 ⟨rfl, hB149⟩
      have S151 := S148.call hB149
      refine ⟨_, rfl, (((Hp.le.refl _)).trans S151.le), ?_⟩
      refine T_re (v' := hV (climb i.toNat y q (k + 1))) (congrArg (fun q => hV q) (climb_even (by omega) (climb_len _ hy _ _))) ?_
      refine Nt rfl (Ag (hC := fun _ h => ((Hp.le.refl _)).trans h) (hl := by exact hVs (climb_len _ hx _ _)) (hl2 := by exact (hVs (climb_len _ hx _ _)).trans (hVs (climb_len _ hx _ _)).symm) (h1 := by exact one_hA _) 6 S151 fun w152 S153 => ?_)
      refine Nt rfl (Ag (hC := fun _ h => ((Hp.le.refl _)).trans h) (hl := by exact hVs (climb_len _ hy _ _)) (hl2 := by exact (hVs (climb_len _ hy _ _)).trans (hVs (climb_len _ hy _ _)).symm) (h1 := by exact one_hA _) 5 S153 fun w154 S155 => (T_nil (TT_done (W_region ?_))))
      refine Pv ?_
      refine T_quo rfl rfl rfl rfl rfl rfl (by omega) ?_
      refine T_re (v' := .int .i64 ((i.toNat / 2 ^ (k + 1) : Nat) : Int)) (congrArg (Value.int .i64) (half_int _ _)) (Pv (T_nil (W_region ?_)))
      refine Ar ?_
      refine Pv (T_nil ?_)
      exact ⟨p.length - (k + 1), [(1, .int .i64 ((i.toNat / 2 ^ (k + 1) : Nat) : Int)), (4, .slice aa4 p.length cc4), (5, .slice aa5 q.length cc5), (8, .pointer (some ⟨b1, 0, none⟩)), (9, .pointer (some ⟨b4, 0, none⟩)), (12, .pointer (some ⟨b7, 0, none⟩)), (18, .slice a92 (k + 1) c93), (19, .slice a116 (k + 1) c117), (62, .int .i64 ((p.length : Nat) : Int)), (63, .int .i64 ((k + 1 : Nat) : Int))], by omega, ⟨ciI, rfl, rfl, rfl, rfl, rfl, rfl, rfl, ciI, ciI, trivial⟩, k + 1, a92, c93, _, a116, c117, _, G124, rfl, (by omega), rfl, (hl47.trans hl125), S155, rs131, hc129, rs134, hc132⟩
     refine Ai (hl := by exact hVs (climb_len _ hy _ _)) 5 S135 ?_
     refine Nt rfl (Cs g_aumbry_aumbryref07_Node ((nodeR_ok S135.le (climb_len _ hx _ _) hl140).mono ?_))
     rintro e w157 ⟨rfl, hB156⟩
     have S158 := S135.call hB156
     refine ⟨_, rfl, (((Hp.le.refl _)).trans S158.le), ?_⟩
     refine T_re (v' := hV (climb i.toNat x p (k + 1))) (congrArg (fun q => hV q) (climb_even (by omega) (climb_len _ hx _ _))) ?_
     refine Nt rfl (Cs g_aumbry_aumbryref07_Node ((nodeR_ok S158.le (climb_len _ hy _ _) hl145).mono ?_))
     rintro e w160 ⟨rfl, hB159⟩
     have S161 := S158.call hB159
     refine ⟨_, rfl, (((Hp.le.refl _)).trans S161.le), ?_⟩
     refine T_re (v' := hV (climb i.toNat y q (k + 1))) (congrArg (fun q => hV q) (climb_even (by omega) (climb_len _ hy _ _))) ?_
     refine Nt rfl (Ag (hC := fun _ h => ((Hp.le.refl _)).trans h) (hl := by exact hVs (climb_len _ hx _ _)) (hl2 := by exact (hVs (climb_len _ hx _ _)).trans (hVs (climb_len _ hx _ _)).symm) (h1 := by exact one_hA _) 6 S161 fun w162 S163 => ?_)
     refine Nt rfl (Ag (hC := fun _ h => ((Hp.le.refl _)).trans h) (hl := by exact hVs (climb_len _ hy _ _)) (hl2 := by exact (hVs (climb_len _ hy _ _)).trans (hVs (climb_len _ hy _ _)).symm) (h1 := by exact one_hA _) 5 S163 fun w164 S165 => (T_nil (TT_done (W_region ?_))))
     refine Pv ?_
     refine T_quo rfl rfl rfl rfl rfl rfl (by omega) ?_
     refine T_re (v' := .int .i64 ((i.toNat / 2 ^ (k + 1) : Nat) : Int)) (congrArg (Value.int .i64) (half_int _ _)) (Pv (T_nil (W_region ?_)))
     refine Ar ?_
     refine Pv (T_nil ?_)
     exact ⟨p.length - (k + 1), [(1, .int .i64 ((i.toNat / 2 ^ (k + 1) : Nat) : Int)), (4, .slice aa4 p.length cc4), (5, .slice aa5 q.length cc5), (8, .pointer (some ⟨b1, 0, none⟩)), (9, .pointer (some ⟨b4, 0, none⟩)), (12, .pointer (some ⟨b7, 0, none⟩)), (18, .slice a92 (k + 1) c93), (19, .slice a116 (k + 1) c117), (62, .int .i64 ((p.length : Nat) : Int)), (63, .int .i64 ((k + 1 : Nat) : Int))], by omega, ⟨ciI, rfl, rfl, rfl, rfl, rfl, rfl, rfl, ciI, ciI, trivial⟩, k + 1, a92, c93, _, a116, c117, _, G124, rfl, (by omega), rfl, (hl47.trans hl125), S165, rs131, hc129, rs134, hc132⟩
    refine W_seq (W_tree (planF Tryz.prog G46 [83]) (.step 0 (.step 1 (.step 2 (.step 3 (.step 4 (.step 5 (.step 9 (.step 11 (.step 12 (.step 13 (.step 14 (.fork 6 10 (.fork 7 10 (.fork 8 10 (.step 10 (.step 15 (.step 16 (.step 17 (.step 18 (.step 19 .done)))))) (.step 8 (.step 15 (.step 16 (.step 17 (.step 18 (.step 19 .done))))))) (.step 7 (.step 8 (.step 15 (.step 16 (.step 17 (.step 18 (.step 19 .done)))))))) (.step 6 (.step 7 (.step 8 (.step 15 (.step 16 (.step 17 (.step 18 (.step 19 .done)))))))))))))))))))) rfl (by kernel_rfl) S59.le ?_)
    have S166 := S59.drew
    refine TT_step rfl ?_
    have hnn := Int.natCast_nonneg (i.toNat / 2 ^ k)
    have hdl := Nat.div_le_self i.toNat (2 ^ k)
    refine Pv ?_
    refine Nt rfl (Ai (hl := by exact hVs (climb_len _ hx _ _)) 6 S166 ?_)
    iterate 2 (refine T_nil ?_; refine TT_step rfl ?_; refine Pv ?_)
    refine Nt rfl (Af k (hp.mono hl47).2 fun b167 o168 hc169 => ?_)
    have hc170 := cells_h (hp.mono hl47).1 k (by omega) hc169
    have hl171 := len_h (hp.mono hl47).1 k (by omega)
    refine Nt rfl (T_loadGA _ S166 hc170 rfl rfl rfl rfl rfl rfl rfl rfl (hVs hl171) ?_)
    iterate 3 (refine T_nil ?_; refine TT_step rfl ?_; refine Pv ?_)
    refine Nt rfl (Af k (hq.mono hl47).2 fun b172 o173 hc174 => ?_)
    have hc175 := cells_h (hq.mono hl47).1 k (by omega) hc174
    have hl176 := len_h (hq.mono hl47).1 k (by omega)
    refine Nt rfl (T_loadGAP _ (fun _ h => h) hc175 rfl rfl rfl rfl rfl rfl rfl rfl (hVs hl176) (T_nil (TT_fork rfl rfl ?_ ?_)))
    ·refine Cs g_aumbry_aumbryref07_nodeText ((ntextR_ok S166.le (climb_len _ hx _ _) hl171).mono ?_)
     rintro e w182 ⟨a177, c178, hc179, rfl, ho180, hB181⟩
     have S183 := S166.own hB181 ho180
     refine ⟨_, rfl, (((Hp.le.refl _)).trans S183.le), ?_⟩
     refine T_nil (TT_fork rfl rfl ?_ ?_)
     ·obtain ⟨G189, hl190, S188, r191⟩ := S183.stillRow 0 rfl
      have rs192 : Rds G189 [.slice a177 ((Go.Au.text [110, 111, 100, 101] [(climb i.toNat x p k), (p.getD k [])]).length) c178] [Go.Au.text [110, 111, 100, 101] [(climb i.toNat x p k), (p.getD k [])]] := Rds.cons (Rd.canonB r191) (Rds.nil _)
      refine Ad (hone := by simp [Value.cells]; rfl) [.slice a177 ((Go.Au.text [110, 111, 100, 101] [(climb i.toNat x p k), (p.getD k [])]).length) c178] fun a184 w185 hB186 ho187 => ?_
      have S193 := S188.own hB186 ho187
      refine ⟨((hl190).trans S193.le), ?_⟩
      refine T_nil (TT_fork rfl rfl ?_ ?_)
      ·have hD194 : (wtexts i.toNat x p k ++ [Go.Au.text [110, 111, 100, 101] [(climb i.toNat x p k), (p.getD k [])]]) = wtexts i.toNat x p (k + 1) := (wts_even (by omega) (climb_len _ hx _ _))
       refine T_appendS 2 (k + 1) _ S193 (fun _ h => (hl190).trans h) rfl rfl rfl rfl rfl rfl rfl rfl rfl rfl rfl rfl rfl rfl (S193.rd 0 rfl) rs192.one (by first | rfl | (simp; done) | (simp; omega) | omega) rfl (by unfold maxLen; omega) (by show _ * 24 ≤ _; omega) fun a195 c196 w197 hc198 S199 => ?_
       have rs200 := Rds.append (rs52.mono hl190) rs192
       rw [hD194] at rs200
       refine Nt rfl (Ai (hl := by exact hVs (climb_len _ hy _ _)) 6 S199 ?_)
       refine Nt rfl (Cs g_aumbry_aumbryref07_nodeText ((ntextR_ok S199.le (climb_len _ hy _ _) hl176).mono ?_))
       rintro e w206 ⟨a201, c202, hc203, rfl, ho204, hB205⟩
       have S207 := S199.own hB205 ho204
       refine ⟨_, rfl, ((hl190).trans S207.le), ?_⟩
       refine Nt rfl ?_
       obtain ⟨G213, hl214, S212, r215⟩ := S207.stillRow 0 rfl
       have rs216 : Rds G213 [.slice a201 ((Go.Au.text [110, 111, 100, 101] [(climb i.toNat y q k), (q.getD k [])]).length) c202] [Go.Au.text [110, 111, 100, 101] [(climb i.toNat y q k), (q.getD k [])]] := Rds.cons (Rd.canonB r215) (Rds.nil _)
       refine Ad (hone := by simp [Value.cells]; rfl) [.slice a201 ((Go.Au.text [110, 111, 100, 101] [(climb i.toNat y q k), (q.getD k [])]).length) c202] fun a208 w209 hB210 ho211 => ?_
       have S217 := S212.own hB210 ho211
       refine ⟨(((hl190.trans hl214)).trans S217.le), ?_⟩
       refine Nt rfl ?_
       have hD218 : (wtexts i.toNat y q k ++ [Go.Au.text [110, 111, 100, 101] [(climb i.toNat y q k), (q.getD k [])]]) = wtexts i.toNat y q (k + 1) := (wts_even (by omega) (climb_len _ hy _ _))
       refine T_appendS 2 (k + 1) _ S217 (fun _ h => ((hl190.trans hl214)).trans h) rfl rfl rfl rfl rfl rfl rfl rfl rfl rfl rfl rfl rfl rfl (S217.rd 0 rfl) rs216.one (by first | rfl | (simp; done) | (simp; omega) | omega) rfl (by unfold maxLen; omega) (by show _ * 24 ≤ _; omega) fun a219 c220 w221 hc222 S223 => ?_
       have rs224 := Rds.append (rs57.mono (hl190.trans hl214)) rs216
       rw [hD218] at rs224
       iterate 2 (refine T_nil ?_; refine TT_step rfl ?_; refine Pv ?_)
       refine T_nil (TT_done ?_)
       have S225 := S223.drop 1
       have S226 := S225.drop 0
       exact Ws (J128 _ _ ⟨_, _, _, _, _, _, G213, rfl, (hl190.trans hl214), S226, hc198, (rs200.mono hl214), hc222, rs224⟩)
      refine Ai (hl := by exact hVs (climb_len _ hy _ _)) 6 S193 ?_
      refine Nt rfl ?_
      have hD227 : (wtexts i.toNat x p k ++ [Go.Au.text [110, 111, 100, 101] [(climb i.toNat x p k), (p.getD k [])]]) = wtexts i.toNat x p (k + 1) := (wts_even (by omega) (climb_len _ hx _ _))
      refine T_appendS 2 (k + 1) _ S193 (fun _ h => (hl190).trans h) rfl rfl rfl rfl rfl rfl rfl rfl rfl rfl rfl rfl rfl rfl (S193.rd 0 rfl) rs192.one (by first | rfl | (simp; done) | (simp; omega) | omega) rfl (by unfold maxLen; omega) (by show _ * 24 ≤ _; omega) fun a228 c229 w230 hc231 S232 => ?_
      have rs233 := Rds.append (rs52.mono hl190) rs192
      rw [hD227] at rs233
      refine Nt rfl (Cs g_aumbry_aumbryref07_nodeText ((ntextR_ok S232.le (climb_len _ hy _ _) hl176).mono ?_))
      rintro e w239 ⟨a234, c235, hc236, rfl, ho237, hB238⟩
      have S240 := S232.own hB238 ho237
      refine ⟨_, rfl, ((hl190).trans S240.le), ?_⟩
      refine Nt rfl ?_
      obtain ⟨G246, hl247, S245, r248⟩ := S240.stillRow 0 rfl
      have rs249 : Rds G246 [.slice a234 ((Go.Au.text [110, 111, 100, 101] [(climb i.toNat y q k), (q.getD k [])]).length) c235] [Go.Au.text [110, 111, 100, 101] [(climb i.toNat y q k), (q.getD k [])]] := Rds.cons (Rd.canonB r248) (Rds.nil _)
      refine Ad (hone := by simp [Value.cells]; rfl) [.slice a234 ((Go.Au.text [110, 111, 100, 101] [(climb i.toNat y q k), (q.getD k [])]).length) c235] fun a241 w242 hB243 ho244 => ?_
      have S250 := S245.own hB243 ho244
      refine ⟨(((hl190.trans hl247)).trans S250.le), ?_⟩
      refine Nt rfl ?_
      have hD251 : (wtexts i.toNat y q k ++ [Go.Au.text [110, 111, 100, 101] [(climb i.toNat y q k), (q.getD k [])]]) = wtexts i.toNat y q (k + 1) := (wts_even (by omega) (climb_len _ hy _ _))
      refine T_appendS 2 (k + 1) _ S250 (fun _ h => ((hl190.trans hl247)).trans h) rfl rfl rfl rfl rfl rfl rfl rfl rfl rfl rfl rfl rfl rfl (S250.rd 0 rfl) rs249.one (by first | rfl | (simp; done) | (simp; omega) | omega) rfl (by unfold maxLen; omega) (by show _ * 24 ≤ _; omega) fun a252 c253 w254 hc255 S256 => ?_
      have rs257 := Rds.append (rs57.mono (hl190.trans hl247)) rs249
      rw [hD251] at rs257
      iterate 2 (refine T_nil ?_; refine TT_step rfl ?_; refine Pv ?_)
      refine T_nil (TT_done ?_)
      have S258 := S256.drop 1
      have S259 := S258.drop 0
      exact Ws (J128 _ _ ⟨_, _, _, _, _, _, G246, rfl, (hl190.trans hl247), S259, hc231, (rs233.mono hl247), hc255, rs257⟩)
     refine Ai (hl := by exact hVs (climb_len _ hy _ _)) 6 S183 ?_
     refine Nt rfl ?_
     obtain ⟨G265, hl266, S264, r267⟩ := S183.stillRow 0 rfl
     have rs268 : Rds G265 [.slice a177 ((Go.Au.text [110, 111, 100, 101] [(climb i.toNat x p k), (p.getD k [])]).length) c178] [Go.Au.text [110, 111, 100, 101] [(climb i.toNat x p k), (p.getD k [])]] := Rds.cons (Rd.canonB r267) (Rds.nil _)
     refine Ad (hone := by simp [Value.cells]; rfl) [.slice a177 ((Go.Au.text [110, 111, 100, 101] [(climb i.toNat x p k), (p.getD k [])]).length) c178] fun a260 w261 hB262 ho263 => ?_
     have S269 := S264.own hB262 ho263
     refine ⟨((hl266).trans S269.le), ?_⟩
     refine Nt rfl ?_
     have hD270 : (wtexts i.toNat x p k ++ [Go.Au.text [110, 111, 100, 101] [(climb i.toNat x p k), (p.getD k [])]]) = wtexts i.toNat x p (k + 1) := (wts_even (by omega) (climb_len _ hx _ _))
     refine T_appendS 2 (k + 1) _ S269 (fun _ h => (hl266).trans h) rfl rfl rfl rfl rfl rfl rfl rfl rfl rfl rfl rfl rfl rfl (S269.rd 0 rfl) rs268.one (by first | rfl | (simp; done) | (simp; omega) | omega) rfl (by unfold maxLen; omega) (by show _ * 24 ≤ _; omega) fun a271 c272 w273 hc274 S275 => ?_
     have rs276 := Rds.append (rs52.mono hl266) rs268
     rw [hD270] at rs276
     refine Nt rfl (Cs g_aumbry_aumbryref07_nodeText ((ntextR_ok S275.le (climb_len _ hy _ _) hl176).mono ?_))
     rintro e w282 ⟨a277, c278, hc279, rfl, ho280, hB281⟩
     have S283 := S275.own hB281 ho280
     refine ⟨_, rfl, ((hl266).trans S283.le), ?_⟩
     refine Nt rfl ?_
     obtain ⟨G289, hl290, S288, r291⟩ := S283.stillRow 0 rfl
     have rs292 : Rds G289 [.slice a277 ((Go.Au.text [110, 111, 100, 101] [(climb i.toNat y q k), (q.getD k [])]).length) c278] [Go.Au.text [110, 111, 100, 101] [(climb i.toNat y q k), (q.getD k [])]] := Rds.cons (Rd.canonB r291) (Rds.nil _)
     refine Ad (hone := by simp [Value.cells]; rfl) [.slice a277 ((Go.Au.text [110, 111, 100, 101] [(climb i.toNat y q k), (q.getD k [])]).length) c278] fun a284 w285 hB286 ho287 => ?_
     have S293 := S288.own hB286 ho287
     refine ⟨(((hl266.trans hl290)).trans S293.le), ?_⟩
     refine Nt rfl ?_
     have hD294 : (wtexts i.toNat y q k ++ [Go.Au.text [110, 111, 100, 101] [(climb i.toNat y q k), (q.getD k [])]]) = wtexts i.toNat y q (k + 1) := (wts_even (by omega) (climb_len _ hy _ _))
     refine T_appendS 2 (k + 1) _ S293 (fun _ h => ((hl266.trans hl290)).trans h) rfl rfl rfl rfl rfl rfl rfl rfl rfl rfl rfl rfl rfl rfl (S293.rd 0 rfl) rs292.one (by first | rfl | (simp; done) | (simp; omega) | omega) rfl (by unfold maxLen; omega) (by show _ * 24 ≤ _; omega) fun a295 c296 w297 hc298 S299 => ?_
     have rs300 := Rds.append (rs57.mono (hl266.trans hl290)) rs292
     rw [hD294] at rs300
     iterate 2 (refine T_nil ?_; refine TT_step rfl ?_; refine Pv ?_)
     refine T_nil (TT_done ?_)
     have S301 := S299.drop 1
     have S302 := S301.drop 0
     exact Ws (J128 _ _ ⟨_, _, _, _, _, _, G289, rfl, (hl266.trans hl290), S302, hc274, (rs276.mono hl290), hc298, rs300⟩)
    refine Ai (hl := by exact hVs (climb_len _ hy _ _)) 5 S166 ?_
    refine Nt rfl (Cs g_aumbry_aumbryref07_nodeText ((ntextR_ok S166.le (climb_len _ hx _ _) hl171).mono ?_))
    rintro e w308 ⟨a303, c304, hc305, rfl, ho306, hB307⟩
    have S309 := S166.own hB307 ho306
    refine ⟨_, rfl, (((Hp.le.refl _)).trans S309.le), ?_⟩
    refine Nt rfl ?_
    obtain ⟨G315, hl316, S314, r317⟩ := S309.stillRow 0 rfl
    have rs318 : Rds G315 [.slice a303 ((Go.Au.text [110, 111, 100, 101] [(climb i.toNat x p k), (p.getD k [])]).length) c304] [Go.Au.text [110, 111, 100, 101] [(climb i.toNat x p k), (p.getD k [])]] := Rds.cons (Rd.canonB r317) (Rds.nil _)
    refine Ad (hone := by simp [Value.cells]; rfl) [.slice a303 ((Go.Au.text [110, 111, 100, 101] [(climb i.toNat x p k), (p.getD k [])]).length) c304] fun a310 w311 hB312 ho313 => ?_
    have S319 := S314.own hB312 ho313
    refine ⟨((hl316).trans S319.le), ?_⟩
    refine Nt rfl ?_
    have hD320 : (wtexts i.toNat x p k ++ [Go.Au.text [110, 111, 100, 101] [(climb i.toNat x p k), (p.getD k [])]]) = wtexts i.toNat x p (k + 1) := (wts_even (by omega) (climb_len _ hx _ _))
    refine T_appendS 2 (k + 1) _ S319 (fun _ h => (hl316).trans h) rfl rfl rfl rfl rfl rfl rfl rfl rfl rfl rfl rfl rfl rfl (S319.rd 0 rfl) rs318.one (by first | rfl | (simp; done) | (simp; omega) | omega) rfl (by unfold maxLen; omega) (by show _ * 24 ≤ _; omega) fun a321 c322 w323 hc324 S325 => ?_
    have rs326 := Rds.append (rs52.mono hl316) rs318
    rw [hD320] at rs326
    refine Nt rfl (Cs g_aumbry_aumbryref07_nodeText ((ntextR_ok S325.le (climb_len _ hy _ _) hl176).mono ?_))
    rintro e w332 ⟨a327, c328, hc329, rfl, ho330, hB331⟩
    have S333 := S325.own hB331 ho330
    refine ⟨_, rfl, ((hl316).trans S333.le), ?_⟩
    refine Nt rfl ?_
    obtain ⟨G339, hl340, S338, r341⟩ := S333.stillRow 0 rfl
    have rs342 : Rds G339 [.slice a327 ((Go.Au.text [110, 111, 100, 101] [(climb i.toNat y q k), (q.getD k [])]).length) c328] [Go.Au.text [110, 111, 100, 101] [(climb i.toNat y q k), (q.getD k [])]] := Rds.cons (Rd.canonB r341) (Rds.nil _)
    refine Ad (hone := by simp [Value.cells]; rfl) [.slice a327 ((Go.Au.text [110, 111, 100, 101] [(climb i.toNat y q k), (q.getD k [])]).length) c328] fun a334 w335 hB336 ho337 => ?_
    have S343 := S338.own hB336 ho337
    refine ⟨(((hl316.trans hl340)).trans S343.le), ?_⟩
    refine Nt rfl ?_
    have hD344 : (wtexts i.toNat y q k ++ [Go.Au.text [110, 111, 100, 101] [(climb i.toNat y q k), (q.getD k [])]]) = wtexts i.toNat y q (k + 1) := (wts_even (by omega) (climb_len _ hy _ _))
    refine T_appendS 2 (k + 1) _ S343 (fun _ h => ((hl316.trans hl340)).trans h) rfl rfl rfl rfl rfl rfl rfl rfl rfl rfl rfl rfl rfl rfl (S343.rd 0 rfl) rs342.one (by first | rfl | (simp; done) | (simp; omega) | omega) rfl (by unfold maxLen; omega) (by show _ * 24 ≤ _; omega) fun a345 c346 w347 hc348 S349 => ?_
    have rs350 := Rds.append (rs57.mono (hl316.trans hl340)) rs342
    rw [hD344] at rs350
    iterate 2 (refine T_nil ?_; refine TT_step rfl ?_; refine Pv ?_)
    refine T_nil (TT_done ?_)
    have S351 := S349.drop 1
    have S352 := S351.drop 0
    exact Ws (J128 _ _ ⟨_, _, _, _, _, _, G339, rfl, (hl316.trans hl340), S352, hc324, (rs326.mono hl340), hc348, rs350⟩)
   refine W_j1 (fun ρ w' => ∃ (a382 : Option Addr) (c383 : Nat) (a406 : Option Addr) (c407 : Nat) (hs423 : List Value) (hs420 : List Value) (G414 : Hp), ρ = [(1, .int .i64 ((i.toNat / 2 ^ k : Nat) : Int)), (4, .slice aa4 p.length cc4), (5, .slice aa5 q.length cc5), (8, .pointer (some ⟨b1, 0, none⟩)), (9, .pointer (some ⟨b4, 0, none⟩)), (12, .pointer (some ⟨b7, 0, none⟩)), (18, .slice a382 (k + 1) c383), (19, .slice a406 (k + 1) c407), (20, .int .i64 (k : Int)), (62, .int .i64 ((p.length : Nat) : Int)), (63, .int .i64 (k : Int))] ∧ G46.le G414 ∧ St w H G414 [.row 24 1 (.slice a406 (k + 1) c407) (k + 1) hs423, .row 24 1 (.slice a382 (k + 1) c383) (k + 1) hs420, .blk b21 (hV (climbH n i y q) : Value).cells 37, .blk b13 (hV (climbH n i x p) : Value).cells 37, .blk b7 (.agg #[.slice none 0 0, .slice none 0 0] : Value).cells 35, .blk b4 (hV (climb i.toNat y q k) : Value).cells 37, .blk b1 (hV (climb i.toNat x p k) : Value).cells 37] w' ∧ (k + 1) ≤ c383 ∧ Rds G414 hs420 (wtexts i.toNat x p (k + 1)) ∧ (k + 1) ≤ c407 ∧ Rds G414 hs423 (wtexts i.toNat y q (k + 1))) ?_ (fun J418 => ?_)
   ·rintro ρ w417 ⟨a382, c383, a406, c407, hs423, hs420, G414, rfl, hl415, S416, hc419, rs421, hc422, rs424⟩
    refine W_tree (planF Tryz.prog G414 [126]) (.step 0 (.step 1 (.step 2 (.step 3 (.step 4 (.step 6 (.step 7 (.step 8 (.step 9 (.fork 5 10 (.step 10 (.step 11 (.step 12 (.step 13 .done)))) (.step 5 (.step 11 (.step 12 (.step 13 .done)))))))))))))) rfl (by kernel_rfl) S416.le ?_
    have S425 := S416.drew
    iterate 2 (refine TT_step rfl ?_; refine Pv ?_; refine T_nil ?_)
    refine TT_step rfl (Af k (hp.mono (hl47.trans hl415)).2 fun b426 o427 hc428 => ?_)
    have hc429 := cells_h (hp.mono (hl47.trans hl415)).1 k (by omega) hc428
    have hl430 := len_h (hp.mono (hl47.trans hl415)).1 k (by omega)
    refine Nt rfl (T_loadGA _ S425 hc429 rfl rfl rfl rfl rfl rfl rfl rfl (hVs hl430) (Nt rfl (Ai (hl := by exact hVs (climb_len _ hx _ _)) 6 S425 ?_)))
    iterate 2 (refine T_nil ?_; refine TT_step rfl ?_; refine Pv ?_)
    refine Nt rfl (Af k (hq.mono (hl47.trans hl415)).2 fun b431 o432 hc433 => ?_)
    have hc434 := cells_h (hq.mono (hl47.trans hl415)).1 k (by omega) hc433
    have hl435 := len_h (hq.mono (hl47.trans hl415)).1 k (by omega)
    refine Nt rfl (T_loadGAP _ (fun _ h => h) hc434 rfl rfl rfl rfl rfl rfl rfl rfl (hVs hl435) (T_nil (TT_fork rfl rfl ?_ ?_)))
    ·refine Cs g_aumbry_aumbryref07_Node ((nodeR_ok S425.le hl430 (climb_len _ hx _ _)).mono ?_)
     rintro e w437 ⟨rfl, hB436⟩
     have S438 := S425.call hB436
     refine ⟨_, rfl, (((Hp.le.refl _)).trans S438.le), ?_⟩
     refine T_re (v' := hV (climb i.toNat x p (k + 1))) (congrArg (fun q => hV q) (climb_odd (by omega) (len_h hp.1 k (by omega)))) ?_
     refine Nt rfl (Ai (hl := by exact hVs (climb_len _ hy _ _)) 5 S438 ?_)
     refine Nt rfl (Cs g_aumbry_aumbryref07_Node ((nodeR_ok S438.le hl435 (climb_len _ hy _ _)).mono ?_))
     rintro e w440 ⟨rfl, hB439⟩
     have S441 := S438.call hB439
     refine ⟨_, rfl, (((Hp.le.refl _)).trans S441.le), ?_⟩
     refine T_re (v' := hV (climb i.toNat y q (k + 1))) (congrArg (fun q => hV q) (climb_odd (by omega) (len_h hq.1 k (by omega)))) ?_
     refine Nt rfl (Ag (hC := fun _ h => ((Hp.le.refl _)).trans h) (hl := by exact hVs (climb_len _ hx _ _)) (hl2 := by exact (hVs (climb_len _ hx _ _)).trans (hVs (climb_len _ hx _ _)).symm) (h1 := by exact one_hA _) 6 S441 fun w442 S443 => ?_)
     refine Nt rfl (Ag (hC := fun _ h => ((Hp.le.refl _)).trans h) (hl := by exact hVs (climb_len _ hy _ _)) (hl2 := by exact (hVs (climb_len _ hy _ _)).trans (hVs (climb_len _ hy _ _)).symm) (h1 := by exact one_hA _) 5 S443 fun w444 S445 => (T_nil (TT_done (W_region ?_))))
     refine Pv ?_
     refine T_quo rfl rfl rfl rfl rfl rfl (by omega) ?_
     refine T_re (v' := .int .i64 ((i.toNat / 2 ^ (k + 1) : Nat) : Int)) (congrArg (Value.int .i64) (half_int _ _)) (Pv (T_nil (W_region ?_)))
     refine Ar ?_
     refine Pv (T_nil ?_)
     exact ⟨p.length - (k + 1), [(1, .int .i64 ((i.toNat / 2 ^ (k + 1) : Nat) : Int)), (4, .slice aa4 p.length cc4), (5, .slice aa5 q.length cc5), (8, .pointer (some ⟨b1, 0, none⟩)), (9, .pointer (some ⟨b4, 0, none⟩)), (12, .pointer (some ⟨b7, 0, none⟩)), (18, .slice a382 (k + 1) c383), (19, .slice a406 (k + 1) c407), (62, .int .i64 ((p.length : Nat) : Int)), (63, .int .i64 ((k + 1 : Nat) : Int))], by omega, ⟨ciI, rfl, rfl, rfl, rfl, rfl, rfl, rfl, ciI, ciI, trivial⟩, k + 1, a382, c383, _, a406, c407, _, G414, rfl, (by omega), rfl, (hl47.trans hl415), S445, rs421, hc419, rs424, hc422⟩
    refine Ai (hl := by exact hVs (climb_len _ hy _ _)) 5 S425 ?_
    refine Nt rfl (Cs g_aumbry_aumbryref07_Node ((nodeR_ok S425.le hl430 (climb_len _ hx _ _)).mono ?_))
    rintro e w447 ⟨rfl, hB446⟩
    have S448 := S425.call hB446
    refine ⟨_, rfl, (((Hp.le.refl _)).trans S448.le), ?_⟩
    refine T_re (v' := hV (climb i.toNat x p (k + 1))) (congrArg (fun q => hV q) (climb_odd (by omega) (len_h hp.1 k (by omega)))) ?_
    refine Nt rfl (Cs g_aumbry_aumbryref07_Node ((nodeR_ok S448.le hl435 (climb_len _ hy _ _)).mono ?_))
    rintro e w450 ⟨rfl, hB449⟩
    have S451 := S448.call hB449
    refine ⟨_, rfl, (((Hp.le.refl _)).trans S451.le), ?_⟩
    refine T_re (v' := hV (climb i.toNat y q (k + 1))) (congrArg (fun q => hV q) (climb_odd (by omega) (len_h hq.1 k (by omega)))) ?_
    refine Nt rfl (Ag (hC := fun _ h => ((Hp.le.refl _)).trans h) (hl := by exact hVs (climb_len _ hx _ _)) (hl2 := by exact (hVs (climb_len _ hx _ _)).trans (hVs (climb_len _ hx _ _)).symm) (h1 := by exact one_hA _) 6 S451 fun w452 S453 => ?_)
    refine Nt rfl (Ag (hC := fun _ h => ((Hp.le.refl _)).trans h) (hl := by exact hVs (climb_len _ hy _ _)) (hl2 := by exact (hVs (climb_len _ hy _ _)).trans (hVs (climb_len _ hy _ _)).symm) (h1 := by exact one_hA _) 5 S453 fun w454 S455 => (T_nil (TT_done (W_region ?_))))
    refine Pv ?_
    refine T_quo rfl rfl rfl rfl rfl rfl (by omega) ?_
    refine T_re (v' := .int .i64 ((i.toNat / 2 ^ (k + 1) : Nat) : Int)) (congrArg (Value.int .i64) (half_int _ _)) (Pv (T_nil (W_region ?_)))
    refine Ar ?_
    refine Pv (T_nil ?_)
    exact ⟨p.length - (k + 1), [(1, .int .i64 ((i.toNat / 2 ^ (k + 1) : Nat) : Int)), (4, .slice aa4 p.length cc4), (5, .slice aa5 q.length cc5), (8, .pointer (some ⟨b1, 0, none⟩)), (9, .pointer (some ⟨b4, 0, none⟩)), (12, .pointer (some ⟨b7, 0, none⟩)), (18, .slice a382 (k + 1) c383), (19, .slice a406 (k + 1) c407), (62, .int .i64 ((p.length : Nat) : Int)), (63, .int .i64 ((k + 1 : Nat) : Int))], by omega, ⟨ciI, rfl, rfl, rfl, rfl, rfl, rfl, rfl, ciI, ciI, trivial⟩, k + 1, a382, c383, _, a406, c407, _, G414, rfl, (by omega), rfl, (hl47.trans hl415), S455, rs421, hc419, rs424, hc422⟩
   refine W_seq (W_tree (planF Tryz.prog G46 [112]) (.step 0 (.step 1 (.step 2 (.step 3 (.step 4 (.step 5 (.step 9 (.step 10 (.step 11 (.step 12 (.step 13 (.fork 6 14 (.fork 7 14 (.fork 8 14 (.step 14 (.step 15 (.step 16 (.step 17 (.step 18 (.step 19 .done)))))) (.step 8 (.step 15 (.step 16 (.step 17 (.step 18 (.step 19 .done))))))) (.step 7 (.step 8 (.step 15 (.step 16 (.step 17 (.step 18 (.step 19 .done)))))))) (.step 6 (.step 7 (.step 8 (.step 15 (.step 16 (.step 17 (.step 18 (.step 19 .done)))))))))))))))))))) rfl (by kernel_rfl) S59.le ?_)
   have S456 := S59.drew
   iterate 3 (refine TT_step rfl ?_; refine Pv ?_; refine T_nil ?_)
   refine TT_step rfl (Af k (hp.mono hl47).2 fun b457 o458 hc459 => ?_)
   have hc460 := cells_h (hp.mono hl47).1 k (by omega) hc459
   have hl461 := len_h (hp.mono hl47).1 k (by omega)
   refine Nt rfl (T_loadGA _ S456 hc460 rfl rfl rfl rfl rfl rfl rfl rfl (hVs hl461) (Nt rfl (Ai (hl := by exact hVs (climb_len _ hx _ _)) 6 S456 ?_)))
   iterate 3 (refine T_nil ?_; refine TT_step rfl ?_; refine Pv ?_)
   refine Nt rfl (Af k (hq.mono hl47).2 fun b462 o463 hc464 => ?_)
   have hc465 := cells_h (hq.mono hl47).1 k (by omega) hc464
   have hl466 := len_h (hq.mono hl47).1 k (by omega)
   refine Nt rfl (T_loadGAP _ (fun _ h => h) hc465 rfl rfl rfl rfl rfl rfl rfl rfl (hVs hl466) (T_nil (TT_fork rfl rfl ?_ ?_)))
   ·refine Cs g_aumbry_aumbryref07_nodeText ((ntextR_ok S456.le hl461 (climb_len _ hx _ _)).mono ?_)
    rintro e w472 ⟨a467, c468, hc469, rfl, ho470, hB471⟩
    have S473 := S456.own hB471 ho470
    refine ⟨_, rfl, (((Hp.le.refl _)).trans S473.le), ?_⟩
    refine T_nil (TT_fork rfl rfl ?_ ?_)
    ·obtain ⟨G479, hl480, S478, r481⟩ := S473.stillRow 0 rfl
     have rs482 : Rds G479 [.slice a467 ((Go.Au.text [110, 111, 100, 101] [(p.getD k []), (climb i.toNat x p k)]).length) c468] [Go.Au.text [110, 111, 100, 101] [(p.getD k []), (climb i.toNat x p k)]] := Rds.cons (Rd.canonB r481) (Rds.nil _)
     refine Ad (hone := by simp [Value.cells]; rfl) [.slice a467 ((Go.Au.text [110, 111, 100, 101] [(p.getD k []), (climb i.toNat x p k)]).length) c468] fun a474 w475 hB476 ho477 => ?_
     have S483 := S478.own hB476 ho477
     refine ⟨((hl480).trans S483.le), ?_⟩
     refine T_nil (TT_fork rfl rfl ?_ ?_)
     ·have hD484 : (wtexts i.toNat x p k ++ [Go.Au.text [110, 111, 100, 101] [(p.getD k []), (climb i.toNat x p k)]]) = wtexts i.toNat x p (k + 1) := (wts_odd (by omega) (len_h hp.1 k (by omega)))
      refine T_appendS 2 (k + 1) _ S483 (fun _ h => (hl480).trans h) rfl rfl rfl rfl rfl rfl rfl rfl rfl rfl rfl rfl rfl rfl (S483.rd 0 rfl) rs482.one (by first | rfl | (simp; done) | (simp; omega) | omega) rfl (by unfold maxLen; omega) (by show _ * 24 ≤ _; omega) fun a485 c486 w487 hc488 S489 => ?_
      have rs490 := Rds.append (rs52.mono hl480) rs482
      rw [hD484] at rs490
      refine Nt rfl (Ai (hl := by exact hVs (climb_len _ hy _ _)) 6 S489 ?_)
      refine Nt rfl (Cs g_aumbry_aumbryref07_nodeText ((ntextR_ok S489.le hl466 (climb_len _ hy _ _)).mono ?_))
      rintro e w496 ⟨a491, c492, hc493, rfl, ho494, hB495⟩
      have S497 := S489.own hB495 ho494
      refine ⟨_, rfl, ((hl480).trans S497.le), ?_⟩
      refine Nt rfl ?_
      obtain ⟨G503, hl504, S502, r505⟩ := S497.stillRow 0 rfl
      have rs506 : Rds G503 [.slice a491 ((Go.Au.text [110, 111, 100, 101] [(q.getD k []), (climb i.toNat y q k)]).length) c492] [Go.Au.text [110, 111, 100, 101] [(q.getD k []), (climb i.toNat y q k)]] := Rds.cons (Rd.canonB r505) (Rds.nil _)
      refine Ad (hone := by simp [Value.cells]; rfl) [.slice a491 ((Go.Au.text [110, 111, 100, 101] [(q.getD k []), (climb i.toNat y q k)]).length) c492] fun a498 w499 hB500 ho501 => ?_
      have S507 := S502.own hB500 ho501
      refine ⟨(((hl480.trans hl504)).trans S507.le), ?_⟩
      refine Nt rfl ?_
      have hD508 : (wtexts i.toNat y q k ++ [Go.Au.text [110, 111, 100, 101] [(q.getD k []), (climb i.toNat y q k)]]) = wtexts i.toNat y q (k + 1) := (wts_odd (by omega) (len_h hq.1 k (by omega)))
      refine T_appendS 2 (k + 1) _ S507 (fun _ h => ((hl480.trans hl504)).trans h) rfl rfl rfl rfl rfl rfl rfl rfl rfl rfl rfl rfl rfl rfl (S507.rd 0 rfl) rs506.one (by first | rfl | (simp; done) | (simp; omega) | omega) rfl (by unfold maxLen; omega) (by show _ * 24 ≤ _; omega) fun a509 c510 w511 hc512 S513 => ?_
      have rs514 := Rds.append (rs57.mono (hl480.trans hl504)) rs506
      rw [hD508] at rs514
      iterate 2 (refine T_nil ?_; refine TT_step rfl ?_; refine Pv ?_)
      refine T_nil (TT_done ?_)
      have S515 := S513.drop 1
      have S516 := S515.drop 0
      exact Ws (J418 _ _ ⟨_, _, _, _, _, _, G503, rfl, (hl480.trans hl504), S516, hc488, (rs490.mono hl504), hc512, rs514⟩)
     refine Ai (hl := by exact hVs (climb_len _ hy _ _)) 6 S483 ?_
     refine Nt rfl ?_
     have hD517 : (wtexts i.toNat x p k ++ [Go.Au.text [110, 111, 100, 101] [(p.getD k []), (climb i.toNat x p k)]]) = wtexts i.toNat x p (k + 1) := (wts_odd (by omega) (len_h hp.1 k (by omega)))
     refine T_appendS 2 (k + 1) _ S483 (fun _ h => (hl480).trans h) rfl rfl rfl rfl rfl rfl rfl rfl rfl rfl rfl rfl rfl rfl (S483.rd 0 rfl) rs482.one (by first | rfl | (simp; done) | (simp; omega) | omega) rfl (by unfold maxLen; omega) (by show _ * 24 ≤ _; omega) fun a518 c519 w520 hc521 S522 => ?_
     have rs523 := Rds.append (rs52.mono hl480) rs482
     rw [hD517] at rs523
     refine Nt rfl (Cs g_aumbry_aumbryref07_nodeText ((ntextR_ok S522.le hl466 (climb_len _ hy _ _)).mono ?_))
     rintro e w529 ⟨a524, c525, hc526, rfl, ho527, hB528⟩
     have S530 := S522.own hB528 ho527
     refine ⟨_, rfl, ((hl480).trans S530.le), ?_⟩
     refine Nt rfl ?_
     obtain ⟨G536, hl537, S535, r538⟩ := S530.stillRow 0 rfl
     have rs539 : Rds G536 [.slice a524 ((Go.Au.text [110, 111, 100, 101] [(q.getD k []), (climb i.toNat y q k)]).length) c525] [Go.Au.text [110, 111, 100, 101] [(q.getD k []), (climb i.toNat y q k)]] := Rds.cons (Rd.canonB r538) (Rds.nil _)
     refine Ad (hone := by simp [Value.cells]; rfl) [.slice a524 ((Go.Au.text [110, 111, 100, 101] [(q.getD k []), (climb i.toNat y q k)]).length) c525] fun a531 w532 hB533 ho534 => ?_
     have S540 := S535.own hB533 ho534
     refine ⟨(((hl480.trans hl537)).trans S540.le), ?_⟩
     refine Nt rfl ?_
     have hD541 : (wtexts i.toNat y q k ++ [Go.Au.text [110, 111, 100, 101] [(q.getD k []), (climb i.toNat y q k)]]) = wtexts i.toNat y q (k + 1) := (wts_odd (by omega) (len_h hq.1 k (by omega)))
     refine T_appendS 2 (k + 1) _ S540 (fun _ h => ((hl480.trans hl537)).trans h) rfl rfl rfl rfl rfl rfl rfl rfl rfl rfl rfl rfl rfl rfl (S540.rd 0 rfl) rs539.one (by first | rfl | (simp; done) | (simp; omega) | omega) rfl (by unfold maxLen; omega) (by show _ * 24 ≤ _; omega) fun a542 c543 w544 hc545 S546 => ?_
     have rs547 := Rds.append (rs57.mono (hl480.trans hl537)) rs539
     rw [hD541] at rs547
     iterate 2 (refine T_nil ?_; refine TT_step rfl ?_; refine Pv ?_)
     refine T_nil (TT_done ?_)
     have S548 := S546.drop 1
     have S549 := S548.drop 0
     exact Ws (J418 _ _ ⟨_, _, _, _, _, _, G536, rfl, (hl480.trans hl537), S549, hc521, (rs523.mono hl537), hc545, rs547⟩)
    refine Ai (hl := by exact hVs (climb_len _ hy _ _)) 6 S473 ?_
    refine Nt rfl ?_
    obtain ⟨G555, hl556, S554, r557⟩ := S473.stillRow 0 rfl
    have rs558 : Rds G555 [.slice a467 ((Go.Au.text [110, 111, 100, 101] [(p.getD k []), (climb i.toNat x p k)]).length) c468] [Go.Au.text [110, 111, 100, 101] [(p.getD k []), (climb i.toNat x p k)]] := Rds.cons (Rd.canonB r557) (Rds.nil _)
    refine Ad (hone := by simp [Value.cells]; rfl) [.slice a467 ((Go.Au.text [110, 111, 100, 101] [(p.getD k []), (climb i.toNat x p k)]).length) c468] fun a550 w551 hB552 ho553 => ?_
    have S559 := S554.own hB552 ho553
    refine ⟨((hl556).trans S559.le), ?_⟩
    refine Nt rfl ?_
    have hD560 : (wtexts i.toNat x p k ++ [Go.Au.text [110, 111, 100, 101] [(p.getD k []), (climb i.toNat x p k)]]) = wtexts i.toNat x p (k + 1) := (wts_odd (by omega) (len_h hp.1 k (by omega)))
    refine T_appendS 2 (k + 1) _ S559 (fun _ h => (hl556).trans h) rfl rfl rfl rfl rfl rfl rfl rfl rfl rfl rfl rfl rfl rfl (S559.rd 0 rfl) rs558.one (by first | rfl | (simp; done) | (simp; omega) | omega) rfl (by unfold maxLen; omega) (by show _ * 24 ≤ _; omega) fun a561 c562 w563 hc564 S565 => ?_
    have rs566 := Rds.append (rs52.mono hl556) rs558
    rw [hD560] at rs566
    refine Nt rfl (Cs g_aumbry_aumbryref07_nodeText ((ntextR_ok S565.le hl466 (climb_len _ hy _ _)).mono ?_))
    rintro e w572 ⟨a567, c568, hc569, rfl, ho570, hB571⟩
    have S573 := S565.own hB571 ho570
    refine ⟨_, rfl, ((hl556).trans S573.le), ?_⟩
    refine Nt rfl ?_
    obtain ⟨G579, hl580, S578, r581⟩ := S573.stillRow 0 rfl
    have rs582 : Rds G579 [.slice a567 ((Go.Au.text [110, 111, 100, 101] [(q.getD k []), (climb i.toNat y q k)]).length) c568] [Go.Au.text [110, 111, 100, 101] [(q.getD k []), (climb i.toNat y q k)]] := Rds.cons (Rd.canonB r581) (Rds.nil _)
    refine Ad (hone := by simp [Value.cells]; rfl) [.slice a567 ((Go.Au.text [110, 111, 100, 101] [(q.getD k []), (climb i.toNat y q k)]).length) c568] fun a574 w575 hB576 ho577 => ?_
    have S583 := S578.own hB576 ho577
    refine ⟨(((hl556.trans hl580)).trans S583.le), ?_⟩
    refine Nt rfl ?_
    have hD584 : (wtexts i.toNat y q k ++ [Go.Au.text [110, 111, 100, 101] [(q.getD k []), (climb i.toNat y q k)]]) = wtexts i.toNat y q (k + 1) := (wts_odd (by omega) (len_h hq.1 k (by omega)))
    refine T_appendS 2 (k + 1) _ S583 (fun _ h => ((hl556.trans hl580)).trans h) rfl rfl rfl rfl rfl rfl rfl rfl rfl rfl rfl rfl rfl rfl (S583.rd 0 rfl) rs582.one (by first | rfl | (simp; done) | (simp; omega) | omega) rfl (by unfold maxLen; omega) (by show _ * 24 ≤ _; omega) fun a585 c586 w587 hc588 S589 => ?_
    have rs590 := Rds.append (rs57.mono (hl556.trans hl580)) rs582
    rw [hD584] at rs590
    iterate 2 (refine T_nil ?_; refine TT_step rfl ?_; refine Pv ?_)
    refine T_nil (TT_done ?_)
    have S591 := S589.drop 1
    have S592 := S591.drop 0
    exact Ws (J418 _ _ ⟨_, _, _, _, _, _, G579, rfl, (hl556.trans hl580), S592, hc564, (rs566.mono hl580), hc588, rs590⟩)
   refine Ai (hl := by exact hVs (climb_len _ hy _ _)) 5 S456 ?_
   refine Nt rfl (Cs g_aumbry_aumbryref07_nodeText ((ntextR_ok S456.le hl461 (climb_len _ hx _ _)).mono ?_))
   rintro e w598 ⟨a593, c594, hc595, rfl, ho596, hB597⟩
   have S599 := S456.own hB597 ho596
   refine ⟨_, rfl, (((Hp.le.refl _)).trans S599.le), ?_⟩
   refine Nt rfl ?_
   obtain ⟨G605, hl606, S604, r607⟩ := S599.stillRow 0 rfl
   have rs608 : Rds G605 [.slice a593 ((Go.Au.text [110, 111, 100, 101] [(p.getD k []), (climb i.toNat x p k)]).length) c594] [Go.Au.text [110, 111, 100, 101] [(p.getD k []), (climb i.toNat x p k)]] := Rds.cons (Rd.canonB r607) (Rds.nil _)
   refine Ad (hone := by simp [Value.cells]; rfl) [.slice a593 ((Go.Au.text [110, 111, 100, 101] [(p.getD k []), (climb i.toNat x p k)]).length) c594] fun a600 w601 hB602 ho603 => ?_
   have S609 := S604.own hB602 ho603
   refine ⟨((hl606).trans S609.le), ?_⟩
   refine Nt rfl ?_
   have hD610 : (wtexts i.toNat x p k ++ [Go.Au.text [110, 111, 100, 101] [(p.getD k []), (climb i.toNat x p k)]]) = wtexts i.toNat x p (k + 1) := (wts_odd (by omega) (len_h hp.1 k (by omega)))
   refine T_appendS 2 (k + 1) _ S609 (fun _ h => (hl606).trans h) rfl rfl rfl rfl rfl rfl rfl rfl rfl rfl rfl rfl rfl rfl (S609.rd 0 rfl) rs608.one (by first | rfl | (simp; done) | (simp; omega) | omega) rfl (by unfold maxLen; omega) (by show _ * 24 ≤ _; omega) fun a611 c612 w613 hc614 S615 => ?_
   have rs616 := Rds.append (rs52.mono hl606) rs608
   rw [hD610] at rs616
   refine Nt rfl (Cs g_aumbry_aumbryref07_nodeText ((ntextR_ok S615.le hl466 (climb_len _ hy _ _)).mono ?_))
   rintro e w622 ⟨a617, c618, hc619, rfl, ho620, hB621⟩
   have S623 := S615.own hB621 ho620
   refine ⟨_, rfl, ((hl606).trans S623.le), ?_⟩
   refine Nt rfl ?_
   obtain ⟨G629, hl630, S628, r631⟩ := S623.stillRow 0 rfl
   have rs632 : Rds G629 [.slice a617 ((Go.Au.text [110, 111, 100, 101] [(q.getD k []), (climb i.toNat y q k)]).length) c618] [Go.Au.text [110, 111, 100, 101] [(q.getD k []), (climb i.toNat y q k)]] := Rds.cons (Rd.canonB r631) (Rds.nil _)
   refine Ad (hone := by simp [Value.cells]; rfl) [.slice a617 ((Go.Au.text [110, 111, 100, 101] [(q.getD k []), (climb i.toNat y q k)]).length) c618] fun a624 w625 hB626 ho627 => ?_
   have S633 := S628.own hB626 ho627
   refine ⟨(((hl606.trans hl630)).trans S633.le), ?_⟩
   refine Nt rfl ?_
   have hD634 : (wtexts i.toNat y q k ++ [Go.Au.text [110, 111, 100, 101] [(q.getD k []), (climb i.toNat y q k)]]) = wtexts i.toNat y q (k + 1) := (wts_odd (by omega) (len_h hq.1 k (by omega)))
   refine T_appendS 2 (k + 1) _ S633 (fun _ h => ((hl606.trans hl630)).trans h) rfl rfl rfl rfl rfl rfl rfl rfl rfl rfl rfl rfl rfl rfl (S633.rd 0 rfl) rs632.one (by first | rfl | (simp; done) | (simp; omega) | omega) rfl (by unfold maxLen; omega) (by show _ * 24 ≤ _; omega) fun a635 c636 w637 hc638 S639 => ?_
   have rs640 := Rds.append (rs57.mono (hl606.trans hl630)) rs632
   rw [hD634] at rs640
   iterate 2 (refine T_nil ?_; refine TT_step rfl ?_; refine Pv ?_)
   refine T_nil (TT_done ?_)
   have S641 := S639.drop 1
   have S642 := S641.drop 0
   exact Ws (J418 _ _ ⟨_, _, _, _, _, _, G629, rfl, (hl606.trans hl630), S642, hc614, (rs616.mono hl630), hc638, rs640⟩)
  refine W_exit (W_seq (Wr ?_))
  obtain rfl : k = p.length := by omega
  refine P2 ?_
  refine Ar ?_
  refine Pv (T_nil (W_block ?_))
  obtain ⟨G644, hl645, S643, r646⟩ := S59.stillRow 1 rfl
  have r647 := RdL.mk r646 (rs52.mono hl645)
  obtain ⟨G649, hl650, S648, r651⟩ := S643.stillRow 0 rfl
  have r652 := RdL.mk r651 (rs57.mono (hl645.trans hl650))
  refine W_loop (fun M ρ w' => ∃ (k : Nat) (G653 : Hp), M = 1 + k ∧ k ≤ p.length ∧ lastNe (waysH n i x p) (waysH n i y q) p.length = lastNe (waysH n i x p) (waysH n i y q) k ∧ ρ = [(12, .pointer (some ⟨b7, 0, none⟩)), (18, .slice a48 p.length c49), (19, .slice a53 p.length c54), (21, .int .i64 (((k : Nat) : Int) - 1))] ∧ G649.le G653 ∧ St w H G653 [.blk b21 (hV (climbH n i y q) : Value).cells 37, .blk b13 (hV (climbH n i x p) : Value).cells 37, .blk b7 (.agg #[.slice none 0 0, .slice none 0 0] : Value).cells 35, .blk b4 (hV (climb i.toNat y q p.length) : Value).cells 37, .blk b1 (hV (climb i.toNat x p p.length) : Value).cells 37] w')
   (1 + p.length) [(12, .pointer (some ⟨b7, 0, none⟩)), (18, .slice a48 p.length c49), (19, .slice a53 p.length c54), (21, .int .i64 (((p.length : Nat) : Int) - 1))] ⟨rfl, rfl, rfl, ciI, trivial⟩ ⟨p.length, G649, rfl, (by omega), (by rfl), rfl, Hp.le.refl _, S648⟩ ?_
  rintro M ρ w655 ⟨k, G653, rfl, hp657, hinv, rfl, hl654, S656⟩
  refine W_seq (Wr (P2 (T_nil ?_)))
  refine Aa (fun h659 => ?_) (fun h659 => ?_)
  ·refine W_skip (W_seq (W_block (W_seq (W_plan (planF Tryz.prog G653 [142, 146]) rfl (by kernel_rfl) S656.le ?_))))
   have S660 := S656.drew
   obtain ⟨j, rfl⟩ : ∃ j, k = j + 1 := ⟨k - 1, by omega⟩
   have hj1 : j < p.length := by omega
   have hwx := wtexts_len i.toNat x p p.length
   have hwy := wtexts_len i.toNat y q p.length
   refine P2 ?_
   obtain ⟨hs664, r665, r666⟩ := (r647.mono (hl650.trans hl654))
   refine Af j r665 fun b661 o662 hc663 => ?_
   obtain ⟨a669, c670, hc672, hv668, r671⟩ := r666.at j (by omega)
   have hc673 := hc663 0 (.slice a669 ((wtexts i.toNat x p p.length).getD j []).length c670) (by simpa using hv668)
   simp only [Nat.add_zero] at hc673
   refine Ak (r := by exact hc673) ?_
   refine P2 ?_
   obtain ⟨hs677, r678, r679⟩ := (r652.mono hl654)
   refine Af j r678 fun b674 o675 hc676 => ?_
   obtain ⟨a682, c683, hc685, hv681, r684⟩ := r679.at j (by omega)
   have hc686 := hc676 0 (.slice a682 ((wtexts i.toNat y q p.length).getD j []).length c683) (by simpa using hv681)
   simp only [Nat.add_zero] at hc686
   refine Ak (r := by exact hc686) ?_
   refine T_buildS (cells := #[.slice a669 ((wtexts i.toNat x p p.length).getD j []).length c670, .slice a682 ((wtexts i.toNat y q p.length).getD j []).length c683]) rfl rfl rfl rfl rfl rfl rfl rfl rfl rfl (Ac (hC := fun _ h => ((Hp.le.refl _)).trans h) S660 fun b687 w688 S689 => ?_)
   refine Ag (hC := fun _ h => ((Hp.le.refl _)).trans h) (hl := by first | rfl | simp [hVs, *]) (hl2 := by first | rfl | simp [hVs, *]) (h1 := by exact one_all rfl) 0 S689 fun w690 S691 => (Nr ?_)
   refine Ai (hl := by first | rfl | simp [hVs, *]) 0 S691 ?_
   refine Cs g_aumbry_aumbryref01_Same ((isbrR_ok S691.le r671 r684 (textsj_bd hx hp.1 (by omega) hj1) (textsj_bd hy hq.1 (by omega) hj1)).mono ?_)
   rintro e w693 ⟨rfl, hB692⟩
   have S694 := S691.call hB692
   refine ⟨_, rfl, trivial, ?_⟩
   refine T_nil (W_cond rfl (fun h695 => ?_) (fun h695 => ?_))
   ·refine Wr (Ai (hl := by first | rfl | simp [hVs, *]) 0 S694 ?_)
    refine Ag (hl := by first | rfl | simp [hVs, *]) (hl2 := by first | rfl | simp [hVs, *]) (h1 := by exact one_all rfl) 3 S694 fun w696 S697 => ?_
    refine Pv (T_nil (W_ret ?_))
    refine ⟨_, ⟨_, _, _, rfl, rfl, run_loadVarA rfl rfl (by first | rfl | simp [hVs, *]) (S697.cells 3 rfl), ⟨_, _, rfl, rfl, rfl⟩⟩, ?_⟩
    have hh : (!decide (((wtexts i.toNat x p p.length).getD j []) = ((wtexts i.toNat y q p.length).getD j [])) && decide (Go.Sha.sha ((wtexts i.toNat x p p.length).getD j []) = Go.Sha.sha ((wtexts i.toNat y q p.length).getD j []))) = true := h695
    have hst := brk_texts hok1 hok2 hj1 hh
    have hyes : (brk n i x y p q) = some (((wtexts i.toNat x p p.length).getD j []), ((wtexts i.toNat y q p.length).getD j [])) := (brk_eq (a := x) (b := y) hok1 hok2 hcl (hinv.trans (lastNe_at hst.1))).trans (by rw [hst.2.1, hst.2.2]; rfl)
    exact br_end hyes r671 r684 S697.fin S697.below
   refine W_skip (W_region (Pv ?_))
   refine Ar ?_
   refine Pv (T_nil ?_)
   have HEQ := hinv.trans (lastNe_eq (brk_stepT hx hy hp.1 hq.1 hok1 hok2 hcl hj1 hinv h695))
   have S698 := S694.drop 0
   exact ⟨1 + j, [(12, .pointer (some ⟨b7, 0, none⟩)), (18, .slice a48 p.length c49), (19, .slice a53 p.length c54), (21, .int .i64 (((j : Nat) : Int) - 1))], by omega, ⟨rfl, rfl, rfl, ciI, trivial⟩, j, G653, rfl, (by omega), (by exact HEQ), rfl, hl654, S698⟩
  refine W_exit (Wr (T_buildS (cells := #[.slice none 0 0, .slice none 0 0]) rfl rfl rfl rfl rfl rfl rfl rfl rfl rfl (Ag (hl := by first | rfl | simp [hVs, *]) (hl2 := by first | rfl | simp [hVs, *]) (h1 := by exact one_all rfl) 2 S656 fun w699 S700 => ?_)))
  refine Pv (T_nil (W_ret ?_))
  refine ⟨_, ⟨_, _, _, rfl, rfl, run_loadVarA rfl rfl (by first | rfl | simp [hVs, *]) (S700.cells 2 rfl), ⟨_, _, rfl, rfl, rfl⟩⟩, ?_⟩
  obtain rfl : k = 0 := by omega
  have hno : (brk n i x y p q) = none := brk_eq hok1 hok2 hcl hinv
  rw [hno]
  exact ⟨none, 0, none, 0, rfl, nilB _, nilB _, S700.below⟩
 iterate 3 refine No ?_
 refine Ys ?_
 refine P2 (T_nil ?_)
 refine W_cond_false rfl (W_skip (W_seq ?_))
 have hok1 : okW n i p.length = true := by simpa using h26
 have hok2 : okW n i q.length = true := by simpa using h29
 have hcl : climbH n i x p = climbH n i y q := by simpa using h32
 have hXl := waysH_len (x := x) hok1
 have hYl := waysH_len (x := y) hok2
 have hO1 := okW_of hok1
 have hO2 := okW_of hok2
 have hlg := lg_le (n := n.toNat) (m := 8) (by omega)
 refine W_region (P2 (T_nil (W_seq (Wr ?_))))
 refine P3 (T_nil (W_block ?_))
 have S701 := S25.nilRow 24 1
 have rs702 := Rds.nil H
 have S703 := S701.nilRow 24 1
 have rs704 := Rds.nil H
 refine W_loop (fun M ρ w' => ∃ (k : Nat) (a707 : Option Addr) (c708 : Nat) (hs710 : List Value) (a712 : Option Addr) (c713 : Nat) (hs715 : List Value) (G705 : Hp), M = p.length - k ∧ k ≤ p.length ∧ ρ = [(1, .int .i64 ((i.toNat / 2 ^ k : Nat) : Int)), (4, .slice aa4 p.length cc4), (5, .slice aa5 q.length cc5), (8, .pointer (some ⟨b1, 0, none⟩)), (9, .pointer (some ⟨b4, 0, none⟩)), (12, .pointer (some ⟨b7, 0, none⟩)), (18, .slice a707 k c708), (19, .slice a712 k c713), (62, .int .i64 ((p.length : Nat) : Int)), (63, .int .i64 (k : Int))] ∧ H.le G705 ∧ St w H G705 [.row 24 1 (.slice a712 k c713) k hs715, .row 24 1 (.slice a707 k c708) k hs710, .blk b21 (hV (climbH n i y q) : Value).cells 37, .blk b13 (hV (climbH n i x p) : Value).cells 37, .blk b7 (.agg #[.slice none 0 0, .slice none 0 0] : Value).cells 35, .blk b4 (hV (climb i.toNat y q k) : Value).cells 37, .blk b1 (hV (climb i.toNat x p k) : Value).cells 37] w' ∧ Rds G705 hs710 (wtexts i.toNat x p k) ∧ k ≤ c708 ∧ Rds G705 hs715 (wtexts i.toNat y q k) ∧ k ≤ c713)
  (p.length - 0) [(1, .int .i64 ((i.toNat / 2 ^ 0 : Nat) : Int)), (4, .slice aa4 p.length cc4), (5, .slice aa5 q.length cc5), (8, .pointer (some ⟨b1, 0, none⟩)), (9, .pointer (some ⟨b4, 0, none⟩)), (12, .pointer (some ⟨b7, 0, none⟩)), (18, .slice none 0 0), (19, .slice none 0 0), (62, .int .i64 ((p.length : Nat) : Int)), (63, .int .i64 ((0 : Nat) : Int))] ⟨ciI, rfl, rfl, rfl, rfl, rfl, rfl, rfl, ciI, ciI, trivial⟩ ⟨0, none, 0, _, none, 0, _, H, rfl, (by omega), rfl, Hp.le.refl _, S703, rs702, (Nat.le_refl _), rs704, (Nat.le_refl _)⟩ ?_
 rintro M ρ w717 ⟨k, a707, c708, hs710, a712, c713, hs715, G705, rfl, hp719, rfl, hl706, S718, rs711, hc709, rs716, hc714⟩
 refine Wr (Pv (T_nil (W_seq ?_)))
 refine Aa (fun h720 => ?_) (fun h720 => ?_)
 ·refine W_skip (W_seq (W_block (Wr (P2 (T_nil (W_seq (Wr ?_)))))))
  have hnn := Int.natCast_nonneg (i.toNat / 2 ^ k)
  have hdl := Nat.div_le_self i.toNat (2 ^ k)
  refine Pv ?_
  refine T_rem rfl rfl rfl rfl rfl rfl (by omega) ?_
  refine Pv (T_nil ?_)
  refine Aa (fun h721 => ?_) (fun h721 => ?_)
  ·refine W_j1 (fun ρ w' => ∃ (a751 : Option Addr) (c752 : Nat) (a775 : Option Addr) (c776 : Nat) (hs792 : List Value) (hs789 : List Value) (G783 : Hp), ρ = [(1, .int .i64 ((i.toNat / 2 ^ k : Nat) : Int)), (4, .slice aa4 p.length cc4), (5, .slice aa5 q.length cc5), (8, .pointer (some ⟨b1, 0, none⟩)), (9, .pointer (some ⟨b4, 0, none⟩)), (12, .pointer (some ⟨b7, 0, none⟩)), (18, .slice a751 (k + 1) c752), (19, .slice a775 (k + 1) c776), (20, .int .i64 (k : Int)), (62, .int .i64 ((p.length : Nat) : Int)), (63, .int .i64 (k : Int))] ∧ G705.le G783 ∧ St w H G783 [.row 24 1 (.slice a775 (k + 1) c776) (k + 1) hs792, .row 24 1 (.slice a751 (k + 1) c752) (k + 1) hs789, .blk b21 (hV (climbH n i y q) : Value).cells 37, .blk b13 (hV (climbH n i x p) : Value).cells 37, .blk b7 (.agg #[.slice none 0 0, .slice none 0 0] : Value).cells 35, .blk b4 (hV (climb i.toNat y q k) : Value).cells 37, .blk b1 (hV (climb i.toNat x p k) : Value).cells 37] w' ∧ (k + 1) ≤ c752 ∧ Rds G783 hs789 (wtexts i.toNat x p (k + 1)) ∧ (k + 1) ≤ c776 ∧ Rds G783 hs792 (wtexts i.toNat y q (k + 1))) ?_ (fun J787 => ?_)
   ·rintro ρ w786 ⟨a751, c752, a775, c776, hs792, hs789, G783, rfl, hl784, S785, hc788, rs790, hc791, rs793⟩
    refine W_tree (planF Tryz.prog G783 [97]) (.step 0 (.step 1 (.step 2 (.step 3 (.step 4 (.step 7 (.step 8 (.step 9 (.step 10 (.fork 5 6 (.step 6 (.step 11 (.step 12 (.step 13 .done)))) (.step 5 (.step 11 (.step 12 (.step 13 .done)))))))))))))) rfl (by kernel_rfl) S785.le ?_
    have S794 := S785.drew
    refine TT_step rfl (Ai (hl := by exact hVs (climb_len _ hx _ _)) 6 S794 ?_)
    iterate 2 (refine T_nil ?_; refine TT_step rfl ?_; refine Pv ?_)
    refine Nt rfl (Af k (hp.mono (hl706.trans hl784)).2 fun b795 o796 hc797 => ?_)
    have hc798 := cells_h (hp.mono (hl706.trans hl784)).1 k (by omega) hc797
    have hl799 := len_h (hp.mono (hl706.trans hl784)).1 k (by omega)
    refine Nt rfl (T_loadGA _ S794 hc798 rfl rfl rfl rfl rfl rfl rfl rfl (hVs hl799) ?_)
    iterate 2 (refine T_nil ?_; refine TT_step rfl ?_; refine Pv ?_)
    refine Nt rfl (Af k (hq.mono (hl706.trans hl784)).2 fun b800 o801 hc802 => ?_)
    have hc803 := cells_h (hq.mono (hl706.trans hl784)).1 k (by omega) hc802
    have hl804 := len_h (hq.mono (hl706.trans hl784)).1 k (by omega)
    refine Nt rfl (T_loadGAP _ (fun _ h => h) hc803 rfl rfl rfl rfl rfl rfl rfl rfl (hVs hl804) (T_nil (TT_fork rfl rfl ?_ ?_)))
    ·refine Cs g_aumbry_aumbryref07_Node ((nodeR_ok S794.le (climb_len _ hx _ _) hl799).mono ?_)
     rintro e w806 ⟨rfl, hB805⟩
     have S807 := S794.call hB805
     refine ⟨_, rfl, (((Hp.le.refl _)).trans S807.le), ?_⟩
     refine T_re (v' := hV (climb i.toNat x p (k + 1))) (congrArg (fun q => hV q) (climb_even (by omega) (climb_len _ hx _ _))) ?_
     refine Nt rfl (Ai (hl := by exact hVs (climb_len _ hy _ _)) 5 S807 ?_)
     refine Nt rfl (Cs g_aumbry_aumbryref07_Node ((nodeR_ok S807.le (climb_len _ hy _ _) hl804).mono ?_))
     rintro e w809 ⟨rfl, hB808⟩
     have S810 := S807.call hB808
     refine ⟨_, rfl, (((Hp.le.refl _)).trans S810.le), ?_⟩
     refine T_re (v' := hV (climb i.toNat y q (k + 1))) (congrArg (fun q => hV q) (climb_even (by omega) (climb_len _ hy _ _))) ?_
     refine Nt rfl (Ag (hC := fun _ h => ((Hp.le.refl _)).trans h) (hl := by exact hVs (climb_len _ hx _ _)) (hl2 := by exact (hVs (climb_len _ hx _ _)).trans (hVs (climb_len _ hx _ _)).symm) (h1 := by exact one_hA _) 6 S810 fun w811 S812 => ?_)
     refine Nt rfl (Ag (hC := fun _ h => ((Hp.le.refl _)).trans h) (hl := by exact hVs (climb_len _ hy _ _)) (hl2 := by exact (hVs (climb_len _ hy _ _)).trans (hVs (climb_len _ hy _ _)).symm) (h1 := by exact one_hA _) 5 S812 fun w813 S814 => (T_nil (TT_done (W_region ?_))))
     refine Pv ?_
     refine T_quo rfl rfl rfl rfl rfl rfl (by omega) ?_
     refine T_re (v' := .int .i64 ((i.toNat / 2 ^ (k + 1) : Nat) : Int)) (congrArg (Value.int .i64) (half_int _ _)) (Pv (T_nil (W_region ?_)))
     refine Ar ?_
     refine Pv (T_nil ?_)
     exact ⟨p.length - (k + 1), [(1, .int .i64 ((i.toNat / 2 ^ (k + 1) : Nat) : Int)), (4, .slice aa4 p.length cc4), (5, .slice aa5 q.length cc5), (8, .pointer (some ⟨b1, 0, none⟩)), (9, .pointer (some ⟨b4, 0, none⟩)), (12, .pointer (some ⟨b7, 0, none⟩)), (18, .slice a751 (k + 1) c752), (19, .slice a775 (k + 1) c776), (62, .int .i64 ((p.length : Nat) : Int)), (63, .int .i64 ((k + 1 : Nat) : Int))], by omega, ⟨ciI, rfl, rfl, rfl, rfl, rfl, rfl, rfl, ciI, ciI, trivial⟩, k + 1, a751, c752, _, a775, c776, _, G783, rfl, (by omega), rfl, (hl706.trans hl784), S814, rs790, hc788, rs793, hc791⟩
    refine Ai (hl := by exact hVs (climb_len _ hy _ _)) 5 S794 ?_
    refine Nt rfl (Cs g_aumbry_aumbryref07_Node ((nodeR_ok S794.le (climb_len _ hx _ _) hl799).mono ?_))
    rintro e w816 ⟨rfl, hB815⟩
    have S817 := S794.call hB815
    refine ⟨_, rfl, (((Hp.le.refl _)).trans S817.le), ?_⟩
    refine T_re (v' := hV (climb i.toNat x p (k + 1))) (congrArg (fun q => hV q) (climb_even (by omega) (climb_len _ hx _ _))) ?_
    refine Nt rfl (Cs g_aumbry_aumbryref07_Node ((nodeR_ok S817.le (climb_len _ hy _ _) hl804).mono ?_))
    rintro e w819 ⟨rfl, hB818⟩
    have S820 := S817.call hB818
    refine ⟨_, rfl, (((Hp.le.refl _)).trans S820.le), ?_⟩
    refine T_re (v' := hV (climb i.toNat y q (k + 1))) (congrArg (fun q => hV q) (climb_even (by omega) (climb_len _ hy _ _))) ?_
    refine Nt rfl (Ag (hC := fun _ h => ((Hp.le.refl _)).trans h) (hl := by exact hVs (climb_len _ hx _ _)) (hl2 := by exact (hVs (climb_len _ hx _ _)).trans (hVs (climb_len _ hx _ _)).symm) (h1 := by exact one_hA _) 6 S820 fun w821 S822 => ?_)
    refine Nt rfl (Ag (hC := fun _ h => ((Hp.le.refl _)).trans h) (hl := by exact hVs (climb_len _ hy _ _)) (hl2 := by exact (hVs (climb_len _ hy _ _)).trans (hVs (climb_len _ hy _ _)).symm) (h1 := by exact one_hA _) 5 S822 fun w823 S824 => (T_nil (TT_done (W_region ?_))))
    refine Pv ?_
    refine T_quo rfl rfl rfl rfl rfl rfl (by omega) ?_
    refine T_re (v' := .int .i64 ((i.toNat / 2 ^ (k + 1) : Nat) : Int)) (congrArg (Value.int .i64) (half_int _ _)) (Pv (T_nil (W_region ?_)))
    refine Ar ?_
    refine Pv (T_nil ?_)
    exact ⟨p.length - (k + 1), [(1, .int .i64 ((i.toNat / 2 ^ (k + 1) : Nat) : Int)), (4, .slice aa4 p.length cc4), (5, .slice aa5 q.length cc5), (8, .pointer (some ⟨b1, 0, none⟩)), (9, .pointer (some ⟨b4, 0, none⟩)), (12, .pointer (some ⟨b7, 0, none⟩)), (18, .slice a751 (k + 1) c752), (19, .slice a775 (k + 1) c776), (62, .int .i64 ((p.length : Nat) : Int)), (63, .int .i64 ((k + 1 : Nat) : Int))], by omega, ⟨ciI, rfl, rfl, rfl, rfl, rfl, rfl, rfl, ciI, ciI, trivial⟩, k + 1, a751, c752, _, a775, c776, _, G783, rfl, (by omega), rfl, (hl706.trans hl784), S824, rs790, hc788, rs793, hc791⟩
   refine W_seq (W_tree (planF Tryz.prog G705 [83]) (.step 0 (.step 1 (.step 2 (.step 3 (.step 4 (.step 5 (.step 9 (.step 11 (.step 12 (.step 13 (.step 14 (.fork 6 10 (.fork 7 10 (.fork 8 10 (.step 10 (.step 15 (.step 16 (.step 17 (.step 18 (.step 19 .done)))))) (.step 8 (.step 15 (.step 16 (.step 17 (.step 18 (.step 19 .done))))))) (.step 7 (.step 8 (.step 15 (.step 16 (.step 17 (.step 18 (.step 19 .done)))))))) (.step 6 (.step 7 (.step 8 (.step 15 (.step 16 (.step 17 (.step 18 (.step 19 .done)))))))))))))))))))) rfl (by kernel_rfl) S718.le ?_)
   have S825 := S718.drew
   refine TT_step rfl ?_
   have hnn := Int.natCast_nonneg (i.toNat / 2 ^ k)
   have hdl := Nat.div_le_self i.toNat (2 ^ k)
   refine Pv ?_
   refine Nt rfl (Ai (hl := by exact hVs (climb_len _ hx _ _)) 6 S825 ?_)
   iterate 2 (refine T_nil ?_; refine TT_step rfl ?_; refine Pv ?_)
   refine Nt rfl (Af k (hp.mono hl706).2 fun b826 o827 hc828 => ?_)
   have hc829 := cells_h (hp.mono hl706).1 k (by omega) hc828
   have hl830 := len_h (hp.mono hl706).1 k (by omega)
   refine Nt rfl (T_loadGA _ S825 hc829 rfl rfl rfl rfl rfl rfl rfl rfl (hVs hl830) ?_)
   iterate 3 (refine T_nil ?_; refine TT_step rfl ?_; refine Pv ?_)
   refine Nt rfl (Af k (hq.mono hl706).2 fun b831 o832 hc833 => ?_)
   have hc834 := cells_h (hq.mono hl706).1 k (by omega) hc833
   have hl835 := len_h (hq.mono hl706).1 k (by omega)
   refine Nt rfl (T_loadGAP _ (fun _ h => h) hc834 rfl rfl rfl rfl rfl rfl rfl rfl (hVs hl835) (T_nil (TT_fork rfl rfl ?_ ?_)))
   ·refine Cs g_aumbry_aumbryref07_nodeText ((ntextR_ok S825.le (climb_len _ hx _ _) hl830).mono ?_)
    rintro e w841 ⟨a836, c837, hc838, rfl, ho839, hB840⟩
    have S842 := S825.own hB840 ho839
    refine ⟨_, rfl, (((Hp.le.refl _)).trans S842.le), ?_⟩
    refine T_nil (TT_fork rfl rfl ?_ ?_)
    ·obtain ⟨G848, hl849, S847, r850⟩ := S842.stillRow 0 rfl
     have rs851 : Rds G848 [.slice a836 ((Go.Au.text [110, 111, 100, 101] [(climb i.toNat x p k), (p.getD k [])]).length) c837] [Go.Au.text [110, 111, 100, 101] [(climb i.toNat x p k), (p.getD k [])]] := Rds.cons (Rd.canonB r850) (Rds.nil _)
     refine Ad (hone := by simp [Value.cells]; rfl) [.slice a836 ((Go.Au.text [110, 111, 100, 101] [(climb i.toNat x p k), (p.getD k [])]).length) c837] fun a843 w844 hB845 ho846 => ?_
     have S852 := S847.own hB845 ho846
     refine ⟨((hl849).trans S852.le), ?_⟩
     refine T_nil (TT_fork rfl rfl ?_ ?_)
     ·have hD853 : (wtexts i.toNat x p k ++ [Go.Au.text [110, 111, 100, 101] [(climb i.toNat x p k), (p.getD k [])]]) = wtexts i.toNat x p (k + 1) := (wts_even (by omega) (climb_len _ hx _ _))
      refine T_appendS 2 (k + 1) _ S852 (fun _ h => (hl849).trans h) rfl rfl rfl rfl rfl rfl rfl rfl rfl rfl rfl rfl rfl rfl (S852.rd 0 rfl) rs851.one (by first | rfl | (simp; done) | (simp; omega) | omega) rfl (by unfold maxLen; omega) (by show _ * 24 ≤ _; omega) fun a854 c855 w856 hc857 S858 => ?_
      have rs859 := Rds.append (rs711.mono hl849) rs851
      rw [hD853] at rs859
      refine Nt rfl (Ai (hl := by exact hVs (climb_len _ hy _ _)) 6 S858 ?_)
      refine Nt rfl (Cs g_aumbry_aumbryref07_nodeText ((ntextR_ok S858.le (climb_len _ hy _ _) hl835).mono ?_))
      rintro e w865 ⟨a860, c861, hc862, rfl, ho863, hB864⟩
      have S866 := S858.own hB864 ho863
      refine ⟨_, rfl, ((hl849).trans S866.le), ?_⟩
      refine Nt rfl ?_
      obtain ⟨G872, hl873, S871, r874⟩ := S866.stillRow 0 rfl
      have rs875 : Rds G872 [.slice a860 ((Go.Au.text [110, 111, 100, 101] [(climb i.toNat y q k), (q.getD k [])]).length) c861] [Go.Au.text [110, 111, 100, 101] [(climb i.toNat y q k), (q.getD k [])]] := Rds.cons (Rd.canonB r874) (Rds.nil _)
      refine Ad (hone := by simp [Value.cells]; rfl) [.slice a860 ((Go.Au.text [110, 111, 100, 101] [(climb i.toNat y q k), (q.getD k [])]).length) c861] fun a867 w868 hB869 ho870 => ?_
      have S876 := S871.own hB869 ho870
      refine ⟨(((hl849.trans hl873)).trans S876.le), ?_⟩
      refine Nt rfl ?_
      have hD877 : (wtexts i.toNat y q k ++ [Go.Au.text [110, 111, 100, 101] [(climb i.toNat y q k), (q.getD k [])]]) = wtexts i.toNat y q (k + 1) := (wts_even (by omega) (climb_len _ hy _ _))
      refine T_appendS 2 (k + 1) _ S876 (fun _ h => ((hl849.trans hl873)).trans h) rfl rfl rfl rfl rfl rfl rfl rfl rfl rfl rfl rfl rfl rfl (S876.rd 0 rfl) rs875.one (by first | rfl | (simp; done) | (simp; omega) | omega) rfl (by unfold maxLen; omega) (by show _ * 24 ≤ _; omega) fun a878 c879 w880 hc881 S882 => ?_
      have rs883 := Rds.append (rs716.mono (hl849.trans hl873)) rs875
      rw [hD877] at rs883
      iterate 2 (refine T_nil ?_; refine TT_step rfl ?_; refine Pv ?_)
      refine T_nil (TT_done ?_)
      have S884 := S882.drop 1
      have S885 := S884.drop 0
      exact Ws (J787 _ _ ⟨_, _, _, _, _, _, G872, rfl, (hl849.trans hl873), S885, hc857, (rs859.mono hl873), hc881, rs883⟩)
     refine Ai (hl := by exact hVs (climb_len _ hy _ _)) 6 S852 ?_
     refine Nt rfl ?_
     have hD886 : (wtexts i.toNat x p k ++ [Go.Au.text [110, 111, 100, 101] [(climb i.toNat x p k), (p.getD k [])]]) = wtexts i.toNat x p (k + 1) := (wts_even (by omega) (climb_len _ hx _ _))
     refine T_appendS 2 (k + 1) _ S852 (fun _ h => (hl849).trans h) rfl rfl rfl rfl rfl rfl rfl rfl rfl rfl rfl rfl rfl rfl (S852.rd 0 rfl) rs851.one (by first | rfl | (simp; done) | (simp; omega) | omega) rfl (by unfold maxLen; omega) (by show _ * 24 ≤ _; omega) fun a887 c888 w889 hc890 S891 => ?_
     have rs892 := Rds.append (rs711.mono hl849) rs851
     rw [hD886] at rs892
     refine Nt rfl (Cs g_aumbry_aumbryref07_nodeText ((ntextR_ok S891.le (climb_len _ hy _ _) hl835).mono ?_))
     rintro e w898 ⟨a893, c894, hc895, rfl, ho896, hB897⟩
     have S899 := S891.own hB897 ho896
     refine ⟨_, rfl, ((hl849).trans S899.le), ?_⟩
     refine Nt rfl ?_
     obtain ⟨G905, hl906, S904, r907⟩ := S899.stillRow 0 rfl
     have rs908 : Rds G905 [.slice a893 ((Go.Au.text [110, 111, 100, 101] [(climb i.toNat y q k), (q.getD k [])]).length) c894] [Go.Au.text [110, 111, 100, 101] [(climb i.toNat y q k), (q.getD k [])]] := Rds.cons (Rd.canonB r907) (Rds.nil _)
     refine Ad (hone := by simp [Value.cells]; rfl) [.slice a893 ((Go.Au.text [110, 111, 100, 101] [(climb i.toNat y q k), (q.getD k [])]).length) c894] fun a900 w901 hB902 ho903 => ?_
     have S909 := S904.own hB902 ho903
     refine ⟨(((hl849.trans hl906)).trans S909.le), ?_⟩
     refine Nt rfl ?_
     have hD910 : (wtexts i.toNat y q k ++ [Go.Au.text [110, 111, 100, 101] [(climb i.toNat y q k), (q.getD k [])]]) = wtexts i.toNat y q (k + 1) := (wts_even (by omega) (climb_len _ hy _ _))
     refine T_appendS 2 (k + 1) _ S909 (fun _ h => ((hl849.trans hl906)).trans h) rfl rfl rfl rfl rfl rfl rfl rfl rfl rfl rfl rfl rfl rfl (S909.rd 0 rfl) rs908.one (by first | rfl | (simp; done) | (simp; omega) | omega) rfl (by unfold maxLen; omega) (by show _ * 24 ≤ _; omega) fun a911 c912 w913 hc914 S915 => ?_
     have rs916 := Rds.append (rs716.mono (hl849.trans hl906)) rs908
     rw [hD910] at rs916
     iterate 2 (refine T_nil ?_; refine TT_step rfl ?_; refine Pv ?_)
     refine T_nil (TT_done ?_)
     have S917 := S915.drop 1
     have S918 := S917.drop 0
     exact Ws (J787 _ _ ⟨_, _, _, _, _, _, G905, rfl, (hl849.trans hl906), S918, hc890, (rs892.mono hl906), hc914, rs916⟩)
    refine Ai (hl := by exact hVs (climb_len _ hy _ _)) 6 S842 ?_
    refine Nt rfl ?_
    obtain ⟨G924, hl925, S923, r926⟩ := S842.stillRow 0 rfl
    have rs927 : Rds G924 [.slice a836 ((Go.Au.text [110, 111, 100, 101] [(climb i.toNat x p k), (p.getD k [])]).length) c837] [Go.Au.text [110, 111, 100, 101] [(climb i.toNat x p k), (p.getD k [])]] := Rds.cons (Rd.canonB r926) (Rds.nil _)
    refine Ad (hone := by simp [Value.cells]; rfl) [.slice a836 ((Go.Au.text [110, 111, 100, 101] [(climb i.toNat x p k), (p.getD k [])]).length) c837] fun a919 w920 hB921 ho922 => ?_
    have S928 := S923.own hB921 ho922
    refine ⟨((hl925).trans S928.le), ?_⟩
    refine Nt rfl ?_
    have hD929 : (wtexts i.toNat x p k ++ [Go.Au.text [110, 111, 100, 101] [(climb i.toNat x p k), (p.getD k [])]]) = wtexts i.toNat x p (k + 1) := (wts_even (by omega) (climb_len _ hx _ _))
    refine T_appendS 2 (k + 1) _ S928 (fun _ h => (hl925).trans h) rfl rfl rfl rfl rfl rfl rfl rfl rfl rfl rfl rfl rfl rfl (S928.rd 0 rfl) rs927.one (by first | rfl | (simp; done) | (simp; omega) | omega) rfl (by unfold maxLen; omega) (by show _ * 24 ≤ _; omega) fun a930 c931 w932 hc933 S934 => ?_
    have rs935 := Rds.append (rs711.mono hl925) rs927
    rw [hD929] at rs935
    refine Nt rfl (Cs g_aumbry_aumbryref07_nodeText ((ntextR_ok S934.le (climb_len _ hy _ _) hl835).mono ?_))
    rintro e w941 ⟨a936, c937, hc938, rfl, ho939, hB940⟩
    have S942 := S934.own hB940 ho939
    refine ⟨_, rfl, ((hl925).trans S942.le), ?_⟩
    refine Nt rfl ?_
    obtain ⟨G948, hl949, S947, r950⟩ := S942.stillRow 0 rfl
    have rs951 : Rds G948 [.slice a936 ((Go.Au.text [110, 111, 100, 101] [(climb i.toNat y q k), (q.getD k [])]).length) c937] [Go.Au.text [110, 111, 100, 101] [(climb i.toNat y q k), (q.getD k [])]] := Rds.cons (Rd.canonB r950) (Rds.nil _)
    refine Ad (hone := by simp [Value.cells]; rfl) [.slice a936 ((Go.Au.text [110, 111, 100, 101] [(climb i.toNat y q k), (q.getD k [])]).length) c937] fun a943 w944 hB945 ho946 => ?_
    have S952 := S947.own hB945 ho946
    refine ⟨(((hl925.trans hl949)).trans S952.le), ?_⟩
    refine Nt rfl ?_
    have hD953 : (wtexts i.toNat y q k ++ [Go.Au.text [110, 111, 100, 101] [(climb i.toNat y q k), (q.getD k [])]]) = wtexts i.toNat y q (k + 1) := (wts_even (by omega) (climb_len _ hy _ _))
    refine T_appendS 2 (k + 1) _ S952 (fun _ h => ((hl925.trans hl949)).trans h) rfl rfl rfl rfl rfl rfl rfl rfl rfl rfl rfl rfl rfl rfl (S952.rd 0 rfl) rs951.one (by first | rfl | (simp; done) | (simp; omega) | omega) rfl (by unfold maxLen; omega) (by show _ * 24 ≤ _; omega) fun a954 c955 w956 hc957 S958 => ?_
    have rs959 := Rds.append (rs716.mono (hl925.trans hl949)) rs951
    rw [hD953] at rs959
    iterate 2 (refine T_nil ?_; refine TT_step rfl ?_; refine Pv ?_)
    refine T_nil (TT_done ?_)
    have S960 := S958.drop 1
    have S961 := S960.drop 0
    exact Ws (J787 _ _ ⟨_, _, _, _, _, _, G948, rfl, (hl925.trans hl949), S961, hc933, (rs935.mono hl949), hc957, rs959⟩)
   refine Ai (hl := by exact hVs (climb_len _ hy _ _)) 5 S825 ?_
   refine Nt rfl (Cs g_aumbry_aumbryref07_nodeText ((ntextR_ok S825.le (climb_len _ hx _ _) hl830).mono ?_))
   rintro e w967 ⟨a962, c963, hc964, rfl, ho965, hB966⟩
   have S968 := S825.own hB966 ho965
   refine ⟨_, rfl, (((Hp.le.refl _)).trans S968.le), ?_⟩
   refine Nt rfl ?_
   obtain ⟨G974, hl975, S973, r976⟩ := S968.stillRow 0 rfl
   have rs977 : Rds G974 [.slice a962 ((Go.Au.text [110, 111, 100, 101] [(climb i.toNat x p k), (p.getD k [])]).length) c963] [Go.Au.text [110, 111, 100, 101] [(climb i.toNat x p k), (p.getD k [])]] := Rds.cons (Rd.canonB r976) (Rds.nil _)
   refine Ad (hone := by simp [Value.cells]; rfl) [.slice a962 ((Go.Au.text [110, 111, 100, 101] [(climb i.toNat x p k), (p.getD k [])]).length) c963] fun a969 w970 hB971 ho972 => ?_
   have S978 := S973.own hB971 ho972
   refine ⟨((hl975).trans S978.le), ?_⟩
   refine Nt rfl ?_
   have hD979 : (wtexts i.toNat x p k ++ [Go.Au.text [110, 111, 100, 101] [(climb i.toNat x p k), (p.getD k [])]]) = wtexts i.toNat x p (k + 1) := (wts_even (by omega) (climb_len _ hx _ _))
   refine T_appendS 2 (k + 1) _ S978 (fun _ h => (hl975).trans h) rfl rfl rfl rfl rfl rfl rfl rfl rfl rfl rfl rfl rfl rfl (S978.rd 0 rfl) rs977.one (by first | rfl | (simp; done) | (simp; omega) | omega) rfl (by unfold maxLen; omega) (by show _ * 24 ≤ _; omega) fun a980 c981 w982 hc983 S984 => ?_
   have rs985 := Rds.append (rs711.mono hl975) rs977
   rw [hD979] at rs985
   refine Nt rfl (Cs g_aumbry_aumbryref07_nodeText ((ntextR_ok S984.le (climb_len _ hy _ _) hl835).mono ?_))
   rintro e w991 ⟨a986, c987, hc988, rfl, ho989, hB990⟩
   have S992 := S984.own hB990 ho989
   refine ⟨_, rfl, ((hl975).trans S992.le), ?_⟩
   refine Nt rfl ?_
   obtain ⟨G998, hl999, S997, r1000⟩ := S992.stillRow 0 rfl
   have rs1001 : Rds G998 [.slice a986 ((Go.Au.text [110, 111, 100, 101] [(climb i.toNat y q k), (q.getD k [])]).length) c987] [Go.Au.text [110, 111, 100, 101] [(climb i.toNat y q k), (q.getD k [])]] := Rds.cons (Rd.canonB r1000) (Rds.nil _)
   refine Ad (hone := by simp [Value.cells]; rfl) [.slice a986 ((Go.Au.text [110, 111, 100, 101] [(climb i.toNat y q k), (q.getD k [])]).length) c987] fun a993 w994 hB995 ho996 => ?_
   have S1002 := S997.own hB995 ho996
   refine ⟨(((hl975.trans hl999)).trans S1002.le), ?_⟩
   refine Nt rfl ?_
   have hD1003 : (wtexts i.toNat y q k ++ [Go.Au.text [110, 111, 100, 101] [(climb i.toNat y q k), (q.getD k [])]]) = wtexts i.toNat y q (k + 1) := (wts_even (by omega) (climb_len _ hy _ _))
   refine T_appendS 2 (k + 1) _ S1002 (fun _ h => ((hl975.trans hl999)).trans h) rfl rfl rfl rfl rfl rfl rfl rfl rfl rfl rfl rfl rfl rfl (S1002.rd 0 rfl) rs1001.one (by first | rfl | (simp; done) | (simp; omega) | omega) rfl (by unfold maxLen; omega) (by show _ * 24 ≤ _; omega) fun a1004 c1005 w1006 hc1007 S1008 => ?_
   have rs1009 := Rds.append (rs716.mono (hl975.trans hl999)) rs1001
   rw [hD1003] at rs1009
   iterate 2 (refine T_nil ?_; refine TT_step rfl ?_; refine Pv ?_)
   refine T_nil (TT_done ?_)
   have S1010 := S1008.drop 1
   have S1011 := S1010.drop 0
   exact Ws (J787 _ _ ⟨_, _, _, _, _, _, G998, rfl, (hl975.trans hl999), S1011, hc983, (rs985.mono hl999), hc1007, rs1009⟩)
  refine W_j1 (fun ρ w' => ∃ (a1041 : Option Addr) (c1042 : Nat) (a1065 : Option Addr) (c1066 : Nat) (hs1082 : List Value) (hs1079 : List Value) (G1073 : Hp), ρ = [(1, .int .i64 ((i.toNat / 2 ^ k : Nat) : Int)), (4, .slice aa4 p.length cc4), (5, .slice aa5 q.length cc5), (8, .pointer (some ⟨b1, 0, none⟩)), (9, .pointer (some ⟨b4, 0, none⟩)), (12, .pointer (some ⟨b7, 0, none⟩)), (18, .slice a1041 (k + 1) c1042), (19, .slice a1065 (k + 1) c1066), (20, .int .i64 (k : Int)), (62, .int .i64 ((p.length : Nat) : Int)), (63, .int .i64 (k : Int))] ∧ G705.le G1073 ∧ St w H G1073 [.row 24 1 (.slice a1065 (k + 1) c1066) (k + 1) hs1082, .row 24 1 (.slice a1041 (k + 1) c1042) (k + 1) hs1079, .blk b21 (hV (climbH n i y q) : Value).cells 37, .blk b13 (hV (climbH n i x p) : Value).cells 37, .blk b7 (.agg #[.slice none 0 0, .slice none 0 0] : Value).cells 35, .blk b4 (hV (climb i.toNat y q k) : Value).cells 37, .blk b1 (hV (climb i.toNat x p k) : Value).cells 37] w' ∧ (k + 1) ≤ c1042 ∧ Rds G1073 hs1079 (wtexts i.toNat x p (k + 1)) ∧ (k + 1) ≤ c1066 ∧ Rds G1073 hs1082 (wtexts i.toNat y q (k + 1))) ?_ (fun J1077 => ?_)
  ·rintro ρ w1076 ⟨a1041, c1042, a1065, c1066, hs1082, hs1079, G1073, rfl, hl1074, S1075, hc1078, rs1080, hc1081, rs1083⟩
   refine W_tree (planF Tryz.prog G1073 [126]) (.step 0 (.step 1 (.step 2 (.step 3 (.step 4 (.step 6 (.step 7 (.step 8 (.step 9 (.fork 5 10 (.step 10 (.step 11 (.step 12 (.step 13 .done)))) (.step 5 (.step 11 (.step 12 (.step 13 .done)))))))))))))) rfl (by kernel_rfl) S1075.le ?_
   have S1084 := S1075.drew
   iterate 2 (refine TT_step rfl ?_; refine Pv ?_; refine T_nil ?_)
   refine TT_step rfl (Af k (hp.mono (hl706.trans hl1074)).2 fun b1085 o1086 hc1087 => ?_)
   have hc1088 := cells_h (hp.mono (hl706.trans hl1074)).1 k (by omega) hc1087
   have hl1089 := len_h (hp.mono (hl706.trans hl1074)).1 k (by omega)
   refine Nt rfl (T_loadGA _ S1084 hc1088 rfl rfl rfl rfl rfl rfl rfl rfl (hVs hl1089) (Nt rfl (Ai (hl := by exact hVs (climb_len _ hx _ _)) 6 S1084 ?_)))
   iterate 2 (refine T_nil ?_; refine TT_step rfl ?_; refine Pv ?_)
   refine Nt rfl (Af k (hq.mono (hl706.trans hl1074)).2 fun b1090 o1091 hc1092 => ?_)
   have hc1093 := cells_h (hq.mono (hl706.trans hl1074)).1 k (by omega) hc1092
   have hl1094 := len_h (hq.mono (hl706.trans hl1074)).1 k (by omega)
   refine Nt rfl (T_loadGAP _ (fun _ h => h) hc1093 rfl rfl rfl rfl rfl rfl rfl rfl (hVs hl1094) (T_nil (TT_fork rfl rfl ?_ ?_)))
   ·refine Cs g_aumbry_aumbryref07_Node ((nodeR_ok S1084.le hl1089 (climb_len _ hx _ _)).mono ?_)
    rintro e w1096 ⟨rfl, hB1095⟩
    have S1097 := S1084.call hB1095
    refine ⟨_, rfl, (((Hp.le.refl _)).trans S1097.le), ?_⟩
    refine T_re (v' := hV (climb i.toNat x p (k + 1))) (congrArg (fun q => hV q) (climb_odd (by omega) (len_h hp.1 k (by omega)))) ?_
    refine Nt rfl (Ai (hl := by exact hVs (climb_len _ hy _ _)) 5 S1097 ?_)
    refine Nt rfl (Cs g_aumbry_aumbryref07_Node ((nodeR_ok S1097.le hl1094 (climb_len _ hy _ _)).mono ?_))
    rintro e w1099 ⟨rfl, hB1098⟩
    have S1100 := S1097.call hB1098
    refine ⟨_, rfl, (((Hp.le.refl _)).trans S1100.le), ?_⟩
    refine T_re (v' := hV (climb i.toNat y q (k + 1))) (congrArg (fun q => hV q) (climb_odd (by omega) (len_h hq.1 k (by omega)))) ?_
    refine Nt rfl (Ag (hC := fun _ h => ((Hp.le.refl _)).trans h) (hl := by exact hVs (climb_len _ hx _ _)) (hl2 := by exact (hVs (climb_len _ hx _ _)).trans (hVs (climb_len _ hx _ _)).symm) (h1 := by exact one_hA _) 6 S1100 fun w1101 S1102 => ?_)
    refine Nt rfl (Ag (hC := fun _ h => ((Hp.le.refl _)).trans h) (hl := by exact hVs (climb_len _ hy _ _)) (hl2 := by exact (hVs (climb_len _ hy _ _)).trans (hVs (climb_len _ hy _ _)).symm) (h1 := by exact one_hA _) 5 S1102 fun w1103 S1104 => (T_nil (TT_done (W_region ?_))))
    refine Pv ?_
    refine T_quo rfl rfl rfl rfl rfl rfl (by omega) ?_
    refine T_re (v' := .int .i64 ((i.toNat / 2 ^ (k + 1) : Nat) : Int)) (congrArg (Value.int .i64) (half_int _ _)) (Pv (T_nil (W_region ?_)))
    refine Ar ?_
    refine Pv (T_nil ?_)
    exact ⟨p.length - (k + 1), [(1, .int .i64 ((i.toNat / 2 ^ (k + 1) : Nat) : Int)), (4, .slice aa4 p.length cc4), (5, .slice aa5 q.length cc5), (8, .pointer (some ⟨b1, 0, none⟩)), (9, .pointer (some ⟨b4, 0, none⟩)), (12, .pointer (some ⟨b7, 0, none⟩)), (18, .slice a1041 (k + 1) c1042), (19, .slice a1065 (k + 1) c1066), (62, .int .i64 ((p.length : Nat) : Int)), (63, .int .i64 ((k + 1 : Nat) : Int))], by omega, ⟨ciI, rfl, rfl, rfl, rfl, rfl, rfl, rfl, ciI, ciI, trivial⟩, k + 1, a1041, c1042, _, a1065, c1066, _, G1073, rfl, (by omega), rfl, (hl706.trans hl1074), S1104, rs1080, hc1078, rs1083, hc1081⟩
   refine Ai (hl := by exact hVs (climb_len _ hy _ _)) 5 S1084 ?_
   refine Nt rfl (Cs g_aumbry_aumbryref07_Node ((nodeR_ok S1084.le hl1089 (climb_len _ hx _ _)).mono ?_))
   rintro e w1106 ⟨rfl, hB1105⟩
   have S1107 := S1084.call hB1105
   refine ⟨_, rfl, (((Hp.le.refl _)).trans S1107.le), ?_⟩
   refine T_re (v' := hV (climb i.toNat x p (k + 1))) (congrArg (fun q => hV q) (climb_odd (by omega) (len_h hp.1 k (by omega)))) ?_
   refine Nt rfl (Cs g_aumbry_aumbryref07_Node ((nodeR_ok S1107.le hl1094 (climb_len _ hy _ _)).mono ?_))
   rintro e w1109 ⟨rfl, hB1108⟩
   have S1110 := S1107.call hB1108
   refine ⟨_, rfl, (((Hp.le.refl _)).trans S1110.le), ?_⟩
   refine T_re (v' := hV (climb i.toNat y q (k + 1))) (congrArg (fun q => hV q) (climb_odd (by omega) (len_h hq.1 k (by omega)))) ?_
   refine Nt rfl (Ag (hC := fun _ h => ((Hp.le.refl _)).trans h) (hl := by exact hVs (climb_len _ hx _ _)) (hl2 := by exact (hVs (climb_len _ hx _ _)).trans (hVs (climb_len _ hx _ _)).symm) (h1 := by exact one_hA _) 6 S1110 fun w1111 S1112 => ?_)
   refine Nt rfl (Ag (hC := fun _ h => ((Hp.le.refl _)).trans h) (hl := by exact hVs (climb_len _ hy _ _)) (hl2 := by exact (hVs (climb_len _ hy _ _)).trans (hVs (climb_len _ hy _ _)).symm) (h1 := by exact one_hA _) 5 S1112 fun w1113 S1114 => (T_nil (TT_done (W_region ?_))))
   refine Pv ?_
   refine T_quo rfl rfl rfl rfl rfl rfl (by omega) ?_
   refine T_re (v' := .int .i64 ((i.toNat / 2 ^ (k + 1) : Nat) : Int)) (congrArg (Value.int .i64) (half_int _ _)) (Pv (T_nil (W_region ?_)))
   refine Ar ?_
   refine Pv (T_nil ?_)
   exact ⟨p.length - (k + 1), [(1, .int .i64 ((i.toNat / 2 ^ (k + 1) : Nat) : Int)), (4, .slice aa4 p.length cc4), (5, .slice aa5 q.length cc5), (8, .pointer (some ⟨b1, 0, none⟩)), (9, .pointer (some ⟨b4, 0, none⟩)), (12, .pointer (some ⟨b7, 0, none⟩)), (18, .slice a1041 (k + 1) c1042), (19, .slice a1065 (k + 1) c1066), (62, .int .i64 ((p.length : Nat) : Int)), (63, .int .i64 ((k + 1 : Nat) : Int))], by omega, ⟨ciI, rfl, rfl, rfl, rfl, rfl, rfl, rfl, ciI, ciI, trivial⟩, k + 1, a1041, c1042, _, a1065, c1066, _, G1073, rfl, (by omega), rfl, (hl706.trans hl1074), S1114, rs1080, hc1078, rs1083, hc1081⟩
  refine W_seq (W_tree (planF Tryz.prog G705 [112]) (.step 0 (.step 1 (.step 2 (.step 3 (.step 4 (.step 5 (.step 9 (.step 10 (.step 11 (.step 12 (.step 13 (.fork 6 14 (.fork 7 14 (.fork 8 14 (.step 14 (.step 15 (.step 16 (.step 17 (.step 18 (.step 19 .done)))))) (.step 8 (.step 15 (.step 16 (.step 17 (.step 18 (.step 19 .done))))))) (.step 7 (.step 8 (.step 15 (.step 16 (.step 17 (.step 18 (.step 19 .done)))))))) (.step 6 (.step 7 (.step 8 (.step 15 (.step 16 (.step 17 (.step 18 (.step 19 .done)))))))))))))))))))) rfl (by kernel_rfl) S718.le ?_)
  have S1115 := S718.drew
  iterate 3 (refine TT_step rfl ?_; refine Pv ?_; refine T_nil ?_)
  refine TT_step rfl (Af k (hp.mono hl706).2 fun b1116 o1117 hc1118 => ?_)
  have hc1119 := cells_h (hp.mono hl706).1 k (by omega) hc1118
  have hl1120 := len_h (hp.mono hl706).1 k (by omega)
  refine Nt rfl (T_loadGA _ S1115 hc1119 rfl rfl rfl rfl rfl rfl rfl rfl (hVs hl1120) (Nt rfl (Ai (hl := by exact hVs (climb_len _ hx _ _)) 6 S1115 ?_)))
  iterate 3 (refine T_nil ?_; refine TT_step rfl ?_; refine Pv ?_)
  refine Nt rfl (Af k (hq.mono hl706).2 fun b1121 o1122 hc1123 => ?_)
  have hc1124 := cells_h (hq.mono hl706).1 k (by omega) hc1123
  have hl1125 := len_h (hq.mono hl706).1 k (by omega)
  refine Nt rfl (T_loadGAP _ (fun _ h => h) hc1124 rfl rfl rfl rfl rfl rfl rfl rfl (hVs hl1125) (T_nil (TT_fork rfl rfl ?_ ?_)))
  ·refine Cs g_aumbry_aumbryref07_nodeText ((ntextR_ok S1115.le hl1120 (climb_len _ hx _ _)).mono ?_)
   rintro e w1131 ⟨a1126, c1127, hc1128, rfl, ho1129, hB1130⟩
   have S1132 := S1115.own hB1130 ho1129
   refine ⟨_, rfl, (((Hp.le.refl _)).trans S1132.le), ?_⟩
   refine T_nil (TT_fork rfl rfl ?_ ?_)
   ·obtain ⟨G1138, hl1139, S1137, r1140⟩ := S1132.stillRow 0 rfl
    have rs1141 : Rds G1138 [.slice a1126 ((Go.Au.text [110, 111, 100, 101] [(p.getD k []), (climb i.toNat x p k)]).length) c1127] [Go.Au.text [110, 111, 100, 101] [(p.getD k []), (climb i.toNat x p k)]] := Rds.cons (Rd.canonB r1140) (Rds.nil _)
    refine Ad (hone := by simp [Value.cells]; rfl) [.slice a1126 ((Go.Au.text [110, 111, 100, 101] [(p.getD k []), (climb i.toNat x p k)]).length) c1127] fun a1133 w1134 hB1135 ho1136 => ?_
    have S1142 := S1137.own hB1135 ho1136
    refine ⟨((hl1139).trans S1142.le), ?_⟩
    refine T_nil (TT_fork rfl rfl ?_ ?_)
    ·have hD1143 : (wtexts i.toNat x p k ++ [Go.Au.text [110, 111, 100, 101] [(p.getD k []), (climb i.toNat x p k)]]) = wtexts i.toNat x p (k + 1) := (wts_odd (by omega) (len_h hp.1 k (by omega)))
     refine T_appendS 2 (k + 1) _ S1142 (fun _ h => (hl1139).trans h) rfl rfl rfl rfl rfl rfl rfl rfl rfl rfl rfl rfl rfl rfl (S1142.rd 0 rfl) rs1141.one (by first | rfl | (simp; done) | (simp; omega) | omega) rfl (by unfold maxLen; omega) (by show _ * 24 ≤ _; omega) fun a1144 c1145 w1146 hc1147 S1148 => ?_
     have rs1149 := Rds.append (rs711.mono hl1139) rs1141
     rw [hD1143] at rs1149
     refine Nt rfl (Ai (hl := by exact hVs (climb_len _ hy _ _)) 6 S1148 ?_)
     refine Nt rfl (Cs g_aumbry_aumbryref07_nodeText ((ntextR_ok S1148.le hl1125 (climb_len _ hy _ _)).mono ?_))
     rintro e w1155 ⟨a1150, c1151, hc1152, rfl, ho1153, hB1154⟩
     have S1156 := S1148.own hB1154 ho1153
     refine ⟨_, rfl, ((hl1139).trans S1156.le), ?_⟩
     refine Nt rfl ?_
     obtain ⟨G1162, hl1163, S1161, r1164⟩ := S1156.stillRow 0 rfl
     have rs1165 : Rds G1162 [.slice a1150 ((Go.Au.text [110, 111, 100, 101] [(q.getD k []), (climb i.toNat y q k)]).length) c1151] [Go.Au.text [110, 111, 100, 101] [(q.getD k []), (climb i.toNat y q k)]] := Rds.cons (Rd.canonB r1164) (Rds.nil _)
     refine Ad (hone := by simp [Value.cells]; rfl) [.slice a1150 ((Go.Au.text [110, 111, 100, 101] [(q.getD k []), (climb i.toNat y q k)]).length) c1151] fun a1157 w1158 hB1159 ho1160 => ?_
     have S1166 := S1161.own hB1159 ho1160
     refine ⟨(((hl1139.trans hl1163)).trans S1166.le), ?_⟩
     refine Nt rfl ?_
     have hD1167 : (wtexts i.toNat y q k ++ [Go.Au.text [110, 111, 100, 101] [(q.getD k []), (climb i.toNat y q k)]]) = wtexts i.toNat y q (k + 1) := (wts_odd (by omega) (len_h hq.1 k (by omega)))
     refine T_appendS 2 (k + 1) _ S1166 (fun _ h => ((hl1139.trans hl1163)).trans h) rfl rfl rfl rfl rfl rfl rfl rfl rfl rfl rfl rfl rfl rfl (S1166.rd 0 rfl) rs1165.one (by first | rfl | (simp; done) | (simp; omega) | omega) rfl (by unfold maxLen; omega) (by show _ * 24 ≤ _; omega) fun a1168 c1169 w1170 hc1171 S1172 => ?_
     have rs1173 := Rds.append (rs716.mono (hl1139.trans hl1163)) rs1165
     rw [hD1167] at rs1173
     iterate 2 (refine T_nil ?_; refine TT_step rfl ?_; refine Pv ?_)
     refine T_nil (TT_done ?_)
     have S1174 := S1172.drop 1
     have S1175 := S1174.drop 0
     exact Ws (J1077 _ _ ⟨_, _, _, _, _, _, G1162, rfl, (hl1139.trans hl1163), S1175, hc1147, (rs1149.mono hl1163), hc1171, rs1173⟩)
    refine Ai (hl := by exact hVs (climb_len _ hy _ _)) 6 S1142 ?_
    refine Nt rfl ?_
    have hD1176 : (wtexts i.toNat x p k ++ [Go.Au.text [110, 111, 100, 101] [(p.getD k []), (climb i.toNat x p k)]]) = wtexts i.toNat x p (k + 1) := (wts_odd (by omega) (len_h hp.1 k (by omega)))
    refine T_appendS 2 (k + 1) _ S1142 (fun _ h => (hl1139).trans h) rfl rfl rfl rfl rfl rfl rfl rfl rfl rfl rfl rfl rfl rfl (S1142.rd 0 rfl) rs1141.one (by first | rfl | (simp; done) | (simp; omega) | omega) rfl (by unfold maxLen; omega) (by show _ * 24 ≤ _; omega) fun a1177 c1178 w1179 hc1180 S1181 => ?_
    have rs1182 := Rds.append (rs711.mono hl1139) rs1141
    rw [hD1176] at rs1182
    refine Nt rfl (Cs g_aumbry_aumbryref07_nodeText ((ntextR_ok S1181.le hl1125 (climb_len _ hy _ _)).mono ?_))
    rintro e w1188 ⟨a1183, c1184, hc1185, rfl, ho1186, hB1187⟩
    have S1189 := S1181.own hB1187 ho1186
    refine ⟨_, rfl, ((hl1139).trans S1189.le), ?_⟩
    refine Nt rfl ?_
    obtain ⟨G1195, hl1196, S1194, r1197⟩ := S1189.stillRow 0 rfl
    have rs1198 : Rds G1195 [.slice a1183 ((Go.Au.text [110, 111, 100, 101] [(q.getD k []), (climb i.toNat y q k)]).length) c1184] [Go.Au.text [110, 111, 100, 101] [(q.getD k []), (climb i.toNat y q k)]] := Rds.cons (Rd.canonB r1197) (Rds.nil _)
    refine Ad (hone := by simp [Value.cells]; rfl) [.slice a1183 ((Go.Au.text [110, 111, 100, 101] [(q.getD k []), (climb i.toNat y q k)]).length) c1184] fun a1190 w1191 hB1192 ho1193 => ?_
    have S1199 := S1194.own hB1192 ho1193
    refine ⟨(((hl1139.trans hl1196)).trans S1199.le), ?_⟩
    refine Nt rfl ?_
    have hD1200 : (wtexts i.toNat y q k ++ [Go.Au.text [110, 111, 100, 101] [(q.getD k []), (climb i.toNat y q k)]]) = wtexts i.toNat y q (k + 1) := (wts_odd (by omega) (len_h hq.1 k (by omega)))
    refine T_appendS 2 (k + 1) _ S1199 (fun _ h => ((hl1139.trans hl1196)).trans h) rfl rfl rfl rfl rfl rfl rfl rfl rfl rfl rfl rfl rfl rfl (S1199.rd 0 rfl) rs1198.one (by first | rfl | (simp; done) | (simp; omega) | omega) rfl (by unfold maxLen; omega) (by show _ * 24 ≤ _; omega) fun a1201 c1202 w1203 hc1204 S1205 => ?_
    have rs1206 := Rds.append (rs716.mono (hl1139.trans hl1196)) rs1198
    rw [hD1200] at rs1206
    iterate 2 (refine T_nil ?_; refine TT_step rfl ?_; refine Pv ?_)
    refine T_nil (TT_done ?_)
    have S1207 := S1205.drop 1
    have S1208 := S1207.drop 0
    exact Ws (J1077 _ _ ⟨_, _, _, _, _, _, G1195, rfl, (hl1139.trans hl1196), S1208, hc1180, (rs1182.mono hl1196), hc1204, rs1206⟩)
   refine Ai (hl := by exact hVs (climb_len _ hy _ _)) 6 S1132 ?_
   refine Nt rfl ?_
   obtain ⟨G1214, hl1215, S1213, r1216⟩ := S1132.stillRow 0 rfl
   have rs1217 : Rds G1214 [.slice a1126 ((Go.Au.text [110, 111, 100, 101] [(p.getD k []), (climb i.toNat x p k)]).length) c1127] [Go.Au.text [110, 111, 100, 101] [(p.getD k []), (climb i.toNat x p k)]] := Rds.cons (Rd.canonB r1216) (Rds.nil _)
   refine Ad (hone := by simp [Value.cells]; rfl) [.slice a1126 ((Go.Au.text [110, 111, 100, 101] [(p.getD k []), (climb i.toNat x p k)]).length) c1127] fun a1209 w1210 hB1211 ho1212 => ?_
   have S1218 := S1213.own hB1211 ho1212
   refine ⟨((hl1215).trans S1218.le), ?_⟩
   refine Nt rfl ?_
   have hD1219 : (wtexts i.toNat x p k ++ [Go.Au.text [110, 111, 100, 101] [(p.getD k []), (climb i.toNat x p k)]]) = wtexts i.toNat x p (k + 1) := (wts_odd (by omega) (len_h hp.1 k (by omega)))
   refine T_appendS 2 (k + 1) _ S1218 (fun _ h => (hl1215).trans h) rfl rfl rfl rfl rfl rfl rfl rfl rfl rfl rfl rfl rfl rfl (S1218.rd 0 rfl) rs1217.one (by first | rfl | (simp; done) | (simp; omega) | omega) rfl (by unfold maxLen; omega) (by show _ * 24 ≤ _; omega) fun a1220 c1221 w1222 hc1223 S1224 => ?_
   have rs1225 := Rds.append (rs711.mono hl1215) rs1217
   rw [hD1219] at rs1225
   refine Nt rfl (Cs g_aumbry_aumbryref07_nodeText ((ntextR_ok S1224.le hl1125 (climb_len _ hy _ _)).mono ?_))
   rintro e w1231 ⟨a1226, c1227, hc1228, rfl, ho1229, hB1230⟩
   have S1232 := S1224.own hB1230 ho1229
   refine ⟨_, rfl, ((hl1215).trans S1232.le), ?_⟩
   refine Nt rfl ?_
   obtain ⟨G1238, hl1239, S1237, r1240⟩ := S1232.stillRow 0 rfl
   have rs1241 : Rds G1238 [.slice a1226 ((Go.Au.text [110, 111, 100, 101] [(q.getD k []), (climb i.toNat y q k)]).length) c1227] [Go.Au.text [110, 111, 100, 101] [(q.getD k []), (climb i.toNat y q k)]] := Rds.cons (Rd.canonB r1240) (Rds.nil _)
   refine Ad (hone := by simp [Value.cells]; rfl) [.slice a1226 ((Go.Au.text [110, 111, 100, 101] [(q.getD k []), (climb i.toNat y q k)]).length) c1227] fun a1233 w1234 hB1235 ho1236 => ?_
   have S1242 := S1237.own hB1235 ho1236
   refine ⟨(((hl1215.trans hl1239)).trans S1242.le), ?_⟩
   refine Nt rfl ?_
   have hD1243 : (wtexts i.toNat y q k ++ [Go.Au.text [110, 111, 100, 101] [(q.getD k []), (climb i.toNat y q k)]]) = wtexts i.toNat y q (k + 1) := (wts_odd (by omega) (len_h hq.1 k (by omega)))
   refine T_appendS 2 (k + 1) _ S1242 (fun _ h => ((hl1215.trans hl1239)).trans h) rfl rfl rfl rfl rfl rfl rfl rfl rfl rfl rfl rfl rfl rfl (S1242.rd 0 rfl) rs1241.one (by first | rfl | (simp; done) | (simp; omega) | omega) rfl (by unfold maxLen; omega) (by show _ * 24 ≤ _; omega) fun a1244 c1245 w1246 hc1247 S1248 => ?_
   have rs1249 := Rds.append (rs716.mono (hl1215.trans hl1239)) rs1241
   rw [hD1243] at rs1249
   iterate 2 (refine T_nil ?_; refine TT_step rfl ?_; refine Pv ?_)
   refine T_nil (TT_done ?_)
   have S1250 := S1248.drop 1
   have S1251 := S1250.drop 0
   exact Ws (J1077 _ _ ⟨_, _, _, _, _, _, G1238, rfl, (hl1215.trans hl1239), S1251, hc1223, (rs1225.mono hl1239), hc1247, rs1249⟩)
  refine Ai (hl := by exact hVs (climb_len _ hy _ _)) 5 S1115 ?_
  refine Nt rfl (Cs g_aumbry_aumbryref07_nodeText ((ntextR_ok S1115.le hl1120 (climb_len _ hx _ _)).mono ?_))
  rintro e w1257 ⟨a1252, c1253, hc1254, rfl, ho1255, hB1256⟩
  have S1258 := S1115.own hB1256 ho1255
  refine ⟨_, rfl, (((Hp.le.refl _)).trans S1258.le), ?_⟩
  refine Nt rfl ?_
  obtain ⟨G1264, hl1265, S1263, r1266⟩ := S1258.stillRow 0 rfl
  have rs1267 : Rds G1264 [.slice a1252 ((Go.Au.text [110, 111, 100, 101] [(p.getD k []), (climb i.toNat x p k)]).length) c1253] [Go.Au.text [110, 111, 100, 101] [(p.getD k []), (climb i.toNat x p k)]] := Rds.cons (Rd.canonB r1266) (Rds.nil _)
  refine Ad (hone := by simp [Value.cells]; rfl) [.slice a1252 ((Go.Au.text [110, 111, 100, 101] [(p.getD k []), (climb i.toNat x p k)]).length) c1253] fun a1259 w1260 hB1261 ho1262 => ?_
  have S1268 := S1263.own hB1261 ho1262
  refine ⟨((hl1265).trans S1268.le), ?_⟩
  refine Nt rfl ?_
  have hD1269 : (wtexts i.toNat x p k ++ [Go.Au.text [110, 111, 100, 101] [(p.getD k []), (climb i.toNat x p k)]]) = wtexts i.toNat x p (k + 1) := (wts_odd (by omega) (len_h hp.1 k (by omega)))
  refine T_appendS 2 (k + 1) _ S1268 (fun _ h => (hl1265).trans h) rfl rfl rfl rfl rfl rfl rfl rfl rfl rfl rfl rfl rfl rfl (S1268.rd 0 rfl) rs1267.one (by first | rfl | (simp; done) | (simp; omega) | omega) rfl (by unfold maxLen; omega) (by show _ * 24 ≤ _; omega) fun a1270 c1271 w1272 hc1273 S1274 => ?_
  have rs1275 := Rds.append (rs711.mono hl1265) rs1267
  rw [hD1269] at rs1275
  refine Nt rfl (Cs g_aumbry_aumbryref07_nodeText ((ntextR_ok S1274.le hl1125 (climb_len _ hy _ _)).mono ?_))
  rintro e w1281 ⟨a1276, c1277, hc1278, rfl, ho1279, hB1280⟩
  have S1282 := S1274.own hB1280 ho1279
  refine ⟨_, rfl, ((hl1265).trans S1282.le), ?_⟩
  refine Nt rfl ?_
  obtain ⟨G1288, hl1289, S1287, r1290⟩ := S1282.stillRow 0 rfl
  have rs1291 : Rds G1288 [.slice a1276 ((Go.Au.text [110, 111, 100, 101] [(q.getD k []), (climb i.toNat y q k)]).length) c1277] [Go.Au.text [110, 111, 100, 101] [(q.getD k []), (climb i.toNat y q k)]] := Rds.cons (Rd.canonB r1290) (Rds.nil _)
  refine Ad (hone := by simp [Value.cells]; rfl) [.slice a1276 ((Go.Au.text [110, 111, 100, 101] [(q.getD k []), (climb i.toNat y q k)]).length) c1277] fun a1283 w1284 hB1285 ho1286 => ?_
  have S1292 := S1287.own hB1285 ho1286
  refine ⟨(((hl1265.trans hl1289)).trans S1292.le), ?_⟩
  refine Nt rfl ?_
  have hD1293 : (wtexts i.toNat y q k ++ [Go.Au.text [110, 111, 100, 101] [(q.getD k []), (climb i.toNat y q k)]]) = wtexts i.toNat y q (k + 1) := (wts_odd (by omega) (len_h hq.1 k (by omega)))
  refine T_appendS 2 (k + 1) _ S1292 (fun _ h => ((hl1265.trans hl1289)).trans h) rfl rfl rfl rfl rfl rfl rfl rfl rfl rfl rfl rfl rfl rfl (S1292.rd 0 rfl) rs1291.one (by first | rfl | (simp; done) | (simp; omega) | omega) rfl (by unfold maxLen; omega) (by show _ * 24 ≤ _; omega) fun a1294 c1295 w1296 hc1297 S1298 => ?_
  have rs1299 := Rds.append (rs716.mono (hl1265.trans hl1289)) rs1291
  rw [hD1293] at rs1299
  iterate 2 (refine T_nil ?_; refine TT_step rfl ?_; refine Pv ?_)
  refine T_nil (TT_done ?_)
  have S1300 := S1298.drop 1
  have S1301 := S1300.drop 0
  exact Ws (J1077 _ _ ⟨_, _, _, _, _, _, G1288, rfl, (hl1265.trans hl1289), S1301, hc1273, (rs1275.mono hl1289), hc1297, rs1299⟩)
 refine W_exit (W_seq (Wr ?_))
 obtain rfl : k = p.length := by omega
 refine P2 ?_
 refine Ar ?_
 refine Pv (T_nil (W_block ?_))
 obtain ⟨G1303, hl1304, S1302, r1305⟩ := S718.stillRow 1 rfl
 have r1306 := RdL.mk r1305 (rs711.mono hl1304)
 obtain ⟨G1308, hl1309, S1307, r1310⟩ := S1302.stillRow 0 rfl
 have r1311 := RdL.mk r1310 (rs716.mono (hl1304.trans hl1309))
 refine W_loop (fun M ρ w' => ∃ (k : Nat) (G1312 : Hp), M = 1 + k ∧ k ≤ p.length ∧ lastNe (waysH n i x p) (waysH n i y q) p.length = lastNe (waysH n i x p) (waysH n i y q) k ∧ ρ = [(12, .pointer (some ⟨b7, 0, none⟩)), (18, .slice a707 p.length c708), (19, .slice a712 p.length c713), (21, .int .i64 (((k : Nat) : Int) - 1))] ∧ G1308.le G1312 ∧ St w H G1312 [.blk b21 (hV (climbH n i y q) : Value).cells 37, .blk b13 (hV (climbH n i x p) : Value).cells 37, .blk b7 (.agg #[.slice none 0 0, .slice none 0 0] : Value).cells 35, .blk b4 (hV (climb i.toNat y q p.length) : Value).cells 37, .blk b1 (hV (climb i.toNat x p p.length) : Value).cells 37] w')
  (1 + p.length) [(12, .pointer (some ⟨b7, 0, none⟩)), (18, .slice a707 p.length c708), (19, .slice a712 p.length c713), (21, .int .i64 (((p.length : Nat) : Int) - 1))] ⟨rfl, rfl, rfl, ciI, trivial⟩ ⟨p.length, G1308, rfl, (by omega), (by rfl), rfl, Hp.le.refl _, S1307⟩ ?_
 rintro M ρ w1314 ⟨k, G1312, rfl, hp1316, hinv, rfl, hl1313, S1315⟩
 refine W_seq (Wr (P2 (T_nil ?_)))
 refine Aa (fun h1318 => ?_) (fun h1318 => ?_)
 ·refine W_skip (W_seq (W_block (W_seq (W_plan (planF Tryz.prog G1312 [142, 146]) rfl (by kernel_rfl) S1315.le ?_))))
  have S1319 := S1315.drew
  obtain ⟨j, rfl⟩ : ∃ j, k = j + 1 := ⟨k - 1, by omega⟩
  have hj1 : j < p.length := by omega
  have hwx := wtexts_len i.toNat x p p.length
  have hwy := wtexts_len i.toNat y q p.length
  refine P2 ?_
  obtain ⟨hs1323, r1324, r1325⟩ := (r1306.mono (hl1309.trans hl1313))
  refine Af j r1324 fun b1320 o1321 hc1322 => ?_
  obtain ⟨a1328, c1329, hc1331, hv1327, r1330⟩ := r1325.at j (by omega)
  have hc1332 := hc1322 0 (.slice a1328 ((wtexts i.toNat x p p.length).getD j []).length c1329) (by simpa using hv1327)
  simp only [Nat.add_zero] at hc1332
  refine Ak (r := by exact hc1332) ?_
  refine P2 ?_
  obtain ⟨hs1336, r1337, r1338⟩ := (r1311.mono hl1313)
  refine Af j r1337 fun b1333 o1334 hc1335 => ?_
  obtain ⟨a1341, c1342, hc1344, hv1340, r1343⟩ := r1338.at j (by omega)
  have hc1345 := hc1335 0 (.slice a1341 ((wtexts i.toNat y q p.length).getD j []).length c1342) (by simpa using hv1340)
  simp only [Nat.add_zero] at hc1345
  refine Ak (r := by exact hc1345) ?_
  refine T_buildS (cells := #[.slice a1328 ((wtexts i.toNat x p p.length).getD j []).length c1329, .slice a1341 ((wtexts i.toNat y q p.length).getD j []).length c1342]) rfl rfl rfl rfl rfl rfl rfl rfl rfl rfl (Ac (hC := fun _ h => ((Hp.le.refl _)).trans h) S1319 fun b1346 w1347 S1348 => ?_)
  refine Ag (hC := fun _ h => ((Hp.le.refl _)).trans h) (hl := by first | rfl | simp [hVs, *]) (hl2 := by first | rfl | simp [hVs, *]) (h1 := by exact one_all rfl) 0 S1348 fun w1349 S1350 => (Nr ?_)
  refine Ai (hl := by first | rfl | simp [hVs, *]) 0 S1350 ?_
  refine Cs g_aumbry_aumbryref01_Same ((isbrR_ok S1350.le r1330 r1343 (textsj_bd hx hp.1 (by omega) hj1) (textsj_bd hy hq.1 (by omega) hj1)).mono ?_)
  rintro e w1352 ⟨rfl, hB1351⟩
  have S1353 := S1350.call hB1351
  refine ⟨_, rfl, trivial, ?_⟩
  refine T_nil (W_cond rfl (fun h1354 => ?_) (fun h1354 => ?_))
  ·refine Wr (Ai (hl := by first | rfl | simp [hVs, *]) 0 S1353 ?_)
   refine Ag (hl := by first | rfl | simp [hVs, *]) (hl2 := by first | rfl | simp [hVs, *]) (h1 := by exact one_all rfl) 3 S1353 fun w1355 S1356 => ?_
   refine Pv (T_nil (W_ret ?_))
   refine ⟨_, ⟨_, _, _, rfl, rfl, run_loadVarA rfl rfl (by first | rfl | simp [hVs, *]) (S1356.cells 3 rfl), ⟨_, _, rfl, rfl, rfl⟩⟩, ?_⟩
   have hh : (!decide (((wtexts i.toNat x p p.length).getD j []) = ((wtexts i.toNat y q p.length).getD j [])) && decide (Go.Sha.sha ((wtexts i.toNat x p p.length).getD j []) = Go.Sha.sha ((wtexts i.toNat y q p.length).getD j []))) = true := h1354
   have hst := brk_texts hok1 hok2 hj1 hh
   have hyes : (brk n i x y p q) = some (((wtexts i.toNat x p p.length).getD j []), ((wtexts i.toNat y q p.length).getD j [])) := (brk_eq (a := x) (b := y) hok1 hok2 hcl (hinv.trans (lastNe_at hst.1))).trans (by rw [hst.2.1, hst.2.2]; rfl)
   exact br_end hyes r1330 r1343 S1356.fin S1356.below
  refine W_skip (W_region (Pv ?_))
  refine Ar ?_
  refine Pv (T_nil ?_)
  have HEQ := hinv.trans (lastNe_eq (brk_stepT hx hy hp.1 hq.1 hok1 hok2 hcl hj1 hinv h1354))
  have S1357 := S1353.drop 0
  exact ⟨1 + j, [(12, .pointer (some ⟨b7, 0, none⟩)), (18, .slice a707 p.length c708), (19, .slice a712 p.length c713), (21, .int .i64 (((j : Nat) : Int) - 1))], by omega, ⟨rfl, rfl, rfl, ciI, trivial⟩, j, G1312, rfl, (by omega), (by exact HEQ), rfl, hl1313, S1357⟩
 refine W_exit (Wr (T_buildS (cells := #[.slice none 0 0, .slice none 0 0]) rfl rfl rfl rfl rfl rfl rfl rfl rfl rfl (Ag (hl := by first | rfl | simp [hVs, *]) (hl2 := by first | rfl | simp [hVs, *]) (h1 := by exact one_all rfl) 2 S1315 fun w1358 S1359 => ?_)))
 refine Pv (T_nil (W_ret ?_))
 refine ⟨_, ⟨_, _, _, rfl, rfl, run_loadVarA rfl rfl (by first | rfl | simp [hVs, *]) (S1359.cells 2 rfl), ⟨_, _, rfl, rfl, rfl⟩⟩, ?_⟩
 obtain rfl : k = 0 := by omega
 have hno : (brk n i x y p q) = none := brk_eq hok1 hok2 hcl hinv
 rw [hno]
 exact ⟨none, 0, none, 0, rfl, nilB _, nilB _, S1359.below⟩

end Go.Proofs.YtfcejolipdcoaaaGreatDoor
