/- Lengths of blocks, files. -/
import Derived.Test.YtmjmjjkigblbgaaGreatDoorRsC
import Derived.Test.YtmjmjjkigblbgaaGreatDoorLayF
import Derived.Test.YtmjmjjkigblbgaaGreatDoorText
import Derived.Test.YtmjmjjkigblbgaaGreatDoorAuAll
import Derived.Test.YtmjmjjkigblbgaaGreatDoorTreeD
import Derived.Test.YtmjmjjkigblbgaaGreatDoorKeepN
import Derived.Test.YtmjmjjkigblbgaaGreatDoorAuDoor
import Derived.Test.YtmjmjjkigblbgaaGreatDoorFDoor
set_option linter.unusedVariables false
set_option linter.unusedSimpArgs false
set_option maxRecDepth 8192

namespace Go.Proofs.YtmjmjjkigblbgaaGreatDoor
open Go Go.F Go.RowKit
open Go.Au

theorem g_aumbry_rs_Code_Length : goFn Tryz.prog 69 = true := by kernel_rfl
theorem g_aumbry_layout_length : goFn Tryz.prog 27 = true := by kernel_rfl
theorem g_aumbry_aumbryref04_Length : goFn Tryz.prog 34 = true := by kernel_rfl
theorem g_aumbry_aumbryref13_Segments : goFn Tryz.prog 33 = true := by kernel_rfl
theorem g_aumbry_aumbryref13_SegLen : goFn Tryz.prog 35 = true := by kernel_rfl
theorem g_aumbry_layout_file : goFn Tryz.prog 25 = true := by kernel_rfl
theorem g_aumbry_aumbryref13_file : goFn Tryz.prog 72 = true := by kernel_rfl
theorem g_aumbry_aumbryref13_slot : goFn Tryz.prog 79 = true := by kernel_rfl
theorem g_aumbry_aumbryref13_Valid : goFn Tryz.prog 38 = true := by kernel_rfl
theorem g_aumbry_aumbryref13_IsFile : goFn Tryz.prog 30 = true := by kernel_rfl
theorem g_aumbry_layout_RightShare : goFn Tryz.prog 10 = true := by kernel_rfl
theorem g_aumbry_aumbryref13_RightShare : goFn Tryz.prog 11 = true := by kernel_rfl
theorem g_aumbry_aumbryref07_Check : goFn Tryz.prog 36 = true := by kernel_rfl
theorem W_joinB {P : Program} {n : Nat} {c : Code} {Q : Exit → Env → World → Prop} {ρ : Env} {w : World} (ρ0 : Bool → Env) (J : ∀ q, Q .normal (ρ0 q) w) (h : (∀ q, Q .normal (ρ0 q) w) → F.W P n c Q ρ w) : F.W P n c Q ρ w := h J
theorem rsNo_ok {H : Hp} {w : World} (hH : H.le (hw w)) (k : Int) (hk : ¬ (1 ≤ k ∧ k ≤ 16)) :
  Calls Tryz.prog 68 #[.int .i64 k, .int .i64 (max k 16)] w fun e w' => e = .returned (.tuple #[.pointer none, .int .i64 1]) ∧ Below w.heap.size w w' := by
 refine enter2 _ Tryz.func68 rfl Tryz.ntmps68 Tryz.results68 rfl ?_
 have S0 := St.start w hH
 refine Wr ?_
 iterate 2 refine Pv ?_
 refine T_nil (W_seq (Wr ?_))
 iterate 3 refine Pv ?_
 refine Tp 13 (fun h1' => ?_) (fun h1' => ?_)
 ·have h1 := of_decide_eq_true h1'
  iterate 3 refine No ?_
  iterate 2 refine Pv ?_
  iterate 2 refine No ?_
  refine Pv (T_nil ?_)
  refine W_cond_true rfl (Wr ?_)
  iterate 2 refine Pv ?_
  refine T_nil (W_ret ?_)
  refine ⟨_, ⟨_, _, rfl, rfl, ⟨_, _, rfl, rfl, rfl⟩⟩, ?_⟩
  exact ⟨rfl, S0.below⟩
 have h1 := of_decide_eq_false h1'
 iterate 3 (refine Ys ?_; refine Pv ?_)
 iterate 2 refine Pv ?_
 refine Tp 18 (fun h2' => ?_) (fun h2' => ?_)
 ·have h2 := of_decide_eq_true h2'
  iterate 2 refine No ?_
  refine Pv (T_nil ?_)
  refine W_cond_true rfl (Wr ?_)
  iterate 2 refine Pv ?_
  refine T_nil (W_ret ?_)
  refine ⟨_, ⟨_, _, rfl, rfl, ⟨_, _, rfl, rfl, rfl⟩⟩, ?_⟩
  exact ⟨rfl, S0.below⟩
 have h2 := of_decide_eq_false h2'
 iterate 2 (refine Ys ?_; refine Pv ?_)
 refine Pv (T_nil ?_)
 refine W_bool 21 true rfl (decide_eq_true (by omega)) ?_
 refine W_cond_true rfl (Wr ?_)
 iterate 2 refine Pv ?_
 refine T_nil (W_ret ?_)
 refine ⟨_, ⟨_, _, rfl, rfl, ⟨_, _, rfl, rfl, rfl⟩⟩, ?_⟩
 exact ⟨rfl, S0.below⟩


theorem rsYes_ok {H : Hp} {w : World} (hH : H.le (hw w)) (k : Int) (hk : 1 ≤ k ∧ k ≤ 16) :
  Calls Tryz.prog 68 #[.int .i64 k, .int .i64 (max k 16)] w fun e w' => ∃ b, e = .returned (.tuple #[.pointer (some ⟨b, 0, none⟩), .int .i64 0]) ∧ hcell (F.ext H w.heap.size w') b 0 = some (.int .i64 k) ∧ Below w.heap.size w w' := by
 have ek : ((k.toNat : Nat) : Int) = k := Int.toNat_of_nonneg (by omega)
 have em : max k 16 = ((16 : Nat) : Int) := by omega
 have h := rsnew_w (Wk.start hH) k.toNat 16 (by omega) (by omega)
 rw [ek] at h
 rw [em]
 refine h.mono fun e w' ⟨B', _, C, b, v, he, hc, hb⟩ => ⟨b, he, ?_, C.below⟩
 have e : F.ext H w.heap.size w' b = w'.heap[b]? := if_pos hb
 unfold hcell
 rw [e, hc]
 rfl

theorem rsLen_ok {H : Hp} {w : World} (hH : H.le (hw w)) (k z : Int) (hk : 1 ≤ k ∧ k ≤ 16) (hz : z ≤ 9223372036854775807) {rb : Nat} (hrb : hcell H rb 0 = some (.int .i64 k)) :
  Calls Tryz.prog 69 #[.pointer (some ⟨rb, 0, none⟩), .int .i64 z] w fun e w' => e = .returned (.int .i64 (lenV k z)) ∧ Below w.heap.size w w' := by
 refine enter2 _ Tryz.func69 rfl Tryz.ntmps69 Tryz.results69 rfl ?_
 have S0 := St.start w hH
 refine Wr (Pv (T_nil (W_seq (Wr ?_))))
 iterate 2 refine Pv ?_
 refine T_nil (Aa (fun h1 => ?_) (fun h1 => ?_))
 ·refine Wr (Pv (T_nil (W_ret ?_)))
  refine ⟨_, ⟨_, _, rfl, rfl, rfl⟩, ?_⟩
  exact ⟨by rw [lenV_zero (by omega) (by omega)]; rfl, S0.below⟩
 refine W_skip (Wr (Pv ?_))
 refine Ar ?_
 iterate 2 refine Pv ?_
 refine Fl 0 ?_
 have hdb := div_bd hk.1 (z := z) (by omega)
 refine Ac S0 hrb ?_
 refine T_quo rfl rfl rfl rfl rfl rfl (by omega) ?_
 refine Ar ?_
 refine Pv (T_nil (W_ret ?_))
 refine ⟨_, ⟨_, _, rfl, rfl, rfl⟩, ?_⟩
 exact ⟨by rw [lenV_pos (by omega) (by omega)]; rfl, S0.below⟩


theorem lengthA_ok {H : Hp} {w : World} (hH : H.le (hw w)) (k z : Int) (hz : z ≤ 9223372036854775807) (hk : 1 ≤ k ∧ k ≤ 16) :
  Calls Tryz.prog 27 #[.int .i64 k, .int .i64 z] w fun e w' => e = .returned (.int .i64 (lenV k z)) ∧ Below w.heap.size w w' := by
 refine enter2 _ Tryz.func27 rfl Tryz.ntmps27 Tryz.results27 rfl ?_
 have S0 := St.start w hH
 refine Wr (Pv (Nr ?_))
 iterate 3 refine Pv ?_
 refine Cs g_aumbry_rs_New ((rsYes_ok S0.le k hk).mono ?_)
 rintro e w4 ⟨b1, rfl, r2, hB3⟩
 obtain ⟨G6, eG8⟩ : ∃ G, G = F.ext H w.heap.size w4 := ⟨_, rfl⟩
 obtain ⟨hl7, S5⟩ := S0.ext hB3
 rw [← eG8] at hl7 S5 r2
 refine ⟨_, rfl, trivial, ?_⟩
 iterate 5 refine Pv ?_
 refine T_nil (W_seq (W_block (Wr ?_)))
 iterate 3 refine Pv ?_
 refine T_nil (W_bool 14 true rfl (decide_eq_true (by omega)) ?_)
 refine W_cond_true rfl (Wr ?_)
 iterate 2 refine Pv ?_
 refine Cs g_aumbry_rs_Code_Length ((rsLen_ok S5.le k z hk (by omega) r2).mono ?_)
 rintro e w10 ⟨rfl, hB9⟩
 have S11 := S5.call hB9
 refine ⟨_, rfl, trivial, ?_⟩
 refine Pv (T_nil (W_ret ?_))
 refine ⟨_, ⟨_, _, rfl, rfl, rfl⟩, ?_⟩
 exact ⟨rfl, S11.below⟩


theorem lengthB_ok {H : Hp} {w : World} (hH : H.le (hw w)) (k z : Int) (hz : z ≤ 9223372036854775807) (hk : ¬ (1 ≤ k ∧ k ≤ 16)) :
  Calls Tryz.prog 27 #[.int .i64 k, .int .i64 z] w fun e w' => e = .returned (.int .i64 (lenV k z)) ∧ Below w.heap.size w w' := by
 refine enter2 _ Tryz.func27 rfl Tryz.ntmps27 Tryz.results27 rfl ?_
 have S0 := St.start w hH
 refine Wr (Pv (Nr ?_))
 iterate 3 refine Pv ?_
 refine Cs g_aumbry_rs_New ((rsNo_ok S0.le k hk).mono ?_)
 rintro e w2 ⟨rfl, hB1⟩
 have S3 := S0.call hB1
 refine ⟨_, rfl, trivial, ?_⟩
 iterate 5 refine Pv ?_
 refine T_nil (W_seq (W_block (Wr ?_)))
 iterate 3 refine Pv ?_
 refine T_nil (W_bool 14 false rfl (decide_eq_false (by omega)) ?_)
 refine W_cond_false rfl (Wr ?_)
 iterate 3 refine Pv ?_
 refine T_nil (Aa (fun h4 => ?_) (fun h4 => ?_))
 ·refine Wr (Pv (T_nil (W_ret ?_)))
  refine ⟨_, ⟨_, _, rfl, rfl, rfl⟩, ?_⟩
  exact ⟨by rw [lenV_neg (by omega)]; rfl, S3.below⟩
 refine Wr ?_
 iterate 3 refine Pv ?_
 refine T_nil (Aa (fun h5 => ?_) (fun h5 => ?_))
 ·refine Wr (Pv (T_nil (W_ret ?_)))
  refine ⟨_, ⟨_, _, rfl, rfl, rfl⟩, ?_⟩
  exact ⟨by rw [lenV_zero (by omega) (by omega)]; rfl, S3.below⟩
 refine W_skip (Wr (Pv ?_))
 refine Ar ?_
 refine Pv ?_
 have hdb := div_bd (k := k) (z := z) (by omega) (by omega)
 refine T_quo rfl rfl rfl rfl rfl rfl (by omega) ?_
 refine Ar ?_
 refine Pv (T_nil (W_ret ?_))
 refine ⟨_, ⟨_, _, rfl, rfl, rfl⟩, ?_⟩
 exact ⟨by rw [lenV_pos (by omega) (by omega)]; rfl, S3.below⟩


theorem length_ok {H : Hp} {w : World} (hH : H.le (hw w)) (k z : Int) (hz : z ≤ 9223372036854775807) :
  Calls Tryz.prog 27 #[.int .i64 k, .int .i64 z] w fun e w' => e = .returned (.int .i64 (lenV k z)) ∧ Below w.heap.size w w' := by
 by_cases hk : 1 ≤ k ∧ k ≤ 16
 ·exact lengthA_ok hH k z hz hk
 ·exact lengthB_ok hH k z hz hk

theorem lengthR_ok {H : Hp} {w : World} (hH : H.le (hw w)) (z k : Int) (hz : z ≤ 9223372036854775807) (hk : 1 ≤ k) :
  Calls Tryz.prog 34 #[.int .i64 z, .int .i64 k] w fun e w' => e = .returned (.int .i64 (lenV k z)) ∧ Below w.heap.size w w' := by
 refine enter2 _ Tryz.func34 rfl Tryz.ntmps34 Tryz.results34 rfl ?_
 have S0 := St.start w hH
 refine Wr (Pv (T_nil (W_seq (Wr ?_))))
 iterate 2 refine Pv ?_
 refine T_nil (Aa (fun h1 => ?_) (fun h1 => ?_))
 ·refine Wr (Pv (T_nil (W_ret ?_)))
  refine ⟨_, ⟨_, _, rfl, rfl, rfl⟩, ?_⟩
  exact ⟨by rw [lenV_zero (by omega) (by omega)]; rfl, S0.below⟩
 refine W_skip (Wr (Pv ?_))
 refine Ar ?_
 refine Pv ?_
 have hdb := div_bd hk (z := z) (by omega)
 refine T_quo rfl rfl rfl rfl rfl rfl (by omega) ?_
 refine Ar ?_
 refine Pv (T_nil (W_ret ?_))
 refine ⟨_, ⟨_, _, rfl, rfl, rfl⟩, ?_⟩
 exact ⟨by rw [lenV_pos (by omega) (by omega)]; rfl, S0.below⟩


theorem segments_ok {H : Hp} {w : World} (hH : H.le (hw w)) (z : Int) (hz : 1 ≤ z ∧ z ≤ 1024) :
  Calls Tryz.prog 33 #[.int .i64 z] w fun e w' => e = .returned (.int .i64 ((z - 1) / 64 + 1)) ∧ Below w.heap.size w w' := by
 refine enter1 _ Tryz.func33 rfl Tryz.ntmps33 Tryz.results33 rfl ?_
 have S0 := St.start w hH
 refine Wr (Pv (Nr ?_))
 refine Pv ?_
 refine Ar ?_
 refine T_quo rfl rfl rfl rfl rfl rfl (by omega) ?_
 refine Ar ?_
 refine Pv (T_nil (W_ret ?_))
 refine ⟨_, ⟨_, _, rfl, rfl, rfl⟩, ?_⟩
 exact ⟨rfl, S0.below⟩


theorem seglen_ok {H : Hp} {w : World} (hH : H.le (hw w)) (z : Int) (i : Nat) (hz : 1 ≤ z ∧ z ≤ 1024) (hi : i ≤ 1000) :
  Calls Tryz.prog 35 #[.int .i64 z, .int .i64 ((i : Nat) : Int)] w fun e w' => e = .returned (.int .i64 (min (z - ((i : Nat) : Int) * 64) 64)) ∧ Below w.heap.size w w' := by
 refine enter2 _ Tryz.func35 rfl Tryz.ntmps35 Tryz.results35 rfl ?_
 have S0 := St.start w hH
 refine Wr (Pv (Nr ?_))
 iterate 2 refine Pv ?_
 iterate 2 refine Ar ?_
 iterate 2 refine Pv ?_
 refine T_nil (W_ret ?_)
 refine ⟨_, ⟨_, _, rfl, rfl, rfl⟩, ?_⟩
 exact ⟨rfl, S0.below⟩


theorem file_ok {H : Hp} {w : World} (hH : H.le (hw w)) (kd ck cn cz : Int) {ky fp L : List UInt8} (hky : ky.length = 16) (hfp : fp.length = 32) {acp : Option Addr} {ncp ccp : Nat} (hcap : Rd H (.slice acp ncp ccp) ncp 1 (L.map bV)) :
  Calls Tryz.prog 25 #[gV [[.int .i64 kd], ky.map bV, fp.map bV, [.int .i64 ck], [.int .i64 cn], [.int .i64 cz], [.slice acp ncp ccp]]] w fun e w' => e = .returned (.bool (decide (FileP kd ck cn cz L))) ∧ Below w.heap.size w w' := by
 obtain rfl : ncp = L.length := hcap.lenB
 refine enter1 _ Tryz.func25 rfl Tryz.ntmps25 Tryz.results25 rfl ?_
 have S0 := St.start w hH
 refine Wr (Al S0 fun b1 w2 S3 => ?_)
 refine Pv (Nr ?_)
 refine Fl 0 ?_
 refine Am 0 0 S3 (gV_cell (shCp hky hfp) 0 rfl rfl) ?_
 iterate 2 refine Pv ?_
 refine Tp 6 (fun h4' => ?_) (fun h4' => ?_)
 ·have h4 := of_decide_eq_true h4'
  iterate 3 refine No ?_
  iterate 2 refine Pv ?_
  refine Ys ?_
  refine Fl 49 ?_
  refine Ys ?_
  refine Am 0 49 S3 (gV_cell (shCp hky hfp) 3 rfl rfl) ?_
  refine Ys ?_
  refine Fl 50 ?_
  refine Ys ?_
  refine Am 0 50 S3 (gV_cell (shCp hky hfp) 4 rfl rfl) ?_
  refine Ys ?_
  refine Cs g_aumbry_layout_kn ((kn_ok S3.le ck cn).mono ?_)
  rintro e w6 ⟨rfl, hB5⟩
  have S7 := S3.call hB5
  refine ⟨_, rfl, trivial, ?_⟩
  iterate 2 refine Pv ?_
  refine Tp 18 (fun h8' => ?_) (fun h8' => ?_)
  ·have h8 := of_decide_eq_true h8'
   refine Ys ?_
   refine Fl 51 ?_
   refine Ys ?_
   refine Am 0 51 S7 (gV_cell (shCp hky hfp) 5 rfl rfl) ?_
   refine Ys ?_
   iterate 3 refine Pv ?_
   refine Tp 23 (fun h9' => ?_) (fun h9' => ?_)
   ·have h9 := of_decide_eq_true h9'
    refine Ys ?_
    refine Fl 51 ?_
    refine Ys ?_
    refine Am 0 51 S7 (gV_cell (shCp hky hfp) 5 rfl rfl) ?_
    refine Ys ?_
    iterate 3 refine Pv ?_
    refine Tp 28 (fun h10' => ?_) (fun h10' => ?_)
    ·have h10 := of_decide_eq_true h10'
     refine Ys ?_
     refine Fl 52 ?_
     refine Ys ?_
     refine Am 0 52 S7 (gV_cell (shCp hky hfp) 6 rfl rfl) ?_
     iterate 2 (refine Ys ?_; refine Pv ?_)
     iterate 2 refine Pv ?_
     refine T_nil (W_ret ?_)
     refine ⟨_, ⟨_, _, rfl, rfl, rfl⟩, ?_⟩
     exact ⟨congrArg (fun z => Ending.returned (Value.bool z)) (by unfold FileP; first | (exact (decide_eq_true (by omega)).symm) | (exact (decide_eq_false (by omega)).symm) | exact decide_eq_decide.2 (by omega)), S7.below⟩
    have h10 := of_decide_eq_false h10'
    iterate 4 refine No ?_
    iterate 2 refine Pv ?_
    refine T_nil (W_ret ?_)
    refine ⟨_, ⟨_, _, rfl, rfl, rfl⟩, ?_⟩
    exact ⟨congrArg (fun z => Ending.returned (Value.bool z)) (by unfold FileP; first | (exact (decide_eq_true (by omega)).symm) | (exact (decide_eq_false (by omega)).symm) | exact decide_eq_decide.2 (by omega)), S7.below⟩
   have h9 := of_decide_eq_false h9'
   iterate 3 refine No ?_
   iterate 2 refine Pv ?_
   iterate 4 refine No ?_
   iterate 2 refine Pv ?_
   refine T_nil (W_ret ?_)
   refine ⟨_, ⟨_, _, rfl, rfl, rfl⟩, ?_⟩
   exact ⟨congrArg (fun z => Ending.returned (Value.bool z)) (by unfold FileP; first | (exact (decide_eq_true (by omega)).symm) | (exact (decide_eq_false (by omega)).symm) | exact decide_eq_decide.2 (by omega)), S7.below⟩
  have h8 := of_decide_eq_false h8'
  iterate 2 (refine No ?_; refine No ?_; refine No ?_; refine Pv ?_; refine Pv ?_)
  iterate 4 refine No ?_
  iterate 2 refine Pv ?_
  refine T_nil (W_ret ?_)
  refine ⟨_, ⟨_, _, rfl, rfl, rfl⟩, ?_⟩
  exact ⟨congrArg (fun z => Ending.returned (Value.bool z)) (by unfold FileP; first | (exact (decide_eq_true (by omega)).symm) | (exact (decide_eq_false (by omega)).symm) | exact decide_eq_decide.2 (by omega)), S7.below⟩
 have h4 := of_decide_eq_false h4'
 refine Ys ?_
 refine Fl 0 ?_
 refine Ys ?_
 refine Am 0 0 S3 (gV_cell (shCp hky hfp) 0 rfl rfl) ?_
 refine Ys ?_
 iterate 3 refine Pv ?_
 refine Tp 11 (fun h11' => ?_) (fun h11' => ?_)
 ·have h11 := of_decide_eq_true h11'
  refine Ys ?_
  refine Fl 49 ?_
  refine Ys ?_
  refine Am 0 49 S3 (gV_cell (shCp hky hfp) 3 rfl rfl) ?_
  refine Ys ?_
  refine Fl 50 ?_
  refine Ys ?_
  refine Am 0 50 S3 (gV_cell (shCp hky hfp) 4 rfl rfl) ?_
  refine Ys ?_
  refine Cs g_aumbry_layout_kn ((kn_ok S3.le ck cn).mono ?_)
  rintro e w13 ⟨rfl, hB12⟩
  have S14 := S3.call hB12
  refine ⟨_, rfl, trivial, ?_⟩
  iterate 2 refine Pv ?_
  refine Tp 18 (fun h15' => ?_) (fun h15' => ?_)
  ·have h15 := of_decide_eq_true h15'
   refine Ys ?_
   refine Fl 51 ?_
   refine Ys ?_
   refine Am 0 51 S14 (gV_cell (shCp hky hfp) 5 rfl rfl) ?_
   refine Ys ?_
   iterate 3 refine Pv ?_
   refine Tp 23 (fun h16' => ?_) (fun h16' => ?_)
   ·have h16 := of_decide_eq_true h16'
    refine Ys ?_
    refine Fl 51 ?_
    refine Ys ?_
    refine Am 0 51 S14 (gV_cell (shCp hky hfp) 5 rfl rfl) ?_
    refine Ys ?_
    iterate 3 refine Pv ?_
    refine Tp 28 (fun h17' => ?_) (fun h17' => ?_)
    ·have h17 := of_decide_eq_true h17'
     refine Ys ?_
     refine Fl 52 ?_
     refine Ys ?_
     refine Am 0 52 S14 (gV_cell (shCp hky hfp) 6 rfl rfl) ?_
     iterate 2 (refine Ys ?_; refine Pv ?_)
     iterate 2 refine Pv ?_
     refine T_nil (W_ret ?_)
     refine ⟨_, ⟨_, _, rfl, rfl, rfl⟩, ?_⟩
     exact ⟨congrArg (fun z => Ending.returned (Value.bool z)) (by unfold FileP; first | (exact (decide_eq_true (by omega)).symm) | (exact (decide_eq_false (by omega)).symm) | exact decide_eq_decide.2 (by omega)), S14.below⟩
    have h17 := of_decide_eq_false h17'
    iterate 4 refine No ?_
    iterate 2 refine Pv ?_
    refine T_nil (W_ret ?_)
    refine ⟨_, ⟨_, _, rfl, rfl, rfl⟩, ?_⟩
    exact ⟨congrArg (fun z => Ending.returned (Value.bool z)) (by unfold FileP; first | (exact (decide_eq_true (by omega)).symm) | (exact (decide_eq_false (by omega)).symm) | exact decide_eq_decide.2 (by omega)), S14.below⟩
   have h16 := of_decide_eq_false h16'
   iterate 3 refine No ?_
   iterate 2 refine Pv ?_
   iterate 4 refine No ?_
   iterate 2 refine Pv ?_
   refine T_nil (W_ret ?_)
   refine ⟨_, ⟨_, _, rfl, rfl, rfl⟩, ?_⟩
   exact ⟨congrArg (fun z => Ending.returned (Value.bool z)) (by unfold FileP; first | (exact (decide_eq_true (by omega)).symm) | (exact (decide_eq_false (by omega)).symm) | exact decide_eq_decide.2 (by omega)), S14.below⟩
  have h15 := of_decide_eq_false h15'
  iterate 2 (refine No ?_; refine No ?_; refine No ?_; refine Pv ?_; refine Pv ?_)
  iterate 4 refine No ?_
  iterate 2 refine Pv ?_
  refine T_nil (W_ret ?_)
  refine ⟨_, ⟨_, _, rfl, rfl, rfl⟩, ?_⟩
  exact ⟨congrArg (fun z => Ending.returned (Value.bool z)) (by unfold FileP; first | (exact (decide_eq_true (by omega)).symm) | (exact (decide_eq_false (by omega)).symm) | exact decide_eq_decide.2 (by omega)), S14.below⟩
 have h11 := of_decide_eq_false h11'
 iterate 5 refine No ?_
 iterate 3 (refine Pv ?_; refine Pv ?_; refine No ?_; refine No ?_; refine No ?_)
 refine No ?_
 iterate 2 refine Pv ?_
 refine T_nil (W_ret ?_)
 refine ⟨_, ⟨_, _, rfl, rfl, rfl⟩, ?_⟩
 exact ⟨congrArg (fun z => Ending.returned (Value.bool z)) (by unfold FileP; first | (exact (decide_eq_true (by omega)).symm) | (exact (decide_eq_false (by omega)).symm) | exact decide_eq_decide.2 (by omega)), S3.below⟩


theorem fileR_ok {H : Hp} {w : World} (hH : H.le (hw w)) (kd ck cn cz : Int) {ky fp L : List UInt8} (hky : ky.length = 16) (hfp : fp.length = 32) {acp : Option Addr} {ncp ccp : Nat} (hcap : Rd H (.slice acp ncp ccp) ncp 1 (L.map bV)) :
  Calls Tryz.prog 72 #[gV [[.int .i64 kd], ky.map bV, fp.map bV, [.int .i64 ck], [.int .i64 cn], [.int .i64 cz], [.slice acp ncp ccp]]] w fun e w' => e = .returned (.bool (decide (kd = 1 ∨ kd = 2))) ∧ Below w.heap.size w w' := by
 obtain rfl : ncp = L.length := hcap.lenB
 refine enter1 _ Tryz.func72 rfl Tryz.ntmps72 Tryz.results72 rfl ?_
 have S0 := St.start w hH
 refine Wr (Al S0 fun b1 w2 S3 => ?_)
 refine Pv (Nr ?_)
 refine Fl 0 ?_
 refine Am 0 0 S3 (gV_cell (shCp hky hfp) 0 rfl rfl) ?_
 iterate 2 refine Pv ?_
 refine Tp 6 (fun h4' => ?_) (fun h4' => ?_)
 ·have h4 := of_decide_eq_true h4'
  iterate 3 refine No ?_
  iterate 2 refine Pv ?_
  refine T_nil (W_ret ?_)
  refine ⟨_, ⟨_, _, rfl, rfl, rfl⟩, ?_⟩
  exact ⟨congrArg (fun z => Ending.returned (Value.bool z)) (by first | (exact (decide_eq_true (by omega)).symm) | (exact (decide_eq_false (by omega)).symm) | exact decide_eq_decide.2 (by omega)), S3.below⟩
 have h4 := of_decide_eq_false h4'
 refine Ys ?_
 refine Fl 0 ?_
 refine Ys ?_
 refine Am 0 0 S3 (gV_cell (shCp hky hfp) 0 rfl rfl) ?_
 refine Ys ?_
 iterate 3 refine Pv ?_
 refine T_nil (W_ret ?_)
 refine ⟨_, ⟨_, _, rfl, rfl, rfl⟩, ?_⟩
 exact ⟨congrArg (fun z => Ending.returned (Value.bool z)) (by first | (exact (decide_eq_true (by omega)).symm) | (exact (decide_eq_false (by omega)).symm) | exact decide_eq_decide.2 (by omega)), S3.below⟩


theorem slotR_ok {H : Hp} {w : World} (hH : H.le (hw w)) (kd ck cn cz : Int) {ky fp L : List UInt8} (hky : ky.length = 16) (hfp : fp.length = 32) {acp : Option Addr} {ncp ccp : Nat} (hcap : Rd H (.slice acp ncp ccp) ncp 1 (L.map bV)) :
  Calls Tryz.prog 79 #[gV [[.int .i64 kd], ky.map bV, fp.map bV, [.int .i64 ck], [.int .i64 cn], [.int .i64 cz], [.slice acp ncp ccp]]] w fun e w' => e = .returned (.bool (decide (4 ≤ kd ∧ kd ≤ 9))) ∧ Below w.heap.size w w' := by
 obtain rfl : ncp = L.length := hcap.lenB
 refine enter1 _ Tryz.func79 rfl Tryz.ntmps79 Tryz.results79 rfl ?_
 have S0 := St.start w hH
 refine Wr (Al S0 fun b1 w2 S3 => ?_)
 refine Pv (Nr ?_)
 refine Fl 0 ?_
 refine Am 0 0 S3 (gV_cell (shCp hky hfp) 0 rfl rfl) ?_
 iterate 2 refine Pv ?_
 refine Tp 6 (fun h4' => ?_) (fun h4' => ?_)
 ·have h4 := of_decide_eq_true h4'
  refine Ys ?_
  refine Fl 0 ?_
  refine Ys ?_
  refine Am 0 0 S3 (gV_cell (shCp hky hfp) 0 rfl rfl) ?_
  refine Ys ?_
  iterate 3 refine Pv ?_
  refine T_nil (W_ret ?_)
  refine ⟨_, ⟨_, _, rfl, rfl, rfl⟩, ?_⟩
  exact ⟨congrArg (fun z => Ending.returned (Value.bool z)) (by first | (exact (decide_eq_true (by omega)).symm) | (exact (decide_eq_false (by omega)).symm) | exact decide_eq_decide.2 (by omega)), S3.below⟩
 have h4 := of_decide_eq_false h4'
 iterate 3 refine No ?_
 iterate 2 refine Pv ?_
 refine T_nil (W_ret ?_)
 refine ⟨_, ⟨_, _, rfl, rfl, rfl⟩, ?_⟩
 exact ⟨congrArg (fun z => Ending.returned (Value.bool z)) (by first | (exact (decide_eq_true (by omega)).symm) | (exact (decide_eq_false (by omega)).symm) | exact decide_eq_decide.2 (by omega)), S3.below⟩


theorem validR_ok {H : Hp} {w : World} (hH : H.le (hw w)) (kd ck cn cz : Int) {ky fp L : List UInt8} (hky : ky.length = 16) (hfp : fp.length = 32) {acp : Option Addr} {ncp ccp : Nat} (hcap : Rd H (.slice acp ncp ccp) ncp 1 (L.map bV)) :
  Calls Tryz.prog 38 #[gV [[.int .i64 kd], ky.map bV, fp.map bV, [.int .i64 ck], [.int .i64 cn], [.int .i64 cz], [.slice acp ncp ccp]]] w fun e w' => ∃ q : Bool, e = .returned (.bool q) ∧ ((kd = 1 ∨ kd = 2) → q = decide (FileP kd ck cn cz L)) ∧ Below w.heap.size w w' := by
 obtain rfl : ncp = L.length := hcap.lenB
 refine enter1 _ Tryz.func38 rfl Tryz.ntmps38 Tryz.results38 rfl ?_
 have S0 := St.start w hH
 refine Wr (Al S0 fun b1 w2 S3 => ?_)
 refine Pv (T_nil (W_seq ?_))
 refine W_joinB (fun q4 => [(1, .pointer (some ⟨b1, 0, none⟩)), (2, .bool false), (3, .bool q4)]) (fun q4 => ?_) (fun J5 => ?_)
 ·refine W_seq (W_block (Wr (Ak (hl := by exact gV_size (L := [[.int .i64 kd], ky.map bV, fp.map bV, [.int .i64 ck], [.int .i64 cn], [.int .i64 cz], [.slice acp L.length ccp]]) (shCp hky hfp) rfl) 0 S3 ?_)))
  refine Cs g_aumbry_aumbryref13_file ((fileR_ok S3.le kd ck cn cz hky hfp hcap).mono ?_)
  rintro e w7 ⟨rfl, hB6⟩
  have S8 := S3.call hB6
  refine ⟨_, rfl, trivial, ?_⟩
  refine Pv (T_nil ?_)
  refine Aa (fun h9 => ?_) (fun h9 => ?_)
  ·refine Wr (Fl 49 ?_)
   refine Am 0 49 S8 (gV_cell (shCp hky hfp) 3 rfl rfl) ?_
   iterate 2 refine Pv ?_
   refine Tp 23 (fun h10' => ?_) (fun h10' => ?_)
   ·have h10 := of_decide_eq_true h10'
    refine Ys ?_
    refine Fl 49 ?_
    refine Ys ?_
    refine Am 0 49 S8 (gV_cell (shCp hky hfp) 3 rfl rfl) ?_
    refine Ys ?_
    refine Fl 50 ?_
    refine Ys ?_
    refine Am 0 50 S8 (gV_cell (shCp hky hfp) 4 rfl rfl) ?_
    refine Ys ?_
    iterate 3 refine Pv ?_
    refine Tp 30 (fun h11' => ?_) (fun h11' => ?_)
    ·have h11 := of_decide_eq_true h11'
     refine Ys ?_
     refine Fl 50 ?_
     refine Ys ?_
     refine Am 0 50 S8 (gV_cell (shCp hky hfp) 4 rfl rfl) ?_
     refine Ys ?_
     iterate 3 refine Pv ?_
     refine Tp 35 (fun h12' => ?_) (fun h12' => ?_)
     ·have h12 := of_decide_eq_true h12'
      refine Ys ?_
      refine Fl 51 ?_
      refine Ys ?_
      refine Am 0 51 S8 (gV_cell (shCp hky hfp) 5 rfl rfl) ?_
      refine Ys ?_
      iterate 3 refine Pv ?_
      refine Tp 40 (fun h13' => ?_) (fun h13' => ?_)
      ·have h13 := of_decide_eq_true h13'
       refine Ys ?_
       refine Fl 51 ?_
       refine Ys ?_
       refine Am 0 51 S8 (gV_cell (shCp hky hfp) 5 rfl rfl) ?_
       refine Ys ?_
       iterate 3 refine Pv ?_
       refine Tp 45 (fun h14' => ?_) (fun h14' => ?_)
       ·have h14 := of_decide_eq_true h14'
        refine Ys ?_
        refine Fl 52 ?_
        refine Ys ?_
        refine Am 0 52 S8 (gV_cell (shCp hky hfp) 6 rfl rfl) ?_
        iterate 2 (refine Ys ?_; refine Pv ?_)
        iterate 2 refine Pv ?_
        refine T_nil (W_ret ?_)
        refine ⟨_, ⟨_, _, rfl, rfl, rfl⟩, ?_⟩
        refine ⟨_, rfl, fun _ => ?_, S8.below⟩
        first | omega | (unfold FileP; first | (exact (decide_eq_true (by omega)).symm) | (exact (decide_eq_false (by omega)).symm) | exact decide_eq_decide.2 (by omega))
       have h14 := of_decide_eq_false h14'
       iterate 4 refine No ?_
       iterate 2 refine Pv ?_
       refine T_nil (W_ret ?_)
       refine ⟨_, ⟨_, _, rfl, rfl, rfl⟩, ?_⟩
       refine ⟨_, rfl, fun _ => ?_, S8.below⟩
       first | omega | (unfold FileP; first | (exact (decide_eq_true (by omega)).symm) | (exact (decide_eq_false (by omega)).symm) | exact decide_eq_decide.2 (by omega))
      have h13 := of_decide_eq_false h13'
      iterate 3 refine No ?_
      iterate 2 refine Pv ?_
      iterate 4 refine No ?_
      iterate 2 refine Pv ?_
      refine T_nil (W_ret ?_)
      refine ⟨_, ⟨_, _, rfl, rfl, rfl⟩, ?_⟩
      refine ⟨_, rfl, fun _ => ?_, S8.below⟩
      first | omega | (unfold FileP; first | (exact (decide_eq_true (by omega)).symm) | (exact (decide_eq_false (by omega)).symm) | exact decide_eq_decide.2 (by omega))
     have h12 := of_decide_eq_false h12'
     iterate 2 (refine No ?_; refine No ?_; refine No ?_; refine Pv ?_; refine Pv ?_)
     iterate 4 refine No ?_
     iterate 2 refine Pv ?_
     refine T_nil (W_ret ?_)
     refine ⟨_, ⟨_, _, rfl, rfl, rfl⟩, ?_⟩
     refine ⟨_, rfl, fun _ => ?_, S8.below⟩
     first | omega | (unfold FileP; first | (exact (decide_eq_true (by omega)).symm) | (exact (decide_eq_false (by omega)).symm) | exact decide_eq_decide.2 (by omega))
    have h11 := of_decide_eq_false h11'
    iterate 3 (refine No ?_; refine No ?_; refine No ?_; refine Pv ?_; refine Pv ?_)
    iterate 4 refine No ?_
    iterate 2 refine Pv ?_
    refine T_nil (W_ret ?_)
    refine ⟨_, ⟨_, _, rfl, rfl, rfl⟩, ?_⟩
    refine ⟨_, rfl, fun _ => ?_, S8.below⟩
    first | omega | (unfold FileP; first | (exact (decide_eq_true (by omega)).symm) | (exact (decide_eq_false (by omega)).symm) | exact decide_eq_decide.2 (by omega))
   have h10 := of_decide_eq_false h10'
   iterate 5 refine No ?_
   iterate 4 (refine Pv ?_; refine Pv ?_; refine No ?_; refine No ?_; refine No ?_)
   refine No ?_
   iterate 2 refine Pv ?_
   refine T_nil (W_ret ?_)
   refine ⟨_, ⟨_, _, rfl, rfl, rfl⟩, ?_⟩
   refine ⟨_, rfl, fun _ => ?_, S8.below⟩
   first | omega | (unfold FileP; first | (exact (decide_eq_true (by omega)).symm) | (exact (decide_eq_false (by omega)).symm) | exact decide_eq_decide.2 (by omega))
  refine Wr (Fl 0 ?_)
  refine Am 0 0 S8 (gV_cell (shCp hky hfp) 0 rfl rfl) ?_
  iterate 2 refine Pv ?_
  refine T_nil (Aa (fun h15 => ?_) (fun h15 => ?_))
  ·refine Wr ?_
   iterate 2 refine Pv ?_
   refine Tp 56 (fun h16' => ?_) (fun h16' => ?_)
   ·have h16 := h16'
    refine Ys ?_
    refine Fl 1 ?_
    refine Ys ?_
    refine T_loadAS (hV ky : Value).cells 0 S8 rfl rfl rfl rfl rfl rfl rfl rfl rfl (hVs hky) (gV_sub (shCp hky hfp) 1 1 (c := ky.map bV) (flat1) rfl) (Ys ?_)
    refine T_buildA (cells := (hV (List.replicate 16 0)).cells) rfl rfl rfl rfl rfl rfl rfl rfl rfl rfl (Ys ?_)
    refine T_eqB (xs := ky) (ys := (List.replicate 16 0)) rfl rfl rfl rfl rfl rfl rfl rfl rfl rfl rfl hky List.length_replicate ?_
    iterate 2 refine Pv ?_
    refine Tp 62 (fun h17' => ?_) (fun h17' => ?_)
    ·have h17 := of_decide_eq_true h17'
     refine Ys ?_
     refine Fl 17 ?_
     refine Ys ?_
     refine T_loadAS (hV fp : Value).cells 0 S8 rfl rfl rfl rfl rfl rfl rfl rfl rfl (hVs hfp) (gV_sub (shCp hky hfp) 2 1 (c := fp.map bV) (flat1) rfl) (Ys ?_)
     refine T_buildA (cells := (hV (List.replicate 32 0)).cells) rfl rfl rfl rfl rfl rfl rfl rfl rfl rfl (Ys ?_)
     refine T_eqB (xs := fp) (ys := (List.replicate 32 0)) rfl rfl rfl rfl rfl rfl rfl rfl rfl rfl rfl hfp List.length_replicate ?_
     iterate 2 refine Pv ?_
     refine Tp 68 (fun h18' => ?_) (fun h18' => ?_)
     ·have h18 := of_decide_eq_true h18'
      refine Ys ?_
      refine Fl 52 ?_
      refine Ys ?_
      refine Am 0 52 S8 (gV_cell (shCp hky hfp) 6 rfl rfl) ?_
      iterate 2 (refine Ys ?_; refine Pv ?_)
      iterate 2 refine Pv ?_
      refine T_nil (W_ret ?_)
      refine ⟨_, ⟨_, _, rfl, rfl, rfl⟩, ?_⟩
      refine ⟨_, rfl, fun _ => ?_, S8.below⟩
      first | omega | (unfold FileP; first | (exact (decide_eq_true (by omega)).symm) | (exact (decide_eq_false (by omega)).symm) | exact decide_eq_decide.2 (by omega))
     have h18 := of_decide_eq_false h18'
     iterate 4 refine No ?_
     iterate 2 refine Pv ?_
     refine T_nil (W_ret ?_)
     refine ⟨_, ⟨_, _, rfl, rfl, rfl⟩, ?_⟩
     refine ⟨_, rfl, fun _ => ?_, S8.below⟩
     first | omega | (unfold FileP; first | (exact (decide_eq_true (by omega)).symm) | (exact (decide_eq_false (by omega)).symm) | exact decide_eq_decide.2 (by omega))
    have h17 := of_decide_eq_false h17'
    iterate 2 (refine No ?_; refine No ?_; refine No ?_; refine No ?_; refine Pv ?_; refine Pv ?_)
    refine T_nil (W_ret ?_)
    refine ⟨_, ⟨_, _, rfl, rfl, rfl⟩, ?_⟩
    refine ⟨_, rfl, fun _ => ?_, S8.below⟩
    first | omega | (unfold FileP; first | (exact (decide_eq_true (by omega)).symm) | (exact (decide_eq_false (by omega)).symm) | exact decide_eq_decide.2 (by omega))
   have h16 := h16'
   iterate 3 (refine No ?_; refine No ?_; refine No ?_; refine No ?_; refine Pv ?_; refine Pv ?_)
   refine T_nil (W_ret ?_)
   refine ⟨_, ⟨_, _, rfl, rfl, rfl⟩, ?_⟩
   refine ⟨_, rfl, fun _ => ?_, S8.below⟩
   first | omega | (unfold FileP; first | (exact (decide_eq_true (by omega)).symm) | (exact (decide_eq_false (by omega)).symm) | exact decide_eq_decide.2 (by omega))
  refine W_skip (Wr (Ak (hl := by exact gV_size (L := [[.int .i64 kd], ky.map bV, fp.map bV, [.int .i64 ck], [.int .i64 cn], [.int .i64 cz], [.slice acp L.length ccp]]) (shCp hky hfp) rfl) 0 S8 ?_))
  refine Cs g_aumbry_aumbryref13_slot ((slotR_ok S8.le kd ck cn cz hky hfp hcap).mono ?_)
  rintro e w20 ⟨rfl, hB19⟩
  have S21 := S8.call hB19
  refine ⟨_, rfl, trivial, ?_⟩
  refine Pv ?_
  refine Tp 76 (fun h22' => ?_) (fun h22' => ?_)
  ·have h22 := of_decide_eq_true h22'
   refine Ys ?_
   iterate 3 refine Pv ?_
   refine Tp 79 (fun h23' => ?_) (fun h23' => ?_)
   ·have h23 := h23'
    refine Ys ?_
    refine Fl 52 ?_
    refine Ys ?_
    refine Am 0 52 S21 (gV_cell (shCp hky hfp) 6 rfl rfl) ?_
    iterate 2 (refine Ys ?_; refine Pv ?_)
    iterate 2 refine Pv ?_
    refine T_nil (W_ret ?_)
    refine ⟨_, ⟨_, _, rfl, rfl, rfl⟩, ?_⟩
    refine ⟨_, rfl, fun _ => ?_, S21.below⟩
    first | omega | (unfold FileP; first | (exact (decide_eq_true (by omega)).symm) | (exact (decide_eq_false (by omega)).symm) | exact decide_eq_decide.2 (by omega))
   have h23 := h23'
   iterate 4 refine No ?_
   iterate 2 refine Pv ?_
   refine T_nil (W_ret ?_)
   refine ⟨_, ⟨_, _, rfl, rfl, rfl⟩, ?_⟩
   refine ⟨_, rfl, fun _ => ?_, S21.below⟩
   first | omega | (unfold FileP; first | (exact (decide_eq_true (by omega)).symm) | (exact (decide_eq_false (by omega)).symm) | exact decide_eq_decide.2 (by omega))
  have h22 := of_decide_eq_false h22'
  refine No ?_
  iterate 2 refine Pv ?_
  iterate 4 refine No ?_
  iterate 2 refine Pv ?_
  refine T_nil (W_ret ?_)
  refine ⟨_, ⟨_, _, rfl, rfl, rfl⟩, ?_⟩
  refine ⟨_, rfl, fun _ => ?_, S21.below⟩
  first | omega | (unfold FileP; first | (exact (decide_eq_true (by omega)).symm) | (exact (decide_eq_false (by omega)).symm) | exact decide_eq_decide.2 (by omega))
 ·refine W_region (Fl 49 ?_)
  refine Am 0 49 S3 (gV_cell (shCp hky hfp) 3 rfl rfl) ?_
  iterate 2 refine Pv ?_
  refine Tp 7 (fun h24' => ?_) (fun h24' => ?_)
  ·have h24 := of_decide_eq_true h24'
   refine Ys ?_
   refine Fl 50 ?_
   refine Ys ?_
   refine Am 0 50 S3 (gV_cell (shCp hky hfp) 4 rfl rfl) ?_
   refine Ys ?_
   iterate 3 refine Pv ?_
   refine Tp 12 (fun h25' => ?_) (fun h25' => ?_)
   ·have h25 := of_decide_eq_true h25'
    refine Ys ?_
    refine Fl 51 ?_
    refine Ys ?_
    refine Am 0 51 S3 (gV_cell (shCp hky hfp) 5 rfl rfl) ?_
    refine Ys ?_
    iterate 3 refine Pv ?_
    refine T_nil ?_
    exact Ws (J5 _) ⟨rfl, rfl, rfl, trivial⟩
   have h25 := of_decide_eq_false h25'
   iterate 3 refine No ?_
   iterate 2 refine Pv ?_
   refine T_nil ?_
   exact Ws (J5 _) ⟨rfl, rfl, rfl, trivial⟩
  have h24 := of_decide_eq_false h24'
  iterate 2 (refine No ?_; refine No ?_; refine No ?_; refine Pv ?_; refine Pv ?_)
  refine T_nil ?_
  exact Ws (J5 _) ⟨rfl, rfl, rfl, trivial⟩


theorem isFile_ok {H : Hp} {w : World} (hH : H.le (hw w)) (kd ck cn cz : Int) {ky fp L : List UInt8} (hky : ky.length = 16) (hfp : fp.length = 32) {acp : Option Addr} {ncp ccp : Nat} (hcap : Rd H (.slice acp ncp ccp) ncp 1 (L.map bV)) :
  Calls Tryz.prog 30 #[gV [[.int .i64 kd], ky.map bV, fp.map bV, [.int .i64 ck], [.int .i64 cn], [.int .i64 cz], [.slice acp ncp ccp]]] w fun e w' => e = .returned (.bool (decide (FileP kd ck cn cz L))) ∧ Below w.heap.size w w' := by
 obtain rfl : ncp = L.length := hcap.lenB
 refine enter1 _ Tryz.func30 rfl Tryz.ntmps30 Tryz.results30 rfl ?_
 have S0 := St.start w hH
 refine Wr (Al S0 fun b1 w2 S3 => ?_)
 refine Pv (Nr ?_)
 refine Ak (hl := by exact gV_size (L := [[.int .i64 kd], ky.map bV, fp.map bV, [.int .i64 ck], [.int .i64 cn], [.int .i64 cz], [.slice acp L.length ccp]]) (shCp hky hfp) rfl) 0 S3 ?_
 refine Cs g_aumbry_aumbryref13_Valid ((validR_ok S3.le kd ck cn cz hky hfp hcap).mono ?_)
 rintro e w7 ⟨q4, rfl, hq5, hB6⟩
 have S8 := S3.call hB6
 refine ⟨_, rfl, trivial, ?_⟩
 have hqv := hq5
 refine Pv ?_
 refine Tp 5 (fun h9' => ?_) (fun h9' => ?_)
 ·have h9 := h9'
  refine Ys ?_
  refine Ak (hl := by exact gV_size (L := [[.int .i64 kd], ky.map bV, fp.map bV, [.int .i64 ck], [.int .i64 cn], [.int .i64 cz], [.slice acp L.length ccp]]) (shCp hky hfp) rfl) 0 S8 ?_
  refine Ys ?_
  refine Cs g_aumbry_aumbryref13_file ((fileR_ok S8.le kd ck cn cz hky hfp hcap).mono ?_)
  rintro e w11 ⟨rfl, hB10⟩
  have S12 := S8.call hB10
  refine ⟨_, rfl, trivial, ?_⟩
  iterate 2 refine Pv ?_
  refine T_nil (W_ret ?_)
  refine ⟨_, ⟨_, _, rfl, rfl, rfl⟩, ?_⟩
  exact ⟨congrArg (fun z => Ending.returned (Value.bool z)) (decide_eq_decide.2 ⟨fun h => of_decide_eq_true ((hqv h).symm.trans h9), fun h => h.1⟩), S12.below⟩
 have h9 := h9'
 iterate 2 refine No ?_
 iterate 2 refine Pv ?_
 refine T_nil (W_ret ?_)
 refine ⟨_, ⟨_, _, rfl, rfl, rfl⟩, ?_⟩
 exact ⟨congrArg (fun z => Ending.returned (Value.bool z)) (decide_eq_false (fun h => by have h0 := hqv h.1; rw [decide_eq_true h, h9] at h0; cases h0)).symm, S8.below⟩

end Go.Proofs.YtmjmjjkigblbgaaGreatDoor
