/- Walks of the program's functions. -/
import Derived.Test.YtmjmjjkigblbgaaGreatDoorRsB
import Derived.Test.YtmjmjjkigblbgaaGreatDoorTreeA
import Derived.Test.YtmjmjjkigblbgaaGreatDoorRefB
import Derived.Test.YtmjmjjkigblbgaaGreatDoorAuAll
import Derived.Test.YtmjmjjkigblbgaaGreatDoorAuDoor
import Derived.Test.YtmjmjjkigblbgaaGreatDoorFDoor
import Derived.Test.YtmjmjjkigblbgaaGreatDoorFKeyTo
set_option linter.unusedVariables false
set_option linter.unusedSimpArgs false
set_option maxRecDepth 8192
namespace Go.Proofs.YtmjmjjkigblbgaaGreatDoor
open Go Go.F Go.RowKit
open Go.Au

theorem g_aumbry_rs_Code_Length : goFn Tryz.prog 69 = true := by kernel_rfl
theorem g_aumbry_layout_length : goFn Tryz.prog 27 = true := by kernel_rfl
theorem g_aumbry_aumbryref04_Length : goFn Tryz.prog 34 = true := by kernel_rfl
theorem g_aumbry_aumbryref13_Segments : goFn Tryz.prog 33 = true := by kernel_rfl
theorem g_aumbry_aumbryref13_SegLen : goFn Tryz.prog 35 = true := by kernel_rfl
theorem g_aumbry_layout_file : goFn Tryz.prog 25 = true := by kernel_rfl
theorem g_aumbry_aumbryref13_file : goFn Tryz.prog 72 = true := by kernel_rfl
theorem g_aumbry_aumbryref13_slot : goFn Tryz.prog 79 = true := by kernel_rfl
theorem g_aumbry_aumbryref13_Valid : goFn Tryz.prog 38 = true := by kernel_rfl
theorem g_aumbry_aumbryref13_IsFile : goFn Tryz.prog 30 = true := by kernel_rfl
theorem g_aumbry_layout_RightShare : goFn Tryz.prog 10 = true := by kernel_rfl
theorem g_aumbry_aumbryref13_RightShare : goFn Tryz.prog 11 = true := by kernel_rfl
theorem g_aumbry_aumbryref07_Check : goFn Tryz.prog 36 = true := by kernel_rfl
theorem W_joinB {P : Program} {n : Nat} {c : Code} {Q : Exit → Env → World → Prop} {ρ : Env} {w : World} (ρ0 : Bool → Env) (J : ∀ q, Q .normal (ρ0 q) w) (h : (∀ q, Q .normal (ρ0 q) w) → F.W P n c Q ρ w) : F.W P n c Q ρ w := h J
theorem rsNo_ok {H : Hp} {w : World} (hH : H.le (hw w)) (k : Int) (hk : ¬ (1 ≤ k ∧ k ≤ 16)) :
  Calls Tryz.prog 68 #[.int .i64 k, .int .i64 (max k 16)] w fun e w' => e = .returned (.tuple #[.pointer none, .int .i64 1]) ∧ Below w.heap.size w w' := by
 refine enter2 _ Tryz.func68 rfl Tryz.ntmps68 Tryz.results68 rfl ?_
 have S0 := St.start w hH
 refine Wr (P2 (T_nil (W_seq (Wr ?_))))
 refine P3 ?_
 refine Td 13 (fun h1 => ?_) (fun h1 => ?_)
 ·iterate 3 refine No ?_
  refine P2 ?_
  iterate 2 refine No ?_
  refine Pv (T_nil ?_)
  refine W_cond_true rfl (Wr (P2 (T_nil (W_ret ?_))))
  refine ⟨_, ⟨_, _, rfl, rfl, ⟨_, _, rfl, rfl, rfl⟩⟩, ?_⟩
  exact ⟨rfl, S0.below⟩
 iterate 3 (refine Ys ?_; refine Pv ?_)
 refine P2 ?_
 refine Td 18 (fun h2 => ?_) (fun h2 => ?_)
 ·iterate 2 refine No ?_
  refine Pv (T_nil ?_)
  refine W_cond_true rfl (Wr (P2 (T_nil (W_ret ?_))))
  refine ⟨_, ⟨_, _, rfl, rfl, ⟨_, _, rfl, rfl, rfl⟩⟩, ?_⟩
  exact ⟨rfl, S0.below⟩
 iterate 2 (refine Ys ?_; refine Pv ?_)
 refine Pv (T_nil ?_)
 refine W_bool 21 true rfl (decide_eq_true (by omega)) ?_
 refine W_cond_true rfl (Wr (P2 (T_nil (W_ret ?_))))
 refine ⟨_, ⟨_, _, rfl, rfl, ⟨_, _, rfl, rfl, rfl⟩⟩, ?_⟩
 exact ⟨rfl, S0.below⟩


theorem rsYes_ok {H : Hp} {w : World} (hH : H.le (hw w)) (k : Int) (hk : 1 ≤ k ∧ k ≤ 16) :
  Calls Tryz.prog 68 #[.int .i64 k, .int .i64 (max k 16)] w fun e w' => ∃ b, e = .returned (.tuple #[.pointer (some ⟨b, 0, none⟩), .int .i64 0]) ∧ hcell (F.ext H w.heap.size w') b 0 = some (.int .i64 k) ∧ Below w.heap.size w w' := by
 have ek : ((k.toNat : Nat) : Int) = k := Int.toNat_of_nonneg (by omega)
 have em : max k 16 = ((16 : Nat) : Int) := by omega
 have h := rsnew_w (Wk.start hH) k.toNat 16 (by omega) (by omega)
 rw [ek] at h
 rw [em]
 refine h.mono fun e w' ⟨B', _, C, b, v, he, hc, hb⟩ => ⟨b, he, ?_, C.below⟩
 have e : F.ext H w.heap.size w' b = w'.heap[b]? := if_pos hb
 unfold hcell
 rw [e, hc]
 rfl

theorem rsLen_ok {H : Hp} {w : World} (hH : H.le (hw w)) (k z : Int) (hk : 1 ≤ k ∧ k ≤ 16) (hz : z ≤ 9223372036854775807) {rb : Nat} (hrb : hcell H rb 0 = some (.int .i64 k)) :
  Calls Tryz.prog 69 #[.pointer (some ⟨rb, 0, none⟩), .int .i64 z] w fun e w' => e = .returned (.int .i64 (lenV k z)) ∧ Below w.heap.size w w' := by
 refine enter2 _ Tryz.func69 rfl Tryz.ntmps69 Tryz.results69 rfl ?_
 have S0 := St.start w hH
 refine Wr (Pv (T_nil (W_seq (Wr ?_))))
 refine P2 (T_nil ?_)
 refine Ab (fun h1 => ?_) (fun h1 => ?_)
 ·refine Wr (Pv (T_nil (W_ret ?_)))
  refine ⟨_, ⟨_, _, rfl, rfl, rfl⟩, ?_⟩
  exact ⟨by rw [lenV_zero (by omega) (by omega)]; rfl, S0.below⟩
 refine W_skip (Wr (Pv ?_))
 refine Ar ?_
 refine P2 ?_
 refine Fl 0 ?_
 have hdb := div_bd hk.1 (z := z) (by omega)
 refine Ad S0 hrb ?_
 refine T_quo rfl rfl rfl rfl rfl rfl (by omega) ?_
 refine Ar ?_
 refine Pv (T_nil (W_ret ?_))
 refine ⟨_, ⟨_, _, rfl, rfl, rfl⟩, ?_⟩
 exact ⟨by rw [lenV_pos (by omega) (by omega)]; rfl, S0.below⟩


theorem lengthA_ok {H : Hp} {w : World} (hH : H.le (hw w)) (k z : Int) (hz : z ≤ 9223372036854775807) (hk : 1 ≤ k ∧ k ≤ 16) :
  Calls Tryz.prog 27 #[.int .i64 k, .int .i64 z] w fun e w' => e = .returned (.int .i64 (lenV k z)) ∧ Below w.heap.size w w' := by
 refine enter2 _ Tryz.func27 rfl Tryz.ntmps27 Tryz.results27 rfl ?_
 have S0 := St.start w hH
 refine Wr (Pv (Nr ?_))
 refine P3 ?_
 refine Cs g_aumbry_rs_New ((rsYes_ok S0.le k hk).mono ?_)
 rintro e w4 ⟨b1, rfl, r2, hB3⟩
 obtain ⟨G6, eG8⟩ : ∃ G, G = F.ext H w.heap.size w4 := ⟨_, rfl⟩
 obtain ⟨hl7, S5⟩ := S0.ext hB3
 rw [← eG8] at hl7 S5 r2
 refine ⟨_, rfl, trivial, ?_⟩
 iterate 5 refine Pv ?_
 refine T_nil (W_seq (W_block (Wr (P3 (T_nil ?_)))))
 refine W_bool 14 true rfl (decide_eq_true (by omega)) ?_
 refine W_cond_true rfl (Wr (P2 ?_))
 refine Cs g_aumbry_rs_Code_Length ((rsLen_ok S5.le k z hk (by omega) r2).mono ?_)
 rintro e w10 ⟨rfl, hB9⟩
 have S11 := S5.call hB9
 refine ⟨_, rfl, trivial, ?_⟩
 refine Pv (T_nil (W_ret ?_))
 refine ⟨_, ⟨_, _, rfl, rfl, rfl⟩, ?_⟩
 exact ⟨rfl, S11.below⟩


theorem lengthB_ok {H : Hp} {w : World} (hH : H.le (hw w)) (k z : Int) (hz : z ≤ 9223372036854775807) (hk : ¬ (1 ≤ k ∧ k ≤ 16)) :
  Calls Tryz.prog 27 #[.int .i64 k, .int .i64 z] w fun e w' => e = .returned (.int .i64 (lenV k z)) ∧ Below w.heap.size w w' := by
 refine enter2 _ Tryz.func27 rfl Tryz.ntmps27 Tryz.results27 rfl ?_
 have S0 := St.start w hH
 refine Wr (Pv (Nr ?_))
 refine P3 ?_
 refine Cs g_aumbry_rs_New ((rsNo_ok S0.le k hk).mono ?_)
 rintro e w2 ⟨rfl, hB1⟩
 have S3 := S0.call hB1
 refine ⟨_, rfl, trivial, ?_⟩
 iterate 5 refine Pv ?_
 refine T_nil (W_seq (W_block (Wr (P3 (T_nil ?_)))))
 refine W_bool 14 false rfl (decide_eq_false (by omega)) ?_
 refine W_cond_false rfl (Wr (P3 (T_nil ?_)))
 refine Ab (fun h4 => ?_) (fun h4 => ?_)
 ·refine Wr (Pv (T_nil (W_ret ?_)))
  refine ⟨_, ⟨_, _, rfl, rfl, rfl⟩, ?_⟩
  exact ⟨by rw [lenV_neg (by omega)]; rfl, S3.below⟩
 refine Wr (P3 (T_nil ?_))
 refine Ab (fun h5 => ?_) (fun h5 => ?_)
 ·refine Wr (Pv (T_nil (W_ret ?_)))
  refine ⟨_, ⟨_, _, rfl, rfl, rfl⟩, ?_⟩
  exact ⟨by rw [lenV_zero (by omega) (by omega)]; rfl, S3.below⟩
 refine W_skip (Wr (Pv ?_))
 refine Ar ?_
 refine Pv ?_
 have hdb := div_bd (k := k) (z := z) (by omega) (by omega)
 refine T_quo rfl rfl rfl rfl rfl rfl (by omega) ?_
 refine Ar ?_
 refine Pv (T_nil (W_ret ?_))
 refine ⟨_, ⟨_, _, rfl, rfl, rfl⟩, ?_⟩
 exact ⟨by rw [lenV_pos (by omega) (by omega)]; rfl, S3.below⟩


theorem length_ok {H : Hp} {w : World} (hH : H.le (hw w)) (k z : Int) (hz : z ≤ 9223372036854775807) :
  Calls Tryz.prog 27 #[.int .i64 k, .int .i64 z] w fun e w' => e = .returned (.int .i64 (lenV k z)) ∧ Below w.heap.size w w' := by
 by_cases hk : 1 ≤ k ∧ k ≤ 16
 ·exact lengthA_ok hH k z hz hk
 ·exact lengthB_ok hH k z hz hk

theorem lengthR_ok {H : Hp} {w : World} (hH : H.le (hw w)) (z k : Int) (hz : z ≤ 9223372036854775807) (hk : 1 ≤ k) :
  Calls Tryz.prog 34 #[.int .i64 z, .int .i64 k] w fun e w' => e = .returned (.int .i64 (lenV k z)) ∧ Below w.heap.size w w' := by
 refine enter2 _ Tryz.func34 rfl Tryz.ntmps34 Tryz.results34 rfl ?_
 have S0 := St.start w hH
 refine Wr (Pv (T_nil (W_seq (Wr ?_))))
 refine P2 (T_nil ?_)
 refine Ab (fun h1 => ?_) (fun h1 => ?_)
 ·refine Wr (Pv (T_nil (W_ret ?_)))
  refine ⟨_, ⟨_, _, rfl, rfl, rfl⟩, ?_⟩
  exact ⟨by rw [lenV_zero (by omega) (by omega)]; rfl, S0.below⟩
 refine W_skip (Wr (Pv ?_))
 refine Ar ?_
 refine Pv ?_
 have hdb := div_bd hk (z := z) (by omega)
 refine T_quo rfl rfl rfl rfl rfl rfl (by omega) ?_
 refine Ar ?_
 refine Pv (T_nil (W_ret ?_))
 refine ⟨_, ⟨_, _, rfl, rfl, rfl⟩, ?_⟩
 exact ⟨by rw [lenV_pos (by omega) (by omega)]; rfl, S0.below⟩


theorem segments_ok {H : Hp} {w : World} (hH : H.le (hw w)) (z : Int) (hz : 1 ≤ z ∧ z ≤ 1024) :
  Calls Tryz.prog 33 #[.int .i64 z] w fun e w' => e = .returned (.int .i64 ((z - 1) / 64 + 1)) ∧ Below w.heap.size w w' := by
 refine Aa Tryz.func33 Tryz.ntmps33 Tryz.results33 ?_
 have S0 := St.start w hH
 refine Wr (Pv (Nr ?_))
 refine Pv ?_
 refine Ar ?_
 refine T_quo rfl rfl rfl rfl rfl rfl (by omega) ?_
 refine Ar ?_
 refine Pv (T_nil (W_ret ?_))
 refine ⟨_, ⟨_, _, rfl, rfl, rfl⟩, ?_⟩
 exact ⟨rfl, S0.below⟩


theorem seglen_ok {H : Hp} {w : World} (hH : H.le (hw w)) (z : Int) (i : Nat) (hz : 1 ≤ z ∧ z ≤ 1024) (hi : i ≤ 1000) :
  Calls Tryz.prog 35 #[.int .i64 z, .int .i64 ((i : Nat) : Int)] w fun e w' => e = .returned (.int .i64 (min (z - ((i : Nat) : Int) * 64) 64)) ∧ Below w.heap.size w w' := by
 refine enter2 _ Tryz.func35 rfl Tryz.ntmps35 Tryz.results35 rfl ?_
 have S0 := St.start w hH
 refine Wr (Pv (Nr ?_))
 refine P2 ?_
 iterate 2 refine Ar ?_
 refine P2 (T_nil (W_ret ?_))
 refine ⟨_, ⟨_, _, rfl, rfl, rfl⟩, ?_⟩
 exact ⟨rfl, S0.below⟩


theorem file_ok {H : Hp} {w : World} (hH : H.le (hw w)) (kd ck cn cz : Int) {ky fp L : List UInt8} (hky : ky.length = 16) (hfp : fp.length = 32) {acp : Option Addr} {ncp ccp : Nat} (hcap : Rd H (.slice acp ncp ccp) ncp 1 (L.map bV)) :
  Calls Tryz.prog 25 #[gV [[.int .i64 kd], ky.map bV, fp.map bV, [.int .i64 ck], [.int .i64 cn], [.int .i64 cz], [.slice acp ncp ccp]]] w fun e w' => e = .returned (.bool (decide (FileP kd ck cn cz L))) ∧ Below w.heap.size w w' := by
 obtain rfl : ncp = L.length := hcap.lenB
 refine Aa Tryz.func25 Tryz.ntmps25 Tryz.results25 ?_
 have S0 := St.start w hH
 refine Wr (Ao S0 fun b1 w2 S3 => ?_)
 refine Pv (Nr ?_)
 refine Fl 0 ?_
 refine Ap 0 0 S3 (gV_cell (shCp hky hfp) 0 rfl rfl) ?_
 refine P2 ?_
 refine Td 6 (fun h4 => ?_) (fun h4 => ?_)
 ·iterate 3 refine No ?_
  refine P2 ?_
  refine Ys ?_
  refine Fl 49 ?_
  refine Ys ?_
  refine Ap 0 49 S3 (gV_cell (shCp hky hfp) 3 rfl rfl) ?_
  refine Ys ?_
  refine Fl 50 ?_
  refine Ys ?_
  refine Ap 0 50 S3 (gV_cell (shCp hky hfp) 4 rfl rfl) ?_
  refine Ys ?_
  refine Cs g_aumbry_layout_kn ((kn_ok S3.le ck cn).mono ?_)
  rintro e w6 ⟨rfl, hB5⟩
  have S7 := S3.call hB5
  refine ⟨_, rfl, trivial, ?_⟩
  refine P2 ?_
  refine Td 18 (fun h8 => ?_) (fun h8 => ?_)
  ·refine Ys ?_
   refine Fl 51 ?_
   refine Ys ?_
   refine Ap 0 51 S7 (gV_cell (shCp hky hfp) 5 rfl rfl) ?_
   refine Ys ?_
   refine P3 ?_
   refine Td 23 (fun h9 => ?_) (fun h9 => ?_)
   ·refine Ys ?_
    refine Fl 51 ?_
    refine Ys ?_
    refine Ap 0 51 S7 (gV_cell (shCp hky hfp) 5 rfl rfl) ?_
    refine Ys ?_
    refine P3 ?_
    refine Td 28 (fun h10 => ?_) (fun h10 => ?_)
    ·refine Ys ?_
     refine Fl 52 ?_
     refine Ys ?_
     refine Ap 0 52 S7 (gV_cell (shCp hky hfp) 6 rfl rfl) ?_
     iterate 2 (refine Ys ?_; refine Pv ?_)
     refine P2 (T_nil (W_ret ?_))
     refine ⟨_, ⟨_, _, rfl, rfl, rfl⟩, ?_⟩
     exact ⟨congrArg (fun z => Ending.returned (Value.bool z)) (by unfold FileP; first | (exact (decide_eq_true (by omega)).symm) | (exact (decide_eq_false (by omega)).symm) | exact decide_eq_decide.2 (by omega)), S7.below⟩
    iterate 4 refine No ?_
    refine P2 (T_nil (W_ret ?_))
    refine ⟨_, ⟨_, _, rfl, rfl, rfl⟩, ?_⟩
    exact ⟨congrArg (fun z => Ending.returned (Value.bool z)) (by unfold FileP; first | (exact (decide_eq_true (by omega)).symm) | (exact (decide_eq_false (by omega)).symm) | exact decide_eq_decide.2 (by omega)), S7.below⟩
   iterate 3 refine No ?_
   refine P2 ?_
   iterate 4 refine No ?_
   refine P2 (T_nil (W_ret ?_))
   refine ⟨_, ⟨_, _, rfl, rfl, rfl⟩, ?_⟩
   exact ⟨congrArg (fun z => Ending.returned (Value.bool z)) (by unfold FileP; first | (exact (decide_eq_true (by omega)).symm) | (exact (decide_eq_false (by omega)).symm) | exact decide_eq_decide.2 (by omega)), S7.below⟩
  iterate 2 (refine No ?_; refine No ?_; refine No ?_; refine Pv ?_; refine Pv ?_)
  iterate 4 refine No ?_
  refine P2 (T_nil (W_ret ?_))
  refine ⟨_, ⟨_, _, rfl, rfl, rfl⟩, ?_⟩
  exact ⟨congrArg (fun z => Ending.returned (Value.bool z)) (by unfold FileP; first | (exact (decide_eq_true (by omega)).symm) | (exact (decide_eq_false (by omega)).symm) | exact decide_eq_decide.2 (by omega)), S7.below⟩
 refine Ys ?_
 refine Fl 0 ?_
 refine Ys ?_
 refine Ap 0 0 S3 (gV_cell (shCp hky hfp) 0 rfl rfl) ?_
 refine Ys ?_
 refine P3 ?_
 refine Td 11 (fun h11 => ?_) (fun h11 => ?_)
 ·refine Ys ?_
  refine Fl 49 ?_
  refine Ys ?_
  refine Ap 0 49 S3 (gV_cell (shCp hky hfp) 3 rfl rfl) ?_
  refine Ys ?_
  refine Fl 50 ?_
  refine Ys ?_
  refine Ap 0 50 S3 (gV_cell (shCp hky hfp) 4 rfl rfl) ?_
  refine Ys ?_
  refine Cs g_aumbry_layout_kn ((kn_ok S3.le ck cn).mono ?_)
  rintro e w13 ⟨rfl, hB12⟩
  have S14 := S3.call hB12
  refine ⟨_, rfl, trivial, ?_⟩
  refine P2 ?_
  refine Td 18 (fun h15 => ?_) (fun h15 => ?_)
  ·refine Ys ?_
   refine Fl 51 ?_
   refine Ys ?_
   refine Ap 0 51 S14 (gV_cell (shCp hky hfp) 5 rfl rfl) ?_
   refine Ys ?_
   refine P3 ?_
   refine Td 23 (fun h16 => ?_) (fun h16 => ?_)
   ·refine Ys ?_
    refine Fl 51 ?_
    refine Ys ?_
    refine Ap 0 51 S14 (gV_cell (shCp hky hfp) 5 rfl rfl) ?_
    refine Ys ?_
    refine P3 ?_
    refine Td 28 (fun h17 => ?_) (fun h17 => ?_)
    ·refine Ys ?_
     refine Fl 52 ?_
     refine Ys ?_
     refine Ap 0 52 S14 (gV_cell (shCp hky hfp) 6 rfl rfl) ?_
     iterate 2 (refine Ys ?_; refine Pv ?_)
     refine P2 (T_nil (W_ret ?_))
     refine ⟨_, ⟨_, _, rfl, rfl, rfl⟩, ?_⟩
     exact ⟨congrArg (fun z => Ending.returned (Value.bool z)) (by unfold FileP; first | (exact (decide_eq_true (by omega)).symm) | (exact (decide_eq_false (by omega)).symm) | exact decide_eq_decide.2 (by omega)), S14.below⟩
    iterate 4 refine No ?_
    refine P2 (T_nil (W_ret ?_))
    refine ⟨_, ⟨_, _, rfl, rfl, rfl⟩, ?_⟩
    exact ⟨congrArg (fun z => Ending.returned (Value.bool z)) (by unfold FileP; first | (exact (decide_eq_true (by omega)).symm) | (exact (decide_eq_false (by omega)).symm) | exact decide_eq_decide.2 (by omega)), S14.below⟩
   iterate 3 refine No ?_
   refine P2 ?_
   iterate 4 refine No ?_
   refine P2 (T_nil (W_ret ?_))
   refine ⟨_, ⟨_, _, rfl, rfl, rfl⟩, ?_⟩
   exact ⟨congrArg (fun z => Ending.returned (Value.bool z)) (by unfold FileP; first | (exact (decide_eq_true (by omega)).symm) | (exact (decide_eq_false (by omega)).symm) | exact decide_eq_decide.2 (by omega)), S14.below⟩
  iterate 2 (refine No ?_; refine No ?_; refine No ?_; refine Pv ?_; refine Pv ?_)
  iterate 4 refine No ?_
  refine P2 (T_nil (W_ret ?_))
  refine ⟨_, ⟨_, _, rfl, rfl, rfl⟩, ?_⟩
  exact ⟨congrArg (fun z => Ending.returned (Value.bool z)) (by unfold FileP; first | (exact (decide_eq_true (by omega)).symm) | (exact (decide_eq_false (by omega)).symm) | exact decide_eq_decide.2 (by omega)), S14.below⟩
 iterate 5 refine No ?_
 iterate 3 (refine Pv ?_; refine Pv ?_; refine No ?_; refine No ?_; refine No ?_)
 refine No ?_
 refine P2 (T_nil (W_ret ?_))
 refine ⟨_, ⟨_, _, rfl, rfl, rfl⟩, ?_⟩
 exact ⟨congrArg (fun z => Ending.returned (Value.bool z)) (by unfold FileP; first | (exact (decide_eq_true (by omega)).symm) | (exact (decide_eq_false (by omega)).symm) | exact decide_eq_decide.2 (by omega)), S3.below⟩


theorem fileR_ok {H : Hp} {w : World} (hH : H.le (hw w)) (kd ck cn cz : Int) {ky fp L : List UInt8} (hky : ky.length = 16) (hfp : fp.length = 32) {acp : Option Addr} {ncp ccp : Nat} (hcap : Rd H (.slice acp ncp ccp) ncp 1 (L.map bV)) :
  Calls Tryz.prog 72 #[gV [[.int .i64 kd], ky.map bV, fp.map bV, [.int .i64 ck], [.int .i64 cn], [.int .i64 cz], [.slice acp ncp ccp]]] w fun e w' => e = .returned (.bool (decide (kd = 1 ∨ kd = 2))) ∧ Below w.heap.size w w' := by
 obtain rfl : ncp = L.length := hcap.lenB
 refine Aa Tryz.func72 Tryz.ntmps72 Tryz.results72 ?_
 have S0 := St.start w hH
 refine Wr (Ao S0 fun b1 w2 S3 => ?_)
 refine Pv (Nr ?_)
 refine Fl 0 ?_
 refine Ap 0 0 S3 (gV_cell (shCp hky hfp) 0 rfl rfl) ?_
 refine P2 ?_
 refine Td 6 (fun h4 => ?_) (fun h4 => ?_)
 ·iterate 3 refine No ?_
  refine P2 (T_nil (W_ret ?_))
  refine ⟨_, ⟨_, _, rfl, rfl, rfl⟩, ?_⟩
  exact ⟨congrArg (fun z => Ending.returned (Value.bool z)) (by first | (exact (decide_eq_true (by omega)).symm) | (exact (decide_eq_false (by omega)).symm) | exact decide_eq_decide.2 (by omega)), S3.below⟩
 refine Ys ?_
 refine Fl 0 ?_
 refine Ys ?_
 refine Ap 0 0 S3 (gV_cell (shCp hky hfp) 0 rfl rfl) ?_
 refine Ys ?_
 refine P3 (T_nil (W_ret ?_))
 refine ⟨_, ⟨_, _, rfl, rfl, rfl⟩, ?_⟩
 exact ⟨congrArg (fun z => Ending.returned (Value.bool z)) (by first | (exact (decide_eq_true (by omega)).symm) | (exact (decide_eq_false (by omega)).symm) | exact decide_eq_decide.2 (by omega)), S3.below⟩


theorem slotR_ok {H : Hp} {w : World} (hH : H.le (hw w)) (kd ck cn cz : Int) {ky fp L : List UInt8} (hky : ky.length = 16) (hfp : fp.length = 32) {acp : Option Addr} {ncp ccp : Nat} (hcap : Rd H (.slice acp ncp ccp) ncp 1 (L.map bV)) :
  Calls Tryz.prog 79 #[gV [[.int .i64 kd], ky.map bV, fp.map bV, [.int .i64 ck], [.int .i64 cn], [.int .i64 cz], [.slice acp ncp ccp]]] w fun e w' => e = .returned (.bool (decide (4 ≤ kd ∧ kd ≤ 9))) ∧ Below w.heap.size w w' := by
 obtain rfl : ncp = L.length := hcap.lenB
 refine Aa Tryz.func79 Tryz.ntmps79 Tryz.results79 ?_
 have S0 := St.start w hH
 refine Wr (Ao S0 fun b1 w2 S3 => ?_)
 refine Pv (Nr ?_)
 refine Fl 0 ?_
 refine Ap 0 0 S3 (gV_cell (shCp hky hfp) 0 rfl rfl) ?_
 refine P2 ?_
 refine Td 6 (fun h4 => ?_) (fun h4 => ?_)
 ·refine Ys ?_
  refine Fl 0 ?_
  refine Ys ?_
  refine Ap 0 0 S3 (gV_cell (shCp hky hfp) 0 rfl rfl) ?_
  refine Ys ?_
  refine P3 (T_nil (W_ret ?_))
  refine ⟨_, ⟨_, _, rfl, rfl, rfl⟩, ?_⟩
  exact ⟨congrArg (fun z => Ending.returned (Value.bool z)) (by first | (exact (decide_eq_true (by omega)).symm) | (exact (decide_eq_false (by omega)).symm) | exact decide_eq_decide.2 (by omega)), S3.below⟩
 iterate 3 refine No ?_
 refine P2 (T_nil (W_ret ?_))
 refine ⟨_, ⟨_, _, rfl, rfl, rfl⟩, ?_⟩
 exact ⟨congrArg (fun z => Ending.returned (Value.bool z)) (by first | (exact (decide_eq_true (by omega)).symm) | (exact (decide_eq_false (by omega)).symm) | exact decide_eq_decide.2 (by omega)), S3.below⟩


theorem validR_ok {H : Hp} {w : World} (hH : H.le (hw w)) (kd ck cn cz : Int) {ky fp L : List UInt8} (hky : ky.length = 16) (hfp : fp.length = 32) {acp : Option Addr} {ncp ccp : Nat} (hcap : Rd H (.slice acp ncp ccp) ncp 1 (L.map bV)) :
  Calls Tryz.prog 38 #[gV [[.int .i64 kd], ky.map bV, fp.map bV, [.int .i64 ck], [.int .i64 cn], [.int .i64 cz], [.slice acp ncp ccp]]] w fun e w' => ∃ q : Bool, e = .returned (.bool q) ∧ ((kd = 1 ∨ kd = 2) → q = decide (FileP kd ck cn cz L)) ∧ Below w.heap.size w w' := by
 obtain rfl : ncp = L.length := hcap.lenB
 refine Aa Tryz.func38 Tryz.ntmps38 Tryz.results38 ?_
 have S0 := St.start w hH
 refine Wr (Ao S0 fun b1 w2 S3 => ?_)
 refine Pv (T_nil (W_seq ?_))
 refine W_joinB (fun q4 => [(1, .pointer (some ⟨b1, 0, none⟩)), (2, .bool false), (3, .bool q4)]) (fun q4 => ?_) (fun J5 => ?_)
 ·refine W_seq (W_block (Wr (An (hl := by exact gV_size (shCp hky hfp) rfl) 0 S3 ?_)))
  refine Cs g_aumbry_aumbryref13_file ((fileR_ok S3.le kd ck cn cz hky hfp hcap).mono ?_)
  rintro e w7 ⟨rfl, hB6⟩
  have S8 := S3.call hB6
  refine ⟨_, rfl, trivial, ?_⟩
  refine Pv (T_nil ?_)
  refine Ab (fun h9 => ?_) (fun h9 => ?_)
  ·refine Wr (Fl 49 ?_)
   refine Ap 0 49 S8 (gV_cell (shCp hky hfp) 3 rfl rfl) ?_
   refine P2 ?_
   refine Td 23 (fun h10 => ?_) (fun h10 => ?_)
   ·refine Ys ?_
    refine Fl 49 ?_
    refine Ys ?_
    refine Ap 0 49 S8 (gV_cell (shCp hky hfp) 3 rfl rfl) ?_
    refine Ys ?_
    refine Fl 50 ?_
    refine Ys ?_
    refine Ap 0 50 S8 (gV_cell (shCp hky hfp) 4 rfl rfl) ?_
    refine Ys ?_
    refine P3 ?_
    refine Td 30 (fun h11 => ?_) (fun h11 => ?_)
    ·refine Ys ?_
     refine Fl 50 ?_
     refine Ys ?_
     refine Ap 0 50 S8 (gV_cell (shCp hky hfp) 4 rfl rfl) ?_
     refine Ys ?_
     refine P3 ?_
     refine Td 35 (fun h12 => ?_) (fun h12 => ?_)
     ·refine Ys ?_
      refine Fl 51 ?_
      refine Ys ?_
      refine Ap 0 51 S8 (gV_cell (shCp hky hfp) 5 rfl rfl) ?_
      refine Ys ?_
      refine P3 ?_
      refine Td 40 (fun h13 => ?_) (fun h13 => ?_)
      ·refine Ys ?_
       refine Fl 51 ?_
       refine Ys ?_
       refine Ap 0 51 S8 (gV_cell (shCp hky hfp) 5 rfl rfl) ?_
       refine Ys ?_
       refine P3 ?_
       refine Td 45 (fun h14 => ?_) (fun h14 => ?_)
       ·refine Ys ?_
        refine Fl 52 ?_
        refine Ys ?_
        refine Ap 0 52 S8 (gV_cell (shCp hky hfp) 6 rfl rfl) ?_
        iterate 2 (refine Ys ?_; refine Pv ?_)
        refine P2 (T_nil (W_ret ?_))
        refine ⟨_, ⟨_, _, rfl, rfl, rfl⟩, ?_⟩
        refine ⟨_, rfl, fun _ => ?_, S8.below⟩
        first | omega | (unfold FileP; first | (exact (decide_eq_true (by omega)).symm) | (exact (decide_eq_false (by omega)).symm) | exact decide_eq_decide.2 (by omega))
       iterate 4 refine No ?_
       refine P2 (T_nil (W_ret ?_))
       refine ⟨_, ⟨_, _, rfl, rfl, rfl⟩, ?_⟩
       refine ⟨_, rfl, fun _ => ?_, S8.below⟩
       first | omega | (unfold FileP; first | (exact (decide_eq_true (by omega)).symm) | (exact (decide_eq_false (by omega)).symm) | exact decide_eq_decide.2 (by omega))
      iterate 3 refine No ?_
      refine P2 ?_
      iterate 4 refine No ?_
      refine P2 (T_nil (W_ret ?_))
      refine ⟨_, ⟨_, _, rfl, rfl, rfl⟩, ?_⟩
      refine ⟨_, rfl, fun _ => ?_, S8.below⟩
      first | omega | (unfold FileP; first | (exact (decide_eq_true (by omega)).symm) | (exact (decide_eq_false (by omega)).symm) | exact decide_eq_decide.2 (by omega))
     iterate 2 (refine No ?_; refine No ?_; refine No ?_; refine Pv ?_; refine Pv ?_)
     iterate 4 refine No ?_
     refine P2 (T_nil (W_ret ?_))
     refine ⟨_, ⟨_, _, rfl, rfl, rfl⟩, ?_⟩
     refine ⟨_, rfl, fun _ => ?_, S8.below⟩
     first | omega | (unfold FileP; first | (exact (decide_eq_true (by omega)).symm) | (exact (decide_eq_false (by omega)).symm) | exact decide_eq_decide.2 (by omega))
    iterate 3 (refine No ?_; refine No ?_; refine No ?_; refine Pv ?_; refine Pv ?_)
    iterate 4 refine No ?_
    refine P2 (T_nil (W_ret ?_))
    refine ⟨_, ⟨_, _, rfl, rfl, rfl⟩, ?_⟩
    refine ⟨_, rfl, fun _ => ?_, S8.below⟩
    first | omega | (unfold FileP; first | (exact (decide_eq_true (by omega)).symm) | (exact (decide_eq_false (by omega)).symm) | exact decide_eq_decide.2 (by omega))
   iterate 5 refine No ?_
   iterate 4 (refine Pv ?_; refine Pv ?_; refine No ?_; refine No ?_; refine No ?_)
   refine No ?_
   refine P2 (T_nil (W_ret ?_))
   refine ⟨_, ⟨_, _, rfl, rfl, rfl⟩, ?_⟩
   refine ⟨_, rfl, fun _ => ?_, S8.below⟩
   first | omega | (unfold FileP; first | (exact (decide_eq_true (by omega)).symm) | (exact (decide_eq_false (by omega)).symm) | exact decide_eq_decide.2 (by omega))
  refine Wr (Fl 0 ?_)
  refine Ap 0 0 S8 (gV_cell (shCp hky hfp) 0 rfl rfl) ?_
  refine P2 (T_nil ?_)
  refine Ab (fun h15 => ?_) (fun h15 => ?_)
  ·refine Wr (P2 ?_)
   refine Tp 56 (fun h16' => ?_) (fun h16' => ?_)
   ·have h16 := h16'
    refine Ys ?_
    refine Fl 1 ?_
    refine Ys ?_
    refine T_loadAS (hV ky : Value).cells 0 S8 rfl rfl rfl rfl rfl rfl rfl rfl rfl (hVs hky) (gV_sub (shCp hky hfp) 1 1 (c := ky.map bV) (flat1) rfl) (Ys ?_)
    refine T_buildA (cells := (hV (List.replicate 16 0)).cells) rfl rfl rfl rfl rfl rfl rfl rfl rfl rfl (Ys ?_)
    refine T_eqB (xs := ky) (ys := (List.replicate 16 0)) rfl rfl rfl rfl rfl rfl rfl rfl rfl rfl rfl hky List.length_replicate (P2 ?_)
    refine Td 62 (fun h17 => ?_) (fun h17 => ?_)
    ·refine Ys ?_
     refine Fl 17 ?_
     refine Ys ?_
     refine T_loadAS (hV fp : Value).cells 0 S8 rfl rfl rfl rfl rfl rfl rfl rfl rfl (hVs hfp) (gV_sub (shCp hky hfp) 2 1 (c := fp.map bV) (flat1) rfl) (Ys ?_)
     refine T_buildA (cells := (hV (List.replicate 32 0)).cells) rfl rfl rfl rfl rfl rfl rfl rfl rfl rfl (Ys ?_)
     refine T_eqB (xs := fp) (ys := (List.replicate 32 0)) rfl rfl rfl rfl rfl rfl rfl rfl rfl rfl rfl hfp List.length_replicate (P2 ?_)
     refine Td 68 (fun h18 => ?_) (fun h18 => ?_)
     ·refine Ys ?_
      refine Fl 52 ?_
      refine Ys ?_
      refine Ap 0 52 S8 (gV_cell (shCp hky hfp) 6 rfl rfl) ?_
      iterate 2 (refine Ys ?_; refine Pv ?_)
      refine P2 (T_nil (W_ret ?_))
      refine ⟨_, ⟨_, _, rfl, rfl, rfl⟩, ?_⟩
      refine ⟨_, rfl, fun _ => ?_, S8.below⟩
      first | omega | (unfold FileP; first | (exact (decide_eq_true (by omega)).symm) | (exact (decide_eq_false (by omega)).symm) | exact decide_eq_decide.2 (by omega))
     iterate 4 refine No ?_
     refine P2 (T_nil (W_ret ?_))
     refine ⟨_, ⟨_, _, rfl, rfl, rfl⟩, ?_⟩
     refine ⟨_, rfl, fun _ => ?_, S8.below⟩
     first | omega | (unfold FileP; first | (exact (decide_eq_true (by omega)).symm) | (exact (decide_eq_false (by omega)).symm) | exact decide_eq_decide.2 (by omega))
    iterate 2 (refine No ?_; refine No ?_; refine No ?_; refine No ?_; refine Pv ?_; refine Pv ?_)
    refine T_nil (W_ret ?_)
    refine ⟨_, ⟨_, _, rfl, rfl, rfl⟩, ?_⟩
    refine ⟨_, rfl, fun _ => ?_, S8.below⟩
    first | omega | (unfold FileP; first | (exact (decide_eq_true (by omega)).symm) | (exact (decide_eq_false (by omega)).symm) | exact decide_eq_decide.2 (by omega))
   have h16 := h16'
   iterate 3 (refine No ?_; refine No ?_; refine No ?_; refine No ?_; refine Pv ?_; refine Pv ?_)
   refine T_nil (W_ret ?_)
   refine ⟨_, ⟨_, _, rfl, rfl, rfl⟩, ?_⟩
   refine ⟨_, rfl, fun _ => ?_, S8.below⟩
   first | omega | (unfold FileP; first | (exact (decide_eq_true (by omega)).symm) | (exact (decide_eq_false (by omega)).symm) | exact decide_eq_decide.2 (by omega))
  refine W_skip (Wr (An (hl := by exact gV_size (shCp hky hfp) rfl) 0 S8 ?_))
  refine Cs g_aumbry_aumbryref13_slot ((slotR_ok S8.le kd ck cn cz hky hfp hcap).mono ?_)
  rintro e w20 ⟨rfl, hB19⟩
  have S21 := S8.call hB19
  refine ⟨_, rfl, trivial, ?_⟩
  refine Pv ?_
  refine Td 76 (fun h22 => ?_) (fun h22 => ?_)
  ·refine Ys ?_
   refine P3 ?_
   refine Tp 79 (fun h23' => ?_) (fun h23' => ?_)
   ·have h23 := h23'
    refine Ys ?_
    refine Fl 52 ?_
    refine Ys ?_
    refine Ap 0 52 S21 (gV_cell (shCp hky hfp) 6 rfl rfl) ?_
    iterate 2 (refine Ys ?_; refine Pv ?_)
    refine P2 (T_nil (W_ret ?_))
    refine ⟨_, ⟨_, _, rfl, rfl, rfl⟩, ?_⟩
    refine ⟨_, rfl, fun _ => ?_, S21.below⟩
    first | omega | (unfold FileP; first | (exact (decide_eq_true (by omega)).symm) | (exact (decide_eq_false (by omega)).symm) | exact decide_eq_decide.2 (by omega))
   have h23 := h23'
   iterate 4 refine No ?_
   refine P2 (T_nil (W_ret ?_))
   refine ⟨_, ⟨_, _, rfl, rfl, rfl⟩, ?_⟩
   refine ⟨_, rfl, fun _ => ?_, S21.below⟩
   first | omega | (unfold FileP; first | (exact (decide_eq_true (by omega)).symm) | (exact (decide_eq_false (by omega)).symm) | exact decide_eq_decide.2 (by omega))
  refine No ?_
  refine P2 ?_
  iterate 4 refine No ?_
  refine P2 (T_nil (W_ret ?_))
  refine ⟨_, ⟨_, _, rfl, rfl, rfl⟩, ?_⟩
  refine ⟨_, rfl, fun _ => ?_, S21.below⟩
  first | omega | (unfold FileP; first | (exact (decide_eq_true (by omega)).symm) | (exact (decide_eq_false (by omega)).symm) | exact decide_eq_decide.2 (by omega))
 ·refine W_region (Fl 49 ?_)
  refine Ap 0 49 S3 (gV_cell (shCp hky hfp) 3 rfl rfl) ?_
  refine P2 ?_
  refine Td 7 (fun h24 => ?_) (fun h24 => ?_)
  ·refine Ys ?_
   refine Fl 50 ?_
   refine Ys ?_
   refine Ap 0 50 S3 (gV_cell (shCp hky hfp) 4 rfl rfl) ?_
   refine Ys ?_
   refine P3 ?_
   refine Td 12 (fun h25 => ?_) (fun h25 => ?_)
   ·refine Ys ?_
    refine Fl 51 ?_
    refine Ys ?_
    refine Ap 0 51 S3 (gV_cell (shCp hky hfp) 5 rfl rfl) ?_
    refine Ys ?_
    refine P3 (T_nil ?_)
    exact Ws (J5 _)
   iterate 3 refine No ?_
   refine P2 (T_nil ?_)
   exact Ws (J5 _)
  iterate 2 (refine No ?_; refine No ?_; refine No ?_; refine Pv ?_; refine Pv ?_)
  refine T_nil ?_
  exact Ws (J5 _)


theorem isFile_ok {H : Hp} {w : World} (hH : H.le (hw w)) (kd ck cn cz : Int) {ky fp L : List UInt8} (hky : ky.length = 16) (hfp : fp.length = 32) {acp : Option Addr} {ncp ccp : Nat} (hcap : Rd H (.slice acp ncp ccp) ncp 1 (L.map bV)) :
  Calls Tryz.prog 30 #[gV [[.int .i64 kd], ky.map bV, fp.map bV, [.int .i64 ck], [.int .i64 cn], [.int .i64 cz], [.slice acp ncp ccp]]] w fun e w' => e = .returned (.bool (decide (FileP kd ck cn cz L))) ∧ Below w.heap.size w w' := by
 obtain rfl : ncp = L.length := hcap.lenB
 refine Aa Tryz.func30 Tryz.ntmps30 Tryz.results30 ?_
 have S0 := St.start w hH
 refine Wr (Ao S0 fun b1 w2 S3 => ?_)
 refine Pv (Nr ?_)
 refine An (hl := by exact gV_size (shCp hky hfp) rfl) 0 S3 ?_
 refine Cs g_aumbry_aumbryref13_Valid ((validR_ok S3.le kd ck cn cz hky hfp hcap).mono ?_)
 rintro e w7 ⟨q4, rfl, hq5, hB6⟩
 have S8 := S3.call hB6
 refine ⟨_, rfl, trivial, ?_⟩
 have hqv := hq5
 refine Pv ?_
 refine Tp 5 (fun h9' => ?_) (fun h9' => ?_)
 ·have h9 := h9'
  refine Ys ?_
  refine An (hl := by exact gV_size (shCp hky hfp) rfl) 0 S8 ?_
  refine Ys ?_
  refine Cs g_aumbry_aumbryref13_file ((fileR_ok S8.le kd ck cn cz hky hfp hcap).mono ?_)
  rintro e w11 ⟨rfl, hB10⟩
  have S12 := S8.call hB10
  refine ⟨_, rfl, trivial, ?_⟩
  refine P2 (T_nil (W_ret ?_))
  refine ⟨_, ⟨_, _, rfl, rfl, rfl⟩, ?_⟩
  exact ⟨congrArg (fun z => Ending.returned (Value.bool z)) (decide_eq_decide.2 ⟨fun h => of_decide_eq_true ((hqv h).symm.trans h9), fun h => h.1⟩), S12.below⟩
 have h9 := h9'
 iterate 2 refine No ?_
 refine P2 (T_nil (W_ret ?_))
 refine ⟨_, ⟨_, _, rfl, rfl, rfl⟩, ?_⟩
 exact ⟨congrArg (fun z => Ending.returned (Value.bool z)) (decide_eq_false (fun h => by have h0 := hqv h.1; rw [decide_eq_true h, h9] at h0; cases h0)).symm, S8.below⟩


theorem g_aumbry_aumbryref13_CanRead : goFn Tryz.prog 39 = true := by kernel_rfl
theorem g_aumbry_aumbryref13_CanWrite : goFn Tryz.prog 80 = true := by kernel_rfl
theorem g_aumbry_aumbryref13_ReadOnly : goFn Tryz.prog 40 = true := by kernel_rfl
theorem g_aumbry_aumbryref13_VerifyOnly : goFn Tryz.prog 13 = true := by kernel_rfl
theorem key_text {ky : List UInt8} (h : ky.length = 16) : (Go.Au.text [105, 110, 100, 101, 120] [ky]).length < 10000 := by
 have h1 := net_le (b := [105, 110, 100, 101, 120]) (by decide)
 have h2 := net_le (b := ky) (by omega)
 show (net [105, 110, 100, 101, 120] ++ nets [ky]).length < _
 rw [List.length_append, nets_cons, List.length_append, nets_nil]
 simp only [List.length_nil, List.length_cons] at *
 omega
theorem shortR_ok {H : Hp} {w : World} (hH : H.le (hw w)) {tag : List UInt8} {l : List (List UInt8)} {aa1 : Option Addr} {nn1 cc1 : Nat} (hv : RdL H (.slice aa1 nn1 cc1) l) (hb : (Go.Au.text tag l).length < 10000) :
  Calls Tryz.prog 41 #[str tag, .slice aa1 nn1 cc1] w fun e w' => e = .returned (hV ((tagged tag l).take 16)) ∧ Below w.heap.size w w' := by
 obtain rfl : nn1 = l.length := hv.len
 have htl := tagged_len tag l
 refine enter2 _ Tryz.func41 rfl Tryz.ntmps41 Tryz.results41 rfl ?_
 have S0 := St.start w hH
 refine Wr (Af S0 fun b1 w2 S3 => (Nr ?_))
 refine P2 ?_
 refine Cs g_aumbry_aumbryref01_Tagged ((taggedR_ok S3.le hv (by omega)).mono ?_)
 rintro e w5 ⟨rfl, hB4⟩
 have S6 := S3.call hB4
 refine ⟨_, rfl, trivial, ?_⟩
 refine Af S6 fun b7 w8 S9 => ?_
 refine Ak (hl := by exact hVs (tagged_len _ _)) (hl2 := by exact hVs (tagged_len _ _)) (h1 := by exact one_hA _) 0 S9 fun w10 S11 => (Nr ?_)
 refine Af S11 fun b12 w13 S14 => (T_nil (W_seq (Wr ?_)))
 refine Pv (T_nil (W_block ?_))
 refine W_loop (fun M ρ w' => ∃ (k : Nat) (G15 : Hp), M = 16 - k ∧ k ≤ 16 ∧ ρ = [(4, .pointer (some ⟨b1, 0, none⟩)), (5, .pointer (some ⟨b7, 0, none⟩)), (6, .pointer (some ⟨b12, 0, none⟩)), (11, .int .i64 (k : Int))] ∧ H.le G15 ∧ St w H G15 [.blk b12 (hV (keyTo (tagged tag l) k) : Value).cells 23, .blk b7 (hV (tagged tag l) : Value).cells 27, .blk b1 (hV (List.replicate 16 0) : Value).cells 23] w')
  (16 - 0) [(4, .pointer (some ⟨b1, 0, none⟩)), (5, .pointer (some ⟨b7, 0, none⟩)), (6, .pointer (some ⟨b12, 0, none⟩)), (11, .int .i64 ((0 : Nat) : Int))] ⟨rfl, rfl, rfl, ciI, trivial⟩ ⟨0, H, rfl, (by omega), rfl, Hp.le.refl _, S14⟩ ?_
 rintro M ρ w17 ⟨k, G15, rfl, hp19, rfl, hl16, S18⟩
 refine Wr (Pv (T_nil (W_seq ?_)))
 refine Ab (fun h20 => ?_) (fun h20 => ?_)
 ·refine W_skip (W_seq (W_block (Wr (P2 (T_nil (W_region ?_))))))
  refine P2 ?_
  refine Ac (hz := by first | omega | decide) ?_
  refine T_loadS 1 k S18 rfl rfl rfl rfl rfl rfl rfl rfl (by omega) (cell_hV _ k (by rw [(tagged_len _ _)]; omega)) ?_
  refine Ac (hz := by first | omega | decide) ?_
  refine T_store1S 0 k S18 (fun _ _ => trivial) rfl rfl rfl rfl rfl rfl rfl rfl rfl rfl rfl (by omega) (by have hz : (hV (keyTo (tagged tag l) k) : Value).cells.size = 16 := hVs (keyTo_len _ _); omega) fun w21 S22 => ?_
  rw [keyTo_put] at S22
  refine T_nil (W_region (Ar ?_))
  refine Pv (T_nil ?_)
  exact ⟨16 - (k + 1), [(4, .pointer (some ⟨b1, 0, none⟩)), (5, .pointer (some ⟨b7, 0, none⟩)), (6, .pointer (some ⟨b12, 0, none⟩)), (11, .int .i64 ((k + 1 : Nat) : Int))], by omega, ⟨rfl, rfl, rfl, ciI, trivial⟩, k + 1, G15, rfl, (by omega), rfl, hl16, S22⟩
 refine W_exit (Wr (An (hl := by exact hVs (keyTo_len _ _)) 0 S18 ?_))
 refine T_re (v' := hV ((tagged tag l).take 16)) (congrArg hV (by rw [show k = 16 by omega]; exact keyTo_full (by omega))) ?_
 refine Ak (hl := by exact hVs (key_len tag l)) (hl2 := by exact hVs (key_len tag l)) (h1 := by exact one_hA _) 2 S18 fun w23 S24 => (T_nil (W_ret ?_))
 refine ⟨_, ⟨_, _, _, rfl, rfl, run_loadVarA rfl rfl (hVs (key_len tag l)) (S24.cells 2 rfl), rfl⟩, ?_⟩
 exact ⟨rfl, S24.below⟩


theorem canReadR_ok {H : Hp} {w : World} (hH : H.le (hw w)) (kd ck cn cz : Int) {ky fp L : List UInt8} (hky : ky.length = 16) (hfp : fp.length = 32) {acp : Option Addr} {ncp ccp : Nat} (hcap : Rd H (.slice acp ncp ccp) ncp 1 (L.map bV)) (h1 : kd = 1) (hF : FileP kd ck cn cz L) :
  Calls Tryz.prog 39 #[gV [[.int .i64 kd], ky.map bV, fp.map bV, [.int .i64 ck], [.int .i64 cn], [.int .i64 cz], [.slice acp ncp ccp]]] w fun e w' => e = .returned (.bool true) ∧ Below w.heap.size w w' := by
 obtain rfl : ncp = L.length := hcap.lenB
 refine Aa Tryz.func39 Tryz.ntmps39 Tryz.results39 ?_
 have S0 := St.start w hH
 refine Wr (Ao S0 fun b1 w2 S3 => ?_)
 refine Pv (Nr ?_)
 refine An (hl := by exact gV_size (shCp hky hfp) rfl) 0 S3 ?_
 refine Cs g_aumbry_aumbryref13_Valid ((validR_ok S3.le kd ck cn cz hky hfp hcap).mono ?_)
 rintro e w7 ⟨q4, rfl, hq5, hB6⟩
 have S8 := S3.call hB6
 refine ⟨_, rfl, trivial, ?_⟩
 have hqv := hq5
 refine T_re (v' := .bool true) (congrArg Value.bool ((hqv (Or.inl h1)).trans (decide_eq_true hF))) (Pv ?_)
 refine Ys ?_
 refine Fl 0 ?_
 refine Ys ?_
 refine Ap 0 0 S8 (gV_cell (shCp hky hfp) 0 rfl rfl) ?_
 refine Ys ?_
 refine P3 ?_
 refine T_bool 10 true rfl (ndec_t (by omega)) ?_
 refine Ys ?_
 refine Fl 0 ?_
 refine Ys ?_
 refine Ap 0 0 S8 (gV_cell (shCp hky hfp) 0 rfl rfl) ?_
 refine Ys ?_
 refine P3 ?_
 refine T_bool 15 true rfl (ndec_t (by omega)) ?_
 refine Ys ?_
 refine Fl 0 ?_
 refine Ys ?_
 refine Ap 0 0 S8 (gV_cell (shCp hky hfp) 0 rfl rfl) ?_
 refine Ys ?_
 refine P3 (T_nil (W_ret ?_))
 refine ⟨_, ⟨_, _, rfl, rfl, rfl⟩, ?_⟩
 exact ⟨congrArg (fun z => Ending.returned (Value.bool z)) (ndec_t (by omega)), S8.below⟩


theorem canWriteR_ok {H : Hp} {w : World} (hH : H.le (hw w)) (kd ck cn cz : Int) {ky fp L : List UInt8} (hky : ky.length = 16) (hfp : fp.length = 32) {acp : Option Addr} {ncp ccp : Nat} (hcap : Rd H (.slice acp ncp ccp) ncp 1 (L.map bV)) (h1 : kd = 1) (hF : FileP kd ck cn cz L) :
  Calls Tryz.prog 80 #[gV [[.int .i64 kd], ky.map bV, fp.map bV, [.int .i64 ck], [.int .i64 cn], [.int .i64 cz], [.slice acp ncp ccp]]] w fun e w' => e = .returned (.bool false) ∧ Below w.heap.size w w' := by
 obtain rfl : ncp = L.length := hcap.lenB
 refine Aa Tryz.func80 Tryz.ntmps80 Tryz.results80 ?_
 have S0 := St.start w hH
 refine Wr (Ao S0 fun b1 w2 S3 => ?_)
 refine Pv (Nr ?_)
 refine An (hl := by exact gV_size (shCp hky hfp) rfl) 0 S3 ?_
 refine Cs g_aumbry_aumbryref13_Valid ((validR_ok S3.le kd ck cn cz hky hfp hcap).mono ?_)
 rintro e w7 ⟨q4, rfl, hq5, hB6⟩
 have S8 := S3.call hB6
 refine ⟨_, rfl, trivial, ?_⟩
 have hqv := hq5
 refine T_re (v' := .bool true) (congrArg Value.bool ((hqv (Or.inl h1)).trans (decide_eq_true hF))) (Pv ?_)
 refine Ys ?_
 refine Fl 0 ?_
 refine Ys ?_
 refine Ap 0 0 S8 (gV_cell (shCp hky hfp) 0 rfl rfl) ?_
 iterate 2 (refine Ys ?_; refine Pv ?_)
 refine T_bool 9 false rfl (decide_eq_false (by omega)) ?_
 refine Ys ?_
 refine Fl 0 ?_
 refine Ys ?_
 refine Ap 0 0 S8 (gV_cell (shCp hky hfp) 0 rfl rfl) ?_
 iterate 2 (refine Ys ?_; refine Pv ?_)
 refine P2 (T_nil (W_ret ?_))
 refine ⟨_, ⟨_, _, rfl, rfl, rfl⟩, ?_⟩
 exact ⟨congrArg (fun z => Ending.returned (Value.bool z)) (decide_eq_false (by omega)), S8.below⟩


theorem readOnlyR_ok {H : Hp} {w : World} (hH : H.le (hw w)) (kd ck cn cz : Int) {ky fp L : List UInt8} (hky : ky.length = 16) (hfp : fp.length = 32) {acp : Option Addr} {ncp ccp : Nat} (hcap : Rd H (.slice acp ncp ccp) ncp 1 (L.map bV)) (h1 : kd = 1) (hF : FileP kd ck cn cz L) (hL : L.length ≤ 1000) :
  Calls Tryz.prog 40 #[gV [[.int .i64 kd], ky.map bV, fp.map bV, [.int .i64 ck], [.int .i64 cn], [.int .i64 cz], [.slice acp ncp ccp]]] w fun e w' => ∃ a c, e = .returned (.tuple #[gV [[.int .i64 kd], ky.map bV, fp.map bV, [.int .i64 ck], [.int .i64 cn], [.int .i64 cz], [.slice a L.length c]], .int .i64 0]) ∧ Rd (F.ext H w.heap.size w') (.slice a L.length c) L.length 1 (L.map bV) ∧ Below w.heap.size w w' := by
 obtain rfl : ncp = L.length := hcap.lenB
 refine Aa Tryz.func40 Tryz.ntmps40 Tryz.results40 ?_
 have S0 := St.start w hH
 refine Wr (Ao S0 fun b51 w52 S53 => ?_)
 refine Af S53 fun b54 w55 S56 => ?_
 refine Pv (T_nil (W_seq (Wr ?_)))
 refine An (hl := by exact gV_size (shCp hky hfp) rfl) 1 S56 ?_
 refine Cs g_aumbry_aumbryref13_CanRead ((canReadR_ok S56.le kd ck cn cz hky hfp hcap h1 hF).mono ?_)
 rintro e w58 ⟨rfl, hB57⟩
 have S59 := S56.call hB57
 refine ⟨_, rfl, trivial, ?_⟩
 refine Pv (T_nil ?_)
 refine W_cond_false rfl (W_skip (W_seq (Wr (An (hl := by exact gV_size (shCp hky hfp) rfl) 1 S59 ?_))))
 refine Cs g_aumbry_aumbryref13_CanWrite ((canWriteR_ok S59.le kd ck cn cz hky hfp hcap h1 hF).mono ?_)
 rintro e w61 ⟨rfl, hB60⟩
 have S62 := S59.call hB60
 refine ⟨_, rfl, trivial, ?_⟩
 refine T_nil (W_cond_false rfl (W_skip (Wr (Fl 52 ?_))))
 refine Ap 1 52 S62 (gV_cell (shCp hky hfp) 6 rfl rfl) ?_
 have S63 := S62.nilRow 5 1
 refine Ai (h1 := by exact one_bV _) (hn' := by first | rfl | (simp; done) | (simp; omega) | omega) (hx' := by simp) (hbytes := by show _ * 1 ≤ _; omega) 0 L.length (L.map bV) S63 (hcap.mono S63.le) fun a64 c65 w66 hc67 S68 => ?_
 refine Fl 52 ?_
 refine Ae (hfit := by exact Nat.lt_of_lt_of_eq (show 52 < 53 by decide) (gV_size (L := [[.int .i64 kd], ky.map bV, fp.map bV, [.int .i64 ck], [.int .i64 cn], [.int .i64 cz], [.slice acp L.length ccp]]) (shCp hky hfp) rfl).symm) 2 52 S68 fun w69 S70 => ?_
 have S71 := S70.re 2 rfl (show (gV [[.int .i64 kd], ky.map bV, fp.map bV, [.int .i64 ck], [.int .i64 cn], [.int .i64 cz], [.slice acp L.length ccp]] : Value).cells.setIfInBounds 52 (.slice a64 L.length c65) = (gV [[.int .i64 kd], ky.map bV, fp.map bV, [.int .i64 ck], [.int .i64 cn], [.int .i64 cz], [.slice a64 L.length c65]] : Value).cells from gV_set (shCp hky hfp) 6 _ rfl rfl)
 refine T_nil (W_seq ?_)
 obtain ⟨G73, hl74, S72, r75⟩ := S71.stillRow 0 rfl
 refine W_region (An (hl := by exact gV_size (shCp hky hfp) rfl) 1 S72 ?_)
 refine Ak (hl := by exact gV_size (shCp hky hfp) rfl) (hl2 := by exact gV_size (shCp hky hfp) rfl) (h1 := by exact gV_one (OneL.one rfl (OneL.arr (OneL.arr (OneL.one rfl (OneL.one rfl (OneL.one rfl (OneL.one rfl OneL.nil)))))))) 0 S72 fun w76 S77 => ?_
 refine Pv (T_nil (W_ret ?_))
 refine ⟨_, ⟨_, _, _, rfl, rfl, run_loadVarA rfl rfl (gV_size (L := [[.int .i64 kd], ky.map bV, fp.map bV, [.int .i64 ck], [.int .i64 cn], [.int .i64 cz], [.slice a64 L.length c65]]) (shCp hky hfp) rfl) (S77.cells 0 rfl), ⟨_, _, rfl, rfl, rfl⟩⟩, ?_⟩
 exact ⟨_, _, rfl, (r75).mono S77.fin, S77.below⟩


theorem verifyOnlyR_ok {H : Hp} {w : World} (hH : H.le (hw w)) (kd ck cn cz : Int) {ky fp L : List UInt8} (hky : ky.length = 16) (hfp : fp.length = 32) {acp : Option Addr} {ncp ccp : Nat} (hcap : Rd H (.slice acp ncp ccp) ncp 1 (L.map bV)) (h1 : kd = 1) (hF : FileP kd ck cn cz L) (hL : L.length ≤ 1000) :
  Calls Tryz.prog 13 #[gV [[.int .i64 kd], ky.map bV, fp.map bV, [.int .i64 ck], [.int .i64 cn], [.int .i64 cz], [.slice acp ncp ccp]]] w fun e w' => ∃ a c, ∃ ky' : List UInt8, ky'.length = 16 ∧ e = .returned (.tuple #[gV [[.int .i64 2], ky'.map bV, fp.map bV, [.int .i64 ck], [.int .i64 cn], [.int .i64 cz], [.slice a L.length c]], .int .i64 0]) ∧ Rd (F.ext H w.heap.size w') (.slice a L.length c) L.length 1 (L.map bV) ∧ Below w.heap.size w w' := by
 obtain rfl : ncp = L.length := hcap.lenB
 refine Aa Tryz.func13 Tryz.ntmps13 Tryz.results13 ?_
 have S0 := St.start w hH
 refine Wr (Ao S0 fun b51 w52 S53 => ?_)
 refine Af S53 fun b54 w55 S56 => ?_
 refine Pv (T_nil (W_seq (Wr ?_)))
 refine An (hl := by exact gV_size (shCp hky hfp) rfl) 1 S56 ?_
 refine Cs g_aumbry_aumbryref13_Valid ((validR_ok S56.le kd ck cn cz hky hfp hcap).mono ?_)
 rintro e w60 ⟨q57, rfl, hq58, hB59⟩
 have S61 := S56.call hB59
 refine ⟨_, rfl, trivial, ?_⟩
 have hqv := hq58
 refine T_re (v' := .bool true) (congrArg Value.bool ((hqv (Or.inl h1)).trans (decide_eq_true hF))) (P2 ?_)
 refine Ys ?_
 refine Fl 0 ?_
 refine Ys ?_
 refine Ap 1 0 S61 (gV_cell (shCp hky hfp) 0 rfl rfl) ?_
 refine Ys ?_
 refine P2 (T_nil ?_)
 refine W_bool 13 false rfl (decide_eq_false (by omega)) ?_
 refine W_cond_false rfl (W_skip (W_seq (Wr (An (hl := by exact gV_size (shCp hky hfp) rfl) 1 S61 ?_))))
 refine Cs g_aumbry_aumbryref13_CanRead ((canReadR_ok S61.le kd ck cn cz hky hfp hcap h1 hF).mono ?_)
 rintro e w63 ⟨rfl, hB62⟩
 have S64 := S61.call hB62
 refine ⟨_, rfl, trivial, ?_⟩
 refine Pv (T_nil ?_)
 refine W_cond_false rfl (W_skip (Wr (An (hl := by exact gV_size (shCp hky hfp) rfl) 1 S64 ?_)))
 refine Cs g_aumbry_aumbryref13_ReadOnly ((readOnlyR_ok S64.le kd ck cn cz hky hfp hcap h1 hF hL).mono ?_)
 rintro e w69 ⟨a65, c66, rfl, r67, hB68⟩
 obtain ⟨G71, eG73⟩ : ∃ G, G = F.ext H w63.heap.size w69 := ⟨_, rfl⟩
 obtain ⟨hl72, S70⟩ := S64.ext hB68
 rw [← eG73] at hl72 S70 r67
 refine ⟨_, rfl, trivial, ?_⟩
 refine P3 ?_
 refine Af S70 fun b74 w75 S76 => ?_
 refine Ak (hl := by exact gV_size (shCp hky hfp) rfl) (hl2 := by exact gV_size (shCp hky hfp) rfl) (h1 := by exact gV_one (OneL.one rfl (OneL.arr (OneL.arr (OneL.one rfl (OneL.one rfl (OneL.one rfl (OneL.one rfl OneL.nil)))))))) 0 S76 fun w77 S78 => ?_
 refine Pv (T_nil (W_seq ?_))
 have S79 : St w H G71 [.blk b74 (gV [[.int .i64 kd], ky.map bV, fp.map bV, [.int .i64 ck], [.int .i64 cn], [.int .i64 cz], [.slice a65 L.length c66]] : Value).cells 29, .blk b54 (gV [[.int .i64 0], (List.replicate 16 0).map bV, (List.replicate 32 0).map bV, [.int .i64 0], [.int .i64 0], [.int .i64 0], [.slice none 0 0]] : Value).cells 29, .blk b51 (gV [[.int .i64 kd], ky.map bV, fp.map bV, [.int .i64 ck], [.int .i64 cn], [.int .i64 cz], [.slice acp L.length ccp]] : Value).cells 29] w77 := S78
 refine W_region (Fl 1 ?_)
 refine T_sliceAll rfl rfl rfl rfl rfl rfl rfl rfl (Ah (hone := by simp [Value.cells]; rfl) [.slice (some ⟨b74, 1, none⟩) 16 16] fun a80 w81 hB82 ho83 => ?_)
 have S84 := S79.own hB82 ho83
 refine ⟨trivial, ?_⟩
 obtain ⟨G85, hl86, S87, r88⟩ := S84.stillRow 0 rfl
 obtain ⟨G89, hl90, S91, r92⟩ := S87.stillBlk 0 rfl
 have r93 := Rd.of_blk_at (off := 1) (m := 16) (c0 := 16) (size := 1) (xs := ky.map bV) r92 (by rw [List.length_map, hky]) (Nat.le_refl _) (fun j u hu => (gV_sub (shCp hky hfp) 1 1 (c := ky.map bV) (flat1) rfl) j u (by simpa using hu))
 have r94 := RdL.mk (r88.mono hl90) (Rds.cons (Rd.canonB r93) (Rds.nil _))
 refine Cs g_aumbry_aumbryref01_Short ((shortR_ok (tag := [105, 110, 100, 101, 120]) S91.le r94 (key_text hky)).mono ?_)
 rintro e w96 ⟨rfl, hB95⟩
 have S97 := S84.call hB95
 refine ⟨_, rfl, trivial, ?_⟩
 refine Fl 1 ?_
 refine T_storeS 1 S97 (fun _ _ => trivial) rfl rfl rfl rfl rfl rfl rfl rfl (hVs (key_len _ _)) (by rw [show (hV ((tagged [105, 110, 100, 101, 120] [ky]).take 16) : Value).cells.size = 16 from hVs (key_len _ _), show (gV [[.int .i64 kd], ky.map bV, fp.map bV, [.int .i64 ck], [.int .i64 cn], [.int .i64 cz], [.slice a65 L.length c66]] : Value).cells.size = 53 from gV_size (L := [[.int .i64 kd], ky.map bV, fp.map bV, [.int .i64 ck], [.int .i64 cn], [.int .i64 cz], [.slice a65 L.length c66]]) (shCp hky hfp) rfl]; decide) (one_hA _) fun w98 S99 => ?_
 have S100 := S99.re 1 rfl (show _ = (gV [[.int .i64 kd], ((tagged [105, 110, 100, 101, 120] [ky]).take 16).map bV, fp.map bV, [.int .i64 ck], [.int .i64 cn], [.int .i64 cz], [.slice a65 L.length c66]] : Value).cells from gV_put (shCp hky hfp) 1 1 [((tagged [105, 110, 100, 101, 120] [ky]).take 16).map bV] (c := (hV ((tagged [105, 110, 100, 101, 120] [ky]).take 16) : Value).cells.toList) flat1 (Eq.symm (hVs (key_len _ _))) rfl)
 refine Nr (Fl 0 ?_)
 refine T_loadS 1 0 S100 rfl rfl rfl rfl rfl rfl rfl rfl rfl (gV_cell (shCp (key_len _ _) hfp) 0 rfl rfl) (Ar ?_)
 refine T_re (v' := .int .i64 2) (congrArg (Value.int .i64) (by omega)) ?_
 refine Fl 0 ?_
 refine Ae (hfit := by exact Nat.lt_of_lt_of_eq (show 0 < 53 by decide) (gV_size (L := [[.int .i64 kd], ((tagged [105, 110, 100, 101, 120] [ky]).take 16).map bV, fp.map bV, [.int .i64 ck], [.int .i64 cn], [.int .i64 cz], [.slice a65 L.length c66]]) (shCp (key_len _ _) hfp) rfl).symm) 1 0 S100 fun w101 S102 => ?_
 have S103 := S102.re 1 rfl (show (gV [[.int .i64 kd], ((tagged [105, 110, 100, 101, 120] [ky]).take 16).map bV, fp.map bV, [.int .i64 ck], [.int .i64 cn], [.int .i64 cz], [.slice a65 L.length c66]] : Value).cells.setIfInBounds 0 (.int .i64 2) = (gV [[.int .i64 2], ((tagged [105, 110, 100, 101, 120] [ky]).take 16).map bV, fp.map bV, [.int .i64 ck], [.int .i64 cn], [.int .i64 cz], [.slice a65 L.length c66]] : Value).cells from gV_set (shCp (key_len _ _) hfp) 0 _ rfl rfl)
 refine Nr (An (hl := by exact gV_size (shCp (key_len _ _) hfp) rfl) 1 S103 ?_)
 refine Ak (hl := by exact gV_size (shCp (key_len _ _) hfp) rfl) (hl2 := by exact gV_size (shCp (key_len _ _) hfp) rfl) (h1 := by exact gV_one (OneL.one rfl (OneL.arr (OneL.arr (OneL.one rfl (OneL.one rfl (OneL.one rfl (OneL.one rfl OneL.nil)))))))) 2 S103 fun w104 S105 => ?_
 refine Pv (T_nil (W_ret ?_))
 refine ⟨_, ⟨_, _, _, rfl, rfl, run_loadVarA rfl rfl (gV_size (L := [[.int .i64 2], ((tagged [105, 110, 100, 101, 120] [ky]).take 16).map bV, fp.map bV, [.int .i64 ck], [.int .i64 cn], [.int .i64 cz], [.slice a65 L.length c66]]) (shCp (key_len _ _) hfp) rfl) (S105.cells 2 rfl), ⟨_, _, rfl, rfl, rfl⟩⟩, ?_⟩
 exact ⟨_, _, _, key_len _ _, rfl, (r67).mono S105.fin, S105.below⟩


theorem nb_f {b : Bool} (h : (!b) = false) : b = true := by cases b <;> simp_all
theorem nb_x {b : Bool} (h : (!b) = true) (h1 : b = true) : False := by cases b <;> simp_all
theorem rs_no {kd ck cn cz : Int} {L fp : List UInt8} {sn : Int} {u : List UInt8} {p B : List (List UInt8)} (h : ¬ RsOk kd ck cn cz L fp sn u p B) : Ending.returned (.tuple #[qV 0 0 0 0 (List.replicate 32 0) (List.replicate 32 0), .bool false]) = .returned (.tuple #[qV (rsN (decide (RsOk kd ck cn cz L fp sn u p B)) u 0) (rsN (decide (RsOk kd ck cn cz L fp sn u p B)) u 1) (rsN (decide (RsOk kd ck cn cz L fp sn u p B)) u 2) (rsN (decide (RsOk kd ck cn cz L fp sn u p B)) u 3) (rsH (decide (RsOk kd ck cn cz L fp sn u p B)) u 4) (rsH (decide (RsOk kd ck cn cz L fp sn u p B)) u 5), .bool (decide (RsOk kd ck cn cz L fp sn u p B))]) := by
 rw [decide_eq_false h]; rfl
theorem rs_yes {kd ck cn cz : Int} {L fp : List UInt8} {sn : Int} {u : List UInt8} {p B : List (List UInt8)} (h : RsOk kd ck cn cz L fp sn u p B) : Ending.returned (.tuple #[qV (uN u 0) (uN u 1) (uN u 2) (uN u 3) (uH u 4) (uH u 5), .bool true]) = .returned (.tuple #[qV (rsN (decide (RsOk kd ck cn cz L fp sn u p B)) u 0) (rsN (decide (RsOk kd ck cn cz L fp sn u p B)) u 1) (rsN (decide (RsOk kd ck cn cz L fp sn u p B)) u 2) (rsN (decide (RsOk kd ck cn cz L fp sn u p B)) u 3) (rsH (decide (RsOk kd ck cn cz L fp sn u p B)) u 4) (rsH (decide (RsOk kd ck cn cz L fp sn u p B)) u 5), .bool (decide (RsOk kd ck cn cz L fp sn u p B))]) := by
 rw [decide_eq_true h]; rfl
theorem checkR_ok {H : Hp} {w : World} (hH : H.le (hw w)) {r : List UInt8} (hr : r.length = 32) (n i : Int) {x : List UInt8} (hx : x.length = 32) {p : List (List UInt8)} {aa4 : Option Addr} {nn4 cc4 : Nat} (hp : RdH H (.slice aa4 nn4 cc4) 32 p) :
  Calls Tryz.prog 36 #[hV r, .int .i64 n, .int .i64 i, hV x, .slice aa4 nn4 cc4] w fun e w' => e = .returned (.bool (okW n i p.length && decide (climbH n i x p = r))) ∧ Below w.heap.size w w' := by
 obtain rfl : nn4 = p.length := hp.len
 have hpcap : p.length ≤ cc4 := hp.2.capOf
 refine enter5 _ Tryz.func36 rfl Tryz.ntmps36 Tryz.results36 rfl ?_
 have S0 := St.start w hH
 refine Wr (Ao S0 fun b1 w2 S3 => ?_)
 refine Ao S3 fun b4 w5 S6 => ?_
 refine Pv (Nr ?_)
 refine P2 ?_
 refine An (hl := by exact hVs hx) 0 S6 ?_
 refine Pv ?_
 refine Cs g_aumbry_aumbryref07_Climb ((climbR_ok S6.le n i hx hp).mono ?_)
 rintro e w8 ⟨rfl, hB7⟩
 have S9 := S6.call hB7
 refine ⟨_, rfl, trivial, ?_⟩
 refine P3 ?_
 refine Af S9 fun b10 w11 S12 => ?_
 refine Ak (hl := by exact hVs (climbH_len _ _ hx _)) (hl2 := by exact hVs (climbH_len _ _ hx _)) (h1 := by exact one_hA _) 0 S12 fun w13 S14 => ?_
 refine Pv (Nr ?_)
 refine P2 ?_
 refine Tp 22 (fun h15' => ?_) (fun h15' => ?_)
 ·have h15 := h15'
  refine Ys ?_
  refine An (hl := by exact hVs (climbH_len _ _ hx _)) 0 S14 ?_
  refine Ys ?_
  refine An (hl := by exact hVs hr) 2 S14 ?_
  refine Ys ?_
  refine T_eqB (xs := climbH n i x p) (ys := r) rfl rfl rfl rfl rfl rfl rfl rfl rfl rfl rfl (climbH_len _ _ hx _) hr (P2 (T_nil (W_ret ?_)))
  refine ⟨_, ⟨_, _, rfl, rfl, rfl⟩, ?_⟩
  exact ⟨by rw [h15, Bool.true_and]; rfl, S14.below⟩
 have h15 := h15'
 iterate 3 refine No ?_
 refine P2 (T_nil (W_ret ?_))
 refine ⟨_, ⟨_, _, rfl, rfl, rfl⟩, ?_⟩
 exact ⟨by rw [h15]; rfl, S14.below⟩


set_option maxHeartbeats 1000000 in
theorem rightS_ok {H : Hp} {w : World} (hH : H.le (hw w)) (hT : Tabs H) (kd ck cn cz : Int) {ky fp L : List UInt8} (hky : ky.length = 16) (hfp : fp.length = 32) {acp : Option Addr} {ncp ccp : Nat} (hcap : Rd H (.slice acp ncp ccp) ncp 1 (L.map bV)) (sn : Int) {u : List UInt8} {p B : List (List UInt8)} {a1 a2 a3 : Option Addr} {n1 n2 n3 c1 c2 c3 : Nat} (h1 : Rd H (.slice a1 n1 c1) n1 1 (u.map bV)) (h2 : RdH H (.slice a2 n2 c2) 32 p) (h3 : RdL H (.slice a3 n3 c3) B) (hu : u.length ≤ 200) (hp : p.length ≤ 6) (hB : B.length ≤ 20) (HX1 : ∀ x ∈ B, x.length < 1000) :
  Calls Tryz.prog 10 #[gV [[.int .i64 kd], ky.map bV, fp.map bV, [.int .i64 ck], [.int .i64 cn], [.int .i64 cz], [.slice acp ncp ccp]], .agg #[.int .i64 sn, .slice a1 n1 c1, .slice a2 n2 c2, .slice a3 n3 c3]] w fun e w' => e = .returned (.tuple #[qV (rsN (decide (RsOk kd ck cn cz L fp sn u p B)) u 0) (rsN (decide (RsOk kd ck cn cz L fp sn u p B)) u 1) (rsN (decide (RsOk kd ck cn cz L fp sn u p B)) u 2) (rsN (decide (RsOk kd ck cn cz L fp sn u p B)) u 3) (rsH (decide (RsOk kd ck cn cz L fp sn u p B)) u 4) (rsH (decide (RsOk kd ck cn cz L fp sn u p B)) u 5), .bool (decide (RsOk kd ck cn cz L fp sn u p B))]) ∧ Below w.heap.size w w' := by
 obtain rfl : ncp = L.length := hcap.lenB
 obtain rfl : n1 = u.length := h1.lenB
 obtain rfl : n2 = p.length := h2.len
 obtain rfl : n3 = B.length := h3.len
 refine enter2 _ Tryz.func10 rfl Tryz.ntmps10 Tryz.results10 rfl ?_
 have S0 := St.start w hH
 refine Wr (Ao S0 fun b51 w52 S53 => ?_)
 refine Ao S53 fun b54 w55 S56 => ?_
 refine Af S56 fun b57 w58 S59 => ?_
 refine Pv (Nr ?_)
 refine Fl 1 ?_
 refine Ap 1 1 S59 rfl ?_
 refine T_callS rfl rfl g_aumbry_layout_Unpack rfl rfl rfl rfl ((unpackU_ok S59.le hT h1 (by first | omega | decide)).mono ?_)
 rintro e w61 ⟨rfl, hB60⟩
 have S62 := S59.call hB60
 refine ⟨_, rfl, trivial, ?_⟩
 refine P3 ?_
 refine Af S62 fun b63 w64 S65 => ?_
 refine Ak (hl := by exact qV_sz (q_len (uH4 _) (uH5 _) rfl)) (hl2 := by exact qV_sz (q_len (uH4 _) (uH5 _) rfl)) (h1 := by exact qV_one) 0 S65 fun w66 S67 => ?_
 refine Pv (T_nil ?_)
 iterate 2 refine W_seq ?_
 obtain ⟨G69, hl70, S68, r71⟩ := S67.stillBlk 3 rfl
 refine W_plan (planF Tryz.prog G69 [29]) rfl (by kernel_rfl) S68.le ?_
 have S72 := S68.drew
 refine P3 ?_
 refine Tn 19 (fun h73 => ?_) (fun h73 => ?_)
 ·iterate 3 refine No ?_
  refine P2 ?_
  iterate 6 refine No ?_
  refine P2 ?_
  iterate 5 refine No ?_
  refine P2 ?_
  iterate 5 refine No ?_
  refine P2 ?_
  iterate 5 refine No ?_
  iterate 2 (refine Pv ?_; refine Pv ?_; refine No ?_; refine No ?_; refine No ?_)
  iterate 2 refine No ?_
  refine Pv (T_nil ?_)
  refine W_cond_true rfl (Wr (Ag (cells := (qz32 : Value).cells) ?_))
  refine Ak (hl := by exact qs32) (hl2 := by exact qs32) (h1 := by exact qV_one) 1 S72 fun w74 S75 => ?_
  refine Pv (T_nil (W_ret ?_))
  refine ⟨_, ⟨_, _, _, rfl, rfl, run_loadVarA rfl rfl (qs32) (S75.cells 1 rfl), ⟨_, _, rfl, rfl, rfl⟩⟩, ?_⟩
  refine ⟨rs_no (fun hq => ?_), S75.below⟩
  obtain ⟨⟨q0, q1, q2⟩, ⟨q3, q4, q5⟩, ⟨q6, q7⟩, q8, q9, q10⟩ := hq
  first | exact h73 q0 | exact h73 q1 | exact h73 q2 | exact h73 q3 | exact h73 q4 | exact h73 q5 | exact h73 q8 | omega | exact nb_x h73 q10 | (have q11 := (q9 k (by omega)).1; omega) | exact h73 (by rw [q3, q5]; exact (q9 k (by omega)).2) | exact h73 (q9 k (by omega)).2
 refine Ys ?_
 refine T_loadGA _ S72 (still_cells r71) rfl rfl rfl rfl rfl rfl rfl rfl (gV_size (L := [[.int .i64 kd], ky.map bV, fp.map bV, [.int .i64 ck], [.int .i64 cn], [.int .i64 cz], [.slice acp L.length ccp]]) (shCp hky hfp) rfl) (Ys ?_)
 refine Cs g_aumbry_layout_file ((file_ok S72.le kd ck cn cz hky hfp (hcap.mono hl70)).mono ?_)
 rintro e w77 ⟨rfl, hB76⟩
 have S78 := S72.call hB76
 refine ⟨_, rfl, (((Hp.le.refl _)).trans S78.le), ?_⟩
 refine Ys ?_
 refine P3 ?_
 refine Tn 24 (fun h79 => ?_) (fun h79 => ?_)
 ·iterate 6 refine No ?_
  refine P2 ?_
  iterate 5 refine No ?_
  refine P2 ?_
  iterate 5 refine No ?_
  refine P2 ?_
  iterate 5 refine No ?_
  iterate 2 (refine Pv ?_; refine Pv ?_; refine No ?_; refine No ?_; refine No ?_)
  iterate 2 refine No ?_
  refine Pv (T_nil ?_)
  refine W_cond_true rfl (Wr (Ag (cells := (qz32 : Value).cells) ?_))
  refine Ak (hl := by exact qs32) (hl2 := by exact qs32) (h1 := by exact qV_one) 1 S78 fun w80 S81 => ?_
  refine Pv (T_nil (W_ret ?_))
  refine ⟨_, ⟨_, _, _, rfl, rfl, run_loadVarA rfl rfl (qs32) (S81.cells 1 rfl), ⟨_, _, rfl, rfl, rfl⟩⟩, ?_⟩
  refine ⟨rs_no (fun hq => ?_), S81.below⟩
  obtain ⟨⟨q0, q1, q2⟩, ⟨q3, q4, q5⟩, ⟨q6, q7⟩, q8, q9, q10⟩ := hq
  first | exact h79 q0 | exact h79 q1 | exact h79 q2 | exact h79 q3 | exact h79 q4 | exact h79 q5 | exact h79 q8 | omega | exact nb_x h79 q10 | (have q11 := (q9 k (by omega)).1; omega) | exact h79 (by rw [q3, q5]; exact (q9 k (by omega)).2) | exact h79 (q9 k (by omega)).2
 refine Ys ?_
 refine Fl 1 ?_
 refine Ys ?_
 refine Ap 2 1 S78 rfl ?_
 refine Ys ?_
 refine T_callS rfl rfl g_aumbry_layout_Print rfl rfl rfl rfl ((print_ok S78.le (hT.mono hl70) (h1.mono hl70) (by first | omega | decide)).mono ?_)
 rintro e w83 ⟨rfl, hB82⟩
 have S84 := S78.call hB82
 refine ⟨_, rfl, (((Hp.le.refl _)).trans S84.le), ?_⟩
 refine Ys ?_
 refine Fl 17 ?_
 refine Ys ?_
 refine T_loadGAP (hV fp : Value).cells (fun _ h => h) (still_part r71 (gV_sub (shCp hky hfp) 2 1 (c := fp.map bV) (flat1) rfl)) rfl rfl rfl rfl rfl rfl rfl rfl (hVs hfp) (Ys ?_)
 refine T_neB (xs := tagged [117, 101, 98] [u]) (ys := fp) rfl rfl rfl rfl rfl rfl rfl rfl rfl rfl rfl (tagged_len _ _) hfp (P2 ?_)
 refine Tn 32 (fun h85 => ?_) (fun h85 => ?_)
 ·iterate 5 refine No ?_
  refine P2 ?_
  iterate 5 refine No ?_
  refine P2 ?_
  iterate 5 refine No ?_
  iterate 2 (refine Pv ?_; refine Pv ?_; refine No ?_; refine No ?_; refine No ?_)
  iterate 2 refine No ?_
  refine Pv (T_nil ?_)
  refine W_cond_true rfl (Wr (Ag (cells := (qz32 : Value).cells) ?_))
  refine Ak (hl := by exact qs32) (hl2 := by exact qs32) (h1 := by exact qV_one) 1 S84 fun w86 S87 => ?_
  refine Pv (T_nil (W_ret ?_))
  refine ⟨_, ⟨_, _, _, rfl, rfl, run_loadVarA rfl rfl (qs32) (S87.cells 1 rfl), ⟨_, _, rfl, rfl, rfl⟩⟩, ?_⟩
  refine ⟨rs_no (fun hq => ?_), S87.below⟩
  obtain ⟨⟨q0, q1, q2⟩, ⟨q3, q4, q5⟩, ⟨q6, q7⟩, q8, q9, q10⟩ := hq
  first | exact h85 q0 | exact h85 q1 | exact h85 q2 | exact h85 q3 | exact h85 q4 | exact h85 q5 | exact h85 q8 | omega | exact nb_x h85 q10 | (have q11 := (q9 k (by omega)).1; omega) | exact h85 (by rw [q3, q5]; exact (q9 k (by omega)).2) | exact h85 (q9 k (by omega)).2
 refine Ys ?_
 refine Fl 0 ?_
 refine Ys ?_
 refine Ap 0 0 S84 qV_0 ?_
 refine Ys ?_
 refine Fl 49 ?_
 refine Ys ?_
 refine Ad S84 (still_cell r71 (gV_cell (shCp hky hfp) 3 rfl rfl)) ?_
 refine Ys ?_
 refine P3 ?_
 refine Tn 39 (fun h88 => ?_) (fun h88 => ?_)
 ·iterate 5 refine No ?_
  refine P2 ?_
  iterate 5 refine No ?_
  iterate 2 (refine Pv ?_; refine Pv ?_; refine No ?_; refine No ?_; refine No ?_)
  iterate 2 refine No ?_
  refine Pv (T_nil ?_)
  refine W_cond_true rfl (Wr (Ag (cells := (qz32 : Value).cells) ?_))
  refine Ak (hl := by exact qs32) (hl2 := by exact qs32) (h1 := by exact qV_one) 1 S84 fun w89 S90 => ?_
  refine Pv (T_nil (W_ret ?_))
  refine ⟨_, ⟨_, _, _, rfl, rfl, run_loadVarA rfl rfl (qs32) (S90.cells 1 rfl), ⟨_, _, rfl, rfl, rfl⟩⟩, ?_⟩
  refine ⟨rs_no (fun hq => ?_), S90.below⟩
  obtain ⟨⟨q0, q1, q2⟩, ⟨q3, q4, q5⟩, ⟨q6, q7⟩, q8, q9, q10⟩ := hq
  first | exact h88 q0 | exact h88 q1 | exact h88 q2 | exact h88 q3 | exact h88 q4 | exact h88 q5 | exact h88 q8 | omega | exact nb_x h88 q10 | (have q11 := (q9 k (by omega)).1; omega) | exact h88 (by rw [q3, q5]; exact (q9 k (by omega)).2) | exact h88 (q9 k (by omega)).2
 refine Ys ?_
 refine Fl 1 ?_
 refine Ys ?_
 refine Ap 0 1 S84 qV_1 ?_
 refine Ys ?_
 refine Fl 50 ?_
 refine Ys ?_
 refine Ad S84 (still_cell r71 (gV_cell (shCp hky hfp) 4 rfl rfl)) ?_
 refine Ys ?_
 refine P3 ?_
 refine Tn 46 (fun h91 => ?_) (fun h91 => ?_)
 ·iterate 5 refine No ?_
  iterate 2 (refine Pv ?_; refine Pv ?_; refine No ?_; refine No ?_; refine No ?_)
  iterate 2 refine No ?_
  refine Pv (T_nil ?_)
  refine W_cond_true rfl (Wr (Ag (cells := (qz32 : Value).cells) ?_))
  refine Ak (hl := by exact qs32) (hl2 := by exact qs32) (h1 := by exact qV_one) 1 S84 fun w92 S93 => ?_
  refine Pv (T_nil (W_ret ?_))
  refine ⟨_, ⟨_, _, _, rfl, rfl, run_loadVarA rfl rfl (qs32) (S93.cells 1 rfl), ⟨_, _, rfl, rfl, rfl⟩⟩, ?_⟩
  refine ⟨rs_no (fun hq => ?_), S93.below⟩
  obtain ⟨⟨q0, q1, q2⟩, ⟨q3, q4, q5⟩, ⟨q6, q7⟩, q8, q9, q10⟩ := hq
  first | exact h91 q0 | exact h91 q1 | exact h91 q2 | exact h91 q3 | exact h91 q4 | exact h91 q5 | exact h91 q8 | omega | exact nb_x h91 q10 | (have q11 := (q9 k (by omega)).1; omega) | exact h91 (by rw [q3, q5]; exact (q9 k (by omega)).2) | exact h91 (q9 k (by omega)).2
 refine Ys ?_
 refine Fl 2 ?_
 refine Ys ?_
 refine Ap 0 2 S84 qV_2 ?_
 refine Ys ?_
 refine Fl 51 ?_
 refine Ys ?_
 refine Ad S84 (still_cell r71 (gV_cell (shCp hky hfp) 5 rfl rfl)) ?_
 refine Ys ?_
 refine P3 ?_
 refine Tn 53 (fun h94 => ?_) (fun h94 => ?_)
 ·iterate 3 refine No ?_
  refine P2 ?_
  iterate 5 refine No ?_
  refine Pv (T_nil ?_)
  refine W_cond_true rfl (Wr (Ag (cells := (qz32 : Value).cells) ?_))
  refine Ak (hl := by exact qs32) (hl2 := by exact qs32) (h1 := by exact qV_one) 1 S84 fun w95 S96 => ?_
  refine Pv (T_nil (W_ret ?_))
  refine ⟨_, ⟨_, _, _, rfl, rfl, run_loadVarA rfl rfl (qs32) (S96.cells 1 rfl), ⟨_, _, rfl, rfl, rfl⟩⟩, ?_⟩
  refine ⟨rs_no (fun hq => ?_), S96.below⟩
  obtain ⟨⟨q0, q1, q2⟩, ⟨q3, q4, q5⟩, ⟨q6, q7⟩, q8, q9, q10⟩ := hq
  first | exact h94 q0 | exact h94 q1 | exact h94 q2 | exact h94 q3 | exact h94 q4 | exact h94 q5 | exact h94 q8 | omega | exact nb_x h94 q10 | (have q11 := (q9 k (by omega)).1; omega) | exact h94 (by rw [q3, q5]; exact (q9 k (by omega)).2) | exact h94 (q9 k (by omega)).2
 refine Ys ?_
 refine Fl 0 ?_
 refine Ys ?_
 refine Ap 2 0 S84 rfl ?_
 refine Ys ?_
 refine P3 ?_
 refine Td 58 (fun h97 => ?_) (fun h97 => ?_)
 ·iterate 5 refine No ?_
  refine Pv (T_nil ?_)
  refine W_cond_true rfl (Wr (Ag (cells := (qz32 : Value).cells) ?_))
  refine Ak (hl := by exact qs32) (hl2 := by exact qs32) (h1 := by exact qV_one) 1 S84 fun w98 S99 => ?_
  refine Pv (T_nil (W_ret ?_))
  refine ⟨_, ⟨_, _, _, rfl, rfl, run_loadVarA rfl rfl (qs32) (S99.cells 1 rfl), ⟨_, _, rfl, rfl, rfl⟩⟩, ?_⟩
  refine ⟨rs_no (fun hq => ?_), S99.below⟩
  obtain ⟨⟨q0, q1, q2⟩, ⟨q3, q4, q5⟩, ⟨q6, q7⟩, q8, q9, q10⟩ := hq
  first | exact h97 q0 | exact h97 q1 | exact h97 q2 | exact h97 q3 | exact h97 q4 | exact h97 q5 | exact h97 q8 | omega | exact nb_x h97 q10 | (have q11 := (q9 k (by omega)).1; omega) | exact h97 (by rw [q3, q5]; exact (q9 k (by omega)).2) | exact h97 (q9 k (by omega)).2
 refine Ys ?_
 refine Fl 0 ?_
 refine Ys ?_
 refine Ap 2 0 S84 rfl ?_
 refine Ys ?_
 refine Fl 1 ?_
 refine Ys ?_
 refine Ap 0 1 S84 qV_1 ?_
 refine Ys ?_
 refine P2 (T_nil ?_)
 refine Ab (fun h100 => ?_) (fun h100 => ?_)
 ·refine Wr (Ag (cells := (qz32 : Value).cells) ?_)
  refine Ak (hl := by exact qs32) (hl2 := by exact qs32) (h1 := by exact qV_one) 1 S84 fun w101 S102 => ?_
  refine Pv (T_nil (W_ret ?_))
  refine ⟨_, ⟨_, _, _, rfl, rfl, run_loadVarA rfl rfl (qs32) (S102.cells 1 rfl), ⟨_, _, rfl, rfl, rfl⟩⟩, ?_⟩
  refine ⟨rs_no (fun hq => ?_), S102.below⟩
  obtain ⟨⟨q0, q1, q2⟩, ⟨q3, q4, q5⟩, ⟨q6, q7⟩, q8, q9, q10⟩ := hq
  first | exact h100 q0 | exact h100 q1 | exact h100 q2 | exact h100 q3 | exact h100 q4 | exact h100 q5 | exact h100 q8 | omega | exact nb_x h100 q10 | (have q11 := (q9 k (by omega)).1; omega) | exact h100 (by rw [q3, q5]; exact (q9 k (by omega)).2) | exact h100 (q9 k (by omega)).2
 refine W_skip (W_seq ?_)
 have hF := h79
 unfold FileP at hF
 refine W_region (Fl 2 ?_)
 refine Ap 0 2 S84 qV_2 ?_
 refine Pv (T_nil (W_seq (Wr ?_)))
 refine Fl 3 ?_
 refine Ap 2 3 S84 rfl ?_
 refine P2 (T_nil (W_block ?_))
 refine W_loop (fun M ρ w' => ∃ (k : Nat) (G103 : Hp), M = B.length - k ∧ k ≤ B.length ∧ BlkOk (uN u 0) (uN u 2) B k ∧ ρ = [(3, .pointer (some ⟨b54, 0, none⟩)), (4, .pointer (some ⟨b57, 0, none⟩)), (6, .pointer (some ⟨b63, 0, none⟩)), (8, .int .i64 (uN u 2 - ((k : Nat) : Int) * 64)), (69, .slice a3 B.length c3), (70, .int .i64 ((B.length : Nat) : Int)), (71, .int .i64 (k : Int))] ∧ G69.le G103 ∧ St w H G103 [.blk b63 (qV (uN u 0) (uN u 1) (uN u 2) (uN u 3) (uH u 4) (uH u 5) : Value).cells 39, .blk b57 (qV 0 0 0 0 (List.replicate 32 0) (List.replicate 32 0) : Value).cells 39, .blk b54 (.agg #[.int .i64 sn, .slice a1 u.length c1, .slice a2 p.length c2, .slice a3 B.length c3] : Value).cells 37] w')
  (B.length - 0) [(3, .pointer (some ⟨b54, 0, none⟩)), (4, .pointer (some ⟨b57, 0, none⟩)), (6, .pointer (some ⟨b63, 0, none⟩)), (8, .int .i64 (uN u 2 - ((0 : Nat) : Int) * 64)), (69, .slice a3 B.length c3), (70, .int .i64 ((B.length : Nat) : Int)), (71, .int .i64 ((0 : Nat) : Int))] ⟨rfl, rfl, rfl, ciI, rfl, ciI, ciI, trivial⟩ ⟨0, G69, rfl, (by omega), (by exact BlkOk.zero _ _ _), rfl, Hp.le.refl _, S84⟩ ?_
 rintro M ρ w105 ⟨k, G103, rfl, hp107, hblk, rfl, hl104, S106⟩
 refine Wr (Pv (T_nil (W_seq ?_)))
 refine Ab (fun h109 => ?_) (fun h109 => ?_)
 ·refine W_skip (W_seq (W_block (Wr ?_)))
  obtain ⟨hs113, r114, r115⟩ := (h3.mono (hl70.trans hl104))
  refine Aj k r114 fun b110 o111 hc112 => ?_
  obtain ⟨a118, c119, hc121, hv117, r120⟩ := r115.at k (by omega)
  have hc122 := hc112 0 (.slice a118 (B.getD k []).length c119) (by simpa using hv117)
  simp only [Nat.add_zero] at hc122
  refine Ad S106 hc122 ?_
  refine Pv (T_nil (W_seq (Wr ?_)))
  refine P3 ?_
  refine Td 77 (fun h123 => ?_) (fun h123 => ?_)
  ·iterate 8 refine No ?_
   refine Pv (T_nil ?_)
   refine W_cond_true rfl (Wr (Ag (cells := (qz32 : Value).cells) ?_))
   refine Ak (hl := by exact qs32) (hl2 := by exact qs32) (h1 := by exact qV_one) 1 S106 fun w124 S125 => ?_
   refine Pv (T_nil (W_ret ?_))
   refine ⟨_, ⟨_, _, _, rfl, rfl, run_loadVarA rfl rfl (qs32) (S125.cells 1 rfl), ⟨_, _, rfl, rfl, rfl⟩⟩, ?_⟩
   refine ⟨rs_no (fun hq => ?_), S125.below⟩
   obtain ⟨⟨q0, q1, q2⟩, ⟨q3, q4, q5⟩, ⟨q6, q7⟩, q8, q9, q10⟩ := hq
   first | exact h123 q0 | exact h123 q1 | exact h123 q2 | exact h123 q3 | exact h123 q4 | exact h123 q5 | exact h123 q8 | omega | exact nb_x h123 q10 | (have q11 := (q9 k (by omega)).1; omega) | exact h123 (by rw [q3, q5]; exact (q9 k (by omega)).2) | exact h123 (q9 k (by omega)).2
  iterate 2 (refine Ys ?_; refine Pv ?_)
  refine Ys ?_
  refine Fl 0 ?_
  refine Ys ?_
  refine Ap 0 0 S106 qV_0 ?_
  iterate 2 (refine Ys ?_; refine Pv ?_)
  refine Ys ?_
  refine Cs g_aumbry_layout_length ((length_ok S106.le (uN u 0) (min (uN u 2 - ((k : Nat) : Int) * 64) (64 : Int)) (by omega)).mono ?_)
  rintro e w127 ⟨rfl, hB126⟩
  have S128 := S106.call hB126
  refine ⟨_, rfl, trivial, ?_⟩
  refine Ys ?_
  refine P2 (T_nil ?_)
  refine W_cond_not rfl (fun h129 => ?_) (fun h129 => ?_)
  ·refine Wr (Ag (cells := (qz32 : Value).cells) ?_)
   refine Ak (hl := by exact qs32) (hl2 := by exact qs32) (h1 := by exact qV_one) 1 S128 fun w130 S131 => ?_
   refine Pv (T_nil (W_ret ?_))
   refine ⟨_, ⟨_, _, _, rfl, rfl, run_loadVarA rfl rfl (qs32) (S131.cells 1 rfl), ⟨_, _, rfl, rfl, rfl⟩⟩, ?_⟩
   refine ⟨rs_no (fun hq => ?_), S131.below⟩
   obtain ⟨⟨q0, q1, q2⟩, ⟨q3, q4, q5⟩, ⟨q6, q7⟩, q8, q9, q10⟩ := hq
   first | exact h129 q0 | exact h129 q1 | exact h129 q2 | exact h129 q3 | exact h129 q4 | exact h129 q5 | exact h129 q8 | omega | exact nb_x h129 q10 | (have q11 := (q9 k (by omega)).1; omega) | exact h129 (by rw [q3, q5]; exact (q9 k (by omega)).2) | exact h129 (q9 k (by omega)).2
  refine W_skip (W_region (Pv ?_))
  refine Ar ?_
  refine Pv (T_nil (W_region ?_))
  refine Ar ?_
  refine Pv (T_nil ?_)
  have HLEN := h129
  exact ⟨B.length - (k + 1), [(3, .pointer (some ⟨b54, 0, none⟩)), (4, .pointer (some ⟨b57, 0, none⟩)), (6, .pointer (some ⟨b63, 0, none⟩)), (8, .int .i64 (uN u 2 - ((k + 1 : Nat) : Int) * 64)), (69, .slice a3 B.length c3), (70, .int .i64 ((B.length : Nat) : Int)), (71, .int .i64 ((k + 1 : Nat) : Int))], by omega, ⟨rfl, rfl, rfl, ciI, rfl, ciI, ciI, trivial⟩, k + 1, G103, rfl, (by omega), (by exact hblk.step (by omega) HLEN), rfl, hl104, S128⟩
 refine W_exit ?_
 iterate 2 refine W_seq ?_
 obtain ⟨G133, hl134, S132, r135⟩ := S106.stillBlk 0 rfl
 obtain ⟨G137, hl138, S136, r139⟩ := S132.stillBlk 1 rfl
 refine W_plan (planF Tryz.prog G137 [95, 97, 99, 103]) rfl (by kernel_rfl) S136.le ?_
 have S140 := S136.drew
 refine P3 ?_
 refine Td 93 (fun h141 => ?_) (fun h141 => ?_)
 ·iterate 12 refine No ?_
  refine Pv (T_nil ?_)
  refine W_cond_true rfl (Wr (Ag (cells := (qz32 : Value).cells) ?_))
  refine Ak (hl := by exact qs32) (hl2 := by exact qs32) (h1 := by exact qV_one) 0 S140 fun w142 S143 => ?_
  refine Pv (T_nil (W_ret ?_))
  refine ⟨_, ⟨_, _, _, rfl, rfl, run_loadVarA rfl rfl (qs32) (S143.cells 0 rfl), ⟨_, _, rfl, rfl, rfl⟩⟩, ?_⟩
  refine ⟨rs_no (fun hq => ?_), S143.below⟩
  obtain ⟨⟨q0, q1, q2⟩, ⟨q3, q4, q5⟩, ⟨q6, q7⟩, q8, q9, q10⟩ := hq
  first | exact h141 q0 | exact h141 q1 | exact h141 q2 | exact h141 q3 | exact h141 q4 | exact h141 q5 | exact h141 q8 | omega | exact nb_x h141 q10 | (have q11 := (q9 k (by omega)).1; omega) | exact h141 (by rw [q3, q5]; exact (q9 k (by omega)).2) | exact h141 (q9 k (by omega)).2
 refine Ys ?_
 refine Fl 36 ?_
 refine Ys ?_
 refine T_loadGAP _ (fun _ h => h) (still_part (hl138 _ _ r135) (qV_t (by rw [(uH4 _)]))) rfl rfl rfl rfl rfl rfl rfl rfl (hVs (uH5 _)) ?_
 refine Ys ?_
 refine Fl 1 ?_
 refine Ys ?_
 refine T_loadGP (fun _ h => h) (still_cell (hl138 _ _ r135) qV_1) rfl rfl rfl rfl rfl rfl rfl (Ys ?_)
 refine Fl 0 ?_
 refine Ys ?_
 refine Am (still_cell r139 rfl) ?_
 refine Ys ?_
 refine T_loadGA _ S140 (still_cells r139) rfl rfl rfl rfl rfl rfl rfl rfl (by first | rfl | simp [hVs, *]) ?_
 refine Ys ?_
 refine Cs g_aumbry_layout_ShareLeaf ((shareLeaf_ok S140.le (hT.mono (hl70.trans (hl104.trans (hl134.trans hl138)))) sn (h1.mono (hl70.trans (hl104.trans (hl134.trans hl138)))) (h2.mono (hl70.trans (hl104.trans (hl134.trans hl138)))) (h3.mono (hl70.trans (hl104.trans (hl134.trans hl138)))) (by omega) HX1).mono ?_)
 rintro e w145 ⟨rfl, hB144⟩
 have S146 := S140.call hB144
 refine ⟨_, rfl, (((Hp.le.refl _)).trans S146.le), ?_⟩
 refine Ys ?_
 refine Fl 2 ?_
 refine Ys ?_
 refine Am (still_cell r139 rfl) ?_
 refine Ys ?_
 refine Cs g_aumbry_tree_Check ((check_ok S146.le (hT.mono (hl70.trans (hl104.trans (hl134.trans hl138)))) (uH5 _) (uN u 1) sn (root_len (leavesH_all _ _)) (h2.mono (hl70.trans (hl104.trans (hl134.trans hl138))))).mono ?_)
 rintro e w148 ⟨rfl, hB147⟩
 have S149 := S146.call hB147
 refine ⟨_, rfl, (((Hp.le.refl _)).trans S149.le), ?_⟩
 refine Ys ?_
 refine P2 (T_nil ?_)
 refine W_cond rfl (fun h150 => ?_) (fun h150 => ?_)
 ·refine Wr (Ag (cells := (qz32 : Value).cells) ?_)
  refine Ak (hl := by exact qs32) (hl2 := by exact qs32) (h1 := by exact qV_one) 0 S149 fun w151 S152 => ?_
  refine Pv (T_nil (W_ret ?_))
  refine ⟨_, ⟨_, _, _, rfl, rfl, run_loadVarA rfl rfl (qs32) (S152.cells 0 rfl), ⟨_, _, rfl, rfl, rfl⟩⟩, ?_⟩
  refine ⟨rs_no (fun hq => ?_), S152.below⟩
  obtain ⟨⟨q0, q1, q2⟩, ⟨q3, q4, q5⟩, ⟨q6, q7⟩, q8, q9, q10⟩ := hq
  first | exact h150 q0 | exact h150 q1 | exact h150 q2 | exact h150 q3 | exact h150 q4 | exact h150 q5 | exact h150 q8 | omega | exact nb_x h150 q10 | (have q11 := (q9 k (by omega)).1; omega) | exact h150 (by rw [q3, q5]; exact (q9 k (by omega)).2) | exact h150 (q9 k (by omega)).2
 refine W_skip (Wr (T_loadGA _ S149 (still_cells (hl138 _ _ r135)) rfl rfl rfl rfl rfl rfl rfl rfl (qV_sz (q_len (uH4 _) (uH5 _) rfl)) (Ak (hl := by exact qV_sz (q_len (uH4 _) (uH5 _) rfl)) (hl2 := by exact qV_sz (q_len (uH4 _) (uH5 _) rfl)) (h1 := by exact qV_one) 0 S149 fun w153 S154 => ?_)))
 refine Pv (T_nil (W_ret ?_))
 refine ⟨_, ⟨_, _, _, rfl, rfl, run_loadVarA rfl rfl (qV_sz (q_len (uH4 _) (uH5 _) rfl)) (S154.cells 0 rfl), ⟨_, _, rfl, rfl, rfl⟩⟩, ?_⟩
 have hl1 := (hblk (k - 1) (by omega)).1
 exact ⟨rs_yes ⟨⟨h73, h79, h85⟩, ⟨h88, h91, h94⟩, ⟨by omega, by omega⟩, by omega, by rw [← h88, ← h94, show B.length = k by omega]; exact hblk, nb_f h150⟩, S154.below⟩


set_option maxHeartbeats 1000000 in
theorem rightSR_ok {H : Hp} {w : World} (hH : H.le (hw w)) (kd ck cn cz : Int) {ky fp L : List UInt8} (hky : ky.length = 16) (hfp : fp.length = 32) {acp : Option Addr} {ncp ccp : Nat} (hcap : Rd H (.slice acp ncp ccp) ncp 1 (L.map bV)) (sn : Int) {u : List UInt8} {p B : List (List UInt8)} {a1 a2 a3 : Option Addr} {n1 n2 n3 c1 c2 c3 : Nat} (h1 : Rd H (.slice a1 n1 c1) n1 1 (u.map bV)) (h2 : RdH H (.slice a2 n2 c2) 32 p) (h3 : RdL H (.slice a3 n3 c3) B) (hu : u.length ≤ 200) (hp : p.length ≤ 6) (hB : B.length ≤ 20) (HX1 : ∀ x ∈ B, x.length < 1000) :
  Calls Tryz.prog 11 #[gV [[.int .i64 kd], ky.map bV, fp.map bV, [.int .i64 ck], [.int .i64 cn], [.int .i64 cz], [.slice acp ncp ccp]], .agg #[.int .i64 sn, .slice a1 n1 c1, .slice a2 n2 c2, .slice a3 n3 c3]] w fun e w' => e = .returned (.tuple #[qV (rsN (decide (RsOk kd ck cn cz L fp sn u p B)) u 0) (rsN (decide (RsOk kd ck cn cz L fp sn u p B)) u 1) (rsN (decide (RsOk kd ck cn cz L fp sn u p B)) u 2) (rsN (decide (RsOk kd ck cn cz L fp sn u p B)) u 3) (rsH (decide (RsOk kd ck cn cz L fp sn u p B)) u 4) (rsH (decide (RsOk kd ck cn cz L fp sn u p B)) u 5), .bool (decide (RsOk kd ck cn cz L fp sn u p B))]) ∧ Below w.heap.size w w' := by
 obtain rfl : ncp = L.length := hcap.lenB
 obtain rfl : n1 = u.length := h1.lenB
 obtain rfl : n2 = p.length := h2.len
 obtain rfl : n3 = B.length := h3.len
 refine enter2 _ Tryz.func11 rfl Tryz.ntmps11 Tryz.results11 rfl ?_
 have S0 := St.start w hH
 refine Wr (Ao S0 fun b51 w52 S53 => ?_)
 refine Ao S53 fun b54 w55 S56 => ?_
 refine Af S56 fun b57 w58 S59 => ?_
 refine Pv (T_nil ?_)
 iterate 2 refine W_seq ?_
 obtain ⟨G61, hl62, S60, r63⟩ := S59.stillBlk 2 rfl
 refine W_plan (planF Tryz.prog G61 [17]) rfl (by kernel_rfl) S60.le ?_
 have S64 := S60.drew
 refine T_loadGA _ S64 (still_cells r63) rfl rfl rfl rfl rfl rfl rfl rfl (gV_size (L := [[.int .i64 kd], ky.map bV, fp.map bV, [.int .i64 ck], [.int .i64 cn], [.int .i64 cz], [.slice acp L.length ccp]]) (shCp hky hfp) rfl) (Cs g_aumbry_aumbryref13_IsFile ((isFile_ok S64.le kd ck cn cz hky hfp (hcap.mono hl62)).mono ?_))
 rintro e w66 ⟨rfl, hB65⟩
 have S67 := S64.call hB65
 refine ⟨_, rfl, (((Hp.le.refl _)).trans S67.le), ?_⟩
 refine P2 ?_
 refine Tn 12 (fun h68 => ?_) (fun h68 => ?_)
 ·iterate 6 refine No ?_
  refine Pv (T_nil ?_)
  refine W_cond_true rfl (Wr (Ag (cells := (qz32 : Value).cells) ?_))
  refine Ak (hl := by exact qs32) (hl2 := by exact qs32) (h1 := by exact qV_one) 0 S67 fun w69 S70 => ?_
  refine Pv (T_nil (W_ret ?_))
  refine ⟨_, ⟨_, _, _, rfl, rfl, run_loadVarA rfl rfl (qs32) (S70.cells 0 rfl), ⟨_, _, rfl, rfl, rfl⟩⟩, ?_⟩
  refine ⟨rs_no (fun hq => ?_), S70.below⟩
  obtain ⟨⟨q0, q1, q2⟩, ⟨q3, q4, q5⟩, ⟨q6, q7⟩, q8, q9, q10⟩ := hq
  first | exact h68 q0 | exact h68 q1 | exact h68 q2 | exact h68 q3 | exact h68 q4 | exact h68 q5 | exact h68 q8 | omega | exact nb_x h68 q10 | (have q11 := (q9 k (by omega)).1; omega) | exact h68 (by rw [q3, q5]; exact (q9 k (by omega)).2) | exact h68 (q9 k (by omega)).2
 refine Ys ?_
 refine Fl 1 ?_
 refine Ys ?_
 refine Ap 1 1 S67 rfl ?_
 refine Ys ?_
 refine T_callS rfl rfl g_aumbry_aumbryref13_PrintUeb rfl rfl rfl rfl ((printR_ok S67.le (h1.mono hl62) (by first | omega | decide)).mono ?_)
 rintro e w72 ⟨rfl, hB71⟩
 have S73 := S67.call hB71
 refine ⟨_, rfl, (((Hp.le.refl _)).trans S73.le), ?_⟩
 refine Ys ?_
 refine Fl 17 ?_
 refine Ys ?_
 refine T_loadGAP (hV fp : Value).cells (fun _ h => h) (still_part r63 (gV_sub (shCp hky hfp) 2 1 (c := fp.map bV) (flat1) rfl)) rfl rfl rfl rfl rfl rfl rfl rfl (hVs hfp) (Ys ?_)
 refine T_neB (xs := tagged [117, 101, 98] [u]) (ys := fp) rfl rfl rfl rfl rfl rfl rfl rfl rfl rfl rfl (tagged_len _ _) hfp (Pv (T_nil ?_))
 refine W_cond_not rfl (fun h74 => ?_) (fun h74 => ?_)
 ·refine Wr (Ag (cells := (qz32 : Value).cells) ?_)
  refine Ak (hl := by exact qs32) (hl2 := by exact qs32) (h1 := by exact qV_one) 0 S73 fun w75 S76 => ?_
  refine Pv (T_nil (W_ret ?_))
  refine ⟨_, ⟨_, _, _, rfl, rfl, run_loadVarA rfl rfl (qs32) (S76.cells 0 rfl), ⟨_, _, rfl, rfl, rfl⟩⟩, ?_⟩
  refine ⟨rs_no (fun hq => ?_), S76.below⟩
  obtain ⟨⟨q0, q1, q2⟩, ⟨q3, q4, q5⟩, ⟨q6, q7⟩, q8, q9, q10⟩ := hq
  first | exact h74 q0 | exact h74 q1 | exact h74 q2 | exact h74 q3 | exact h74 q4 | exact h74 q5 | exact h74 q8 | omega | exact nb_x h74 q10 | (have q11 := (q9 k (by omega)).1; omega) | exact h74 (by rw [q3, q5]; exact (q9 k (by omega)).2) | exact h74 (q9 k (by omega)).2
 refine W_skip (W_seq ?_)
 have hF := h68
 unfold FileP at hF
 refine W_region (Fl 1 ?_)
 refine Ap 1 1 S73 rfl ?_
 refine T_callS rfl rfl g_aumbry_aumbryref13_Unpack rfl rfl rfl rfl ((unpackUR_ok S73.le (h1.mono hl62) (by first | omega | decide)).mono ?_)
 rintro e w78 ⟨rfl, hB77⟩
 have S79 := S73.call hB77
 refine ⟨_, rfl, trivial, ?_⟩
 refine P3 ?_
 refine Af S79 fun b80 w81 S82 => ?_
 refine Ak (hl := by exact qV_sz (q_len (uH4 _) (uH5 _) rfl)) (hl2 := by exact qV_sz (q_len (uH4 _) (uH5 _) rfl)) (h1 := by exact qV_one) 0 S82 fun w83 S84 => ?_
 refine Pv (T_nil ?_)
 iterate 2 refine W_seq ?_
 obtain ⟨G86, hl87, S85, r88⟩ := S84.stillBlk 2 rfl
 refine W_plan (planF Tryz.prog G86 [64]) rfl (by kernel_rfl) S85.le ?_
 have S89 := S85.drew
 refine P3 ?_
 refine Tn 29 (fun h90 => ?_) (fun h90 => ?_)
 ·iterate 5 refine No ?_
  refine P2 ?_
  iterate 5 refine No ?_
  refine P2 ?_
  iterate 5 refine No ?_
  iterate 2 (refine Pv ?_; refine Pv ?_; refine No ?_; refine No ?_; refine No ?_)
  iterate 2 refine No ?_
  refine P2 ?_
  iterate 7 refine No ?_
  refine Pv (T_nil ?_)
  refine W_cond_true rfl (Wr (Ag (cells := (qz32 : Value).cells) ?_))
  refine Ak (hl := by exact qs32) (hl2 := by exact qs32) (h1 := by exact qV_one) 1 S89 fun w91 S92 => ?_
  refine Pv (T_nil (W_ret ?_))
  refine ⟨_, ⟨_, _, _, rfl, rfl, run_loadVarA rfl rfl (qs32) (S92.cells 1 rfl), ⟨_, _, rfl, rfl, rfl⟩⟩, ?_⟩
  refine ⟨rs_no (fun hq => ?_), S92.below⟩
  obtain ⟨⟨q0, q1, q2⟩, ⟨q3, q4, q5⟩, ⟨q6, q7⟩, q8, q9, q10⟩ := hq
  first | exact h90 q0 | exact h90 q1 | exact h90 q2 | exact h90 q3 | exact h90 q4 | exact h90 q5 | exact h90 q8 | omega | exact nb_x h90 q10 | (have q11 := (q9 k (by omega)).1; omega) | exact h90 (by rw [q3, q5]; exact (q9 k (by omega)).2) | exact h90 (q9 k (by omega)).2
 refine Ys ?_
 refine Fl 0 ?_
 refine Ys ?_
 refine Ap 0 0 S89 qV_0 ?_
 refine Ys ?_
 refine Fl 49 ?_
 refine Ys ?_
 refine T_loadG S89 (still_cell (hl87 _ _ r63) (gV_cell (shCp hky hfp) 3 rfl rfl)) rfl rfl rfl rfl rfl rfl rfl (Ys ?_)
 refine P3 ?_
 refine Tn 36 (fun h93 => ?_) (fun h93 => ?_)
 ·iterate 5 refine No ?_
  refine P2 ?_
  iterate 5 refine No ?_
  iterate 2 (refine Pv ?_; refine Pv ?_; refine No ?_; refine No ?_; refine No ?_)
  iterate 2 refine No ?_
  refine P2 ?_
  iterate 7 refine No ?_
  refine Pv (T_nil ?_)
  refine W_cond_true rfl (Wr (Ag (cells := (qz32 : Value).cells) ?_))
  refine Ak (hl := by exact qs32) (hl2 := by exact qs32) (h1 := by exact qV_one) 1 S89 fun w94 S95 => ?_
  refine Pv (T_nil (W_ret ?_))
  refine ⟨_, ⟨_, _, _, rfl, rfl, run_loadVarA rfl rfl (qs32) (S95.cells 1 rfl), ⟨_, _, rfl, rfl, rfl⟩⟩, ?_⟩
  refine ⟨rs_no (fun hq => ?_), S95.below⟩
  obtain ⟨⟨q0, q1, q2⟩, ⟨q3, q4, q5⟩, ⟨q6, q7⟩, q8, q9, q10⟩ := hq
  first | exact h93 q0 | exact h93 q1 | exact h93 q2 | exact h93 q3 | exact h93 q4 | exact h93 q5 | exact h93 q8 | omega | exact nb_x h93 q10 | (have q11 := (q9 k (by omega)).1; omega) | exact h93 (by rw [q3, q5]; exact (q9 k (by omega)).2) | exact h93 (q9 k (by omega)).2
 refine Ys ?_
 refine Fl 1 ?_
 refine Ys ?_
 refine Ap 0 1 S89 qV_1 ?_
 refine Ys ?_
 refine Fl 50 ?_
 refine Ys ?_
 refine T_loadG S89 (still_cell (hl87 _ _ r63) (gV_cell (shCp hky hfp) 4 rfl rfl)) rfl rfl rfl rfl rfl rfl rfl (Ys ?_)
 refine P3 ?_
 refine Tn 43 (fun h96 => ?_) (fun h96 => ?_)
 ·iterate 5 refine No ?_
  iterate 2 (refine Pv ?_; refine Pv ?_; refine No ?_; refine No ?_; refine No ?_)
  iterate 2 refine No ?_
  refine P2 ?_
  iterate 7 refine No ?_
  refine Pv (T_nil ?_)
  refine W_cond_true rfl (Wr (Ag (cells := (qz32 : Value).cells) ?_))
  refine Ak (hl := by exact qs32) (hl2 := by exact qs32) (h1 := by exact qV_one) 1 S89 fun w97 S98 => ?_
  refine Pv (T_nil (W_ret ?_))
  refine ⟨_, ⟨_, _, _, rfl, rfl, run_loadVarA rfl rfl (qs32) (S98.cells 1 rfl), ⟨_, _, rfl, rfl, rfl⟩⟩, ?_⟩
  refine ⟨rs_no (fun hq => ?_), S98.below⟩
  obtain ⟨⟨q0, q1, q2⟩, ⟨q3, q4, q5⟩, ⟨q6, q7⟩, q8, q9, q10⟩ := hq
  first | exact h96 q0 | exact h96 q1 | exact h96 q2 | exact h96 q3 | exact h96 q4 | exact h96 q5 | exact h96 q8 | omega | exact nb_x h96 q10 | (have q11 := (q9 k (by omega)).1; omega) | exact h96 (by rw [q3, q5]; exact (q9 k (by omega)).2) | exact h96 (q9 k (by omega)).2
 refine Ys ?_
 refine Fl 2 ?_
 refine Ys ?_
 refine Ap 0 2 S89 qV_2 ?_
 refine Ys ?_
 refine Fl 51 ?_
 refine Ys ?_
 refine T_loadG S89 (still_cell (hl87 _ _ r63) (gV_cell (shCp hky hfp) 5 rfl rfl)) rfl rfl rfl rfl rfl rfl rfl (Ys ?_)
 refine P3 ?_
 refine Tn 50 (fun h99 => ?_) (fun h99 => ?_)
 ·iterate 3 refine No ?_
  refine P2 ?_
  iterate 5 refine No ?_
  refine P2 ?_
  iterate 7 refine No ?_
  refine Pv (T_nil ?_)
  refine W_cond_true rfl (Wr (Ag (cells := (qz32 : Value).cells) ?_))
  refine Ak (hl := by exact qs32) (hl2 := by exact qs32) (h1 := by exact qV_one) 1 S89 fun w100 S101 => ?_
  refine Pv (T_nil (W_ret ?_))
  refine ⟨_, ⟨_, _, _, rfl, rfl, run_loadVarA rfl rfl (qs32) (S101.cells 1 rfl), ⟨_, _, rfl, rfl, rfl⟩⟩, ?_⟩
  refine ⟨rs_no (fun hq => ?_), S101.below⟩
  obtain ⟨⟨q0, q1, q2⟩, ⟨q3, q4, q5⟩, ⟨q6, q7⟩, q8, q9, q10⟩ := hq
  first | exact h99 q0 | exact h99 q1 | exact h99 q2 | exact h99 q3 | exact h99 q4 | exact h99 q5 | exact h99 q8 | omega | exact nb_x h99 q10 | (have q11 := (q9 k (by omega)).1; omega) | exact h99 (by rw [q3, q5]; exact (q9 k (by omega)).2) | exact h99 (q9 k (by omega)).2
 refine Ys ?_
 refine Fl 0 ?_
 refine Ys ?_
 refine Ad S89 (still_cell r88 rfl) ?_
 refine Ys ?_
 refine P3 ?_
 refine Td 55 (fun h102 => ?_) (fun h102 => ?_)
 ·iterate 5 refine No ?_
  refine P2 ?_
  iterate 7 refine No ?_
  refine Pv (T_nil ?_)
  refine W_cond_true rfl (Wr (Ag (cells := (qz32 : Value).cells) ?_))
  refine Ak (hl := by exact qs32) (hl2 := by exact qs32) (h1 := by exact qV_one) 1 S89 fun w103 S104 => ?_
  refine Pv (T_nil (W_ret ?_))
  refine ⟨_, ⟨_, _, _, rfl, rfl, run_loadVarA rfl rfl (qs32) (S104.cells 1 rfl), ⟨_, _, rfl, rfl, rfl⟩⟩, ?_⟩
  refine ⟨rs_no (fun hq => ?_), S104.below⟩
  obtain ⟨⟨q0, q1, q2⟩, ⟨q3, q4, q5⟩, ⟨q6, q7⟩, q8, q9, q10⟩ := hq
  first | exact h102 q0 | exact h102 q1 | exact h102 q2 | exact h102 q3 | exact h102 q4 | exact h102 q5 | exact h102 q8 | omega | exact nb_x h102 q10 | (have q11 := (q9 k (by omega)).1; omega) | exact h102 (by rw [q3, q5]; exact (q9 k (by omega)).2) | exact h102 (q9 k (by omega)).2
 refine Ys ?_
 refine Fl 0 ?_
 refine Ys ?_
 refine Ad S89 (still_cell r88 rfl) ?_
 refine Ys ?_
 refine Fl 50 ?_
 refine Ys ?_
 refine T_loadG S89 (still_cell (hl87 _ _ r63) (gV_cell (shCp hky hfp) 4 rfl rfl)) rfl rfl rfl rfl rfl rfl rfl (Ys ?_)
 refine P3 ?_
 refine Td 62 (fun h105 => ?_) (fun h105 => ?_)
 ·iterate 7 refine No ?_
  refine Pv (T_nil ?_)
  refine W_cond_true rfl (Wr (Ag (cells := (qz32 : Value).cells) ?_))
  refine Ak (hl := by exact qs32) (hl2 := by exact qs32) (h1 := by exact qV_one) 1 S89 fun w106 S107 => ?_
  refine Pv (T_nil (W_ret ?_))
  refine ⟨_, ⟨_, _, _, rfl, rfl, run_loadVarA rfl rfl (qs32) (S107.cells 1 rfl), ⟨_, _, rfl, rfl, rfl⟩⟩, ?_⟩
  refine ⟨rs_no (fun hq => ?_), S107.below⟩
  obtain ⟨⟨q0, q1, q2⟩, ⟨q3, q4, q5⟩, ⟨q6, q7⟩, q8, q9, q10⟩ := hq
  first | exact h105 q0 | exact h105 q1 | exact h105 q2 | exact h105 q3 | exact h105 q4 | exact h105 q5 | exact h105 q8 | omega | exact nb_x h105 q10 | (have q11 := (q9 k (by omega)).1; omega) | exact h105 (by rw [q3, q5]; exact (q9 k (by omega)).2) | exact h105 (q9 k (by omega)).2
 refine Ys ?_
 refine Fl 3 ?_
 refine Ys ?_
 refine Am (still_cell r88 rfl) ?_
 refine Ys ?_
 refine Pv ?_
 refine Ys ?_
 refine Fl 51 ?_
 refine Ys ?_
 refine T_loadG S89 (still_cell (hl87 _ _ r63) (gV_cell (shCp hky hfp) 5 rfl rfl)) rfl rfl rfl rfl rfl rfl rfl (Ys ?_)
 refine Cs g_aumbry_aumbryref13_Segments ((segments_ok S89.le cz (by omega)).mono ?_)
 rintro e w109 ⟨rfl, hB108⟩
 have S110 := S89.call hB108
 refine ⟨_, rfl, (((Hp.le.refl _)).trans S110.le), ?_⟩
 refine Ys ?_
 refine P2 (T_nil ?_)
 refine W_cond_not rfl (fun h111 => ?_) (fun h111 => ?_)
 ·refine Wr (Ag (cells := (qz32 : Value).cells) ?_)
  refine Ak (hl := by exact qs32) (hl2 := by exact qs32) (h1 := by exact qV_one) 1 S110 fun w112 S113 => ?_
  refine Pv (T_nil (W_ret ?_))
  refine ⟨_, ⟨_, _, _, rfl, rfl, run_loadVarA rfl rfl (qs32) (S113.cells 1 rfl), ⟨_, _, rfl, rfl, rfl⟩⟩, ?_⟩
  refine ⟨rs_no (fun hq => ?_), S113.below⟩
  obtain ⟨⟨q0, q1, q2⟩, ⟨q3, q4, q5⟩, ⟨q6, q7⟩, q8, q9, q10⟩ := hq
  first | exact h111 q0 | exact h111 q1 | exact h111 q2 | exact h111 q3 | exact h111 q4 | exact h111 q5 | exact h111 q8 | omega | exact nb_x h111 q10 | (have q11 := (q9 k (by omega)).1; omega) | exact h111 (by rw [q3, q5]; exact (q9 k (by omega)).2) | exact h111 (q9 k (by omega)).2
 refine W_skip (W_seq (Wr (Fl 3 ?_)))
 refine Ad S110 (still_cell r88 rfl) ?_
 refine P2 (T_nil (W_block ?_))
 refine W_loop (fun M ρ w' => ∃ (k : Nat) (G114 : Hp), M = B.length - k ∧ k ≤ B.length ∧ BlkOk ck cz B k ∧ ρ = [(2, .pointer (some ⟨b51, 0, none⟩)), (3, .pointer (some ⟨b54, 0, none⟩)), (4, .pointer (some ⟨b57, 0, none⟩)), (6, .pointer (some ⟨b80, 0, none⟩)), (74, .int .i64 ((B.length : Nat) : Int)), (75, .int .i64 (k : Int))] ∧ G86.le G114 ∧ St w H G114 [.blk b80 (qV (uN u 0) (uN u 1) (uN u 2) (uN u 3) (uH u 4) (uH u 5) : Value).cells 39, .blk b57 (qV 0 0 0 0 (List.replicate 32 0) (List.replicate 32 0) : Value).cells 39] w')
  (B.length - 0) [(2, .pointer (some ⟨b51, 0, none⟩)), (3, .pointer (some ⟨b54, 0, none⟩)), (4, .pointer (some ⟨b57, 0, none⟩)), (6, .pointer (some ⟨b80, 0, none⟩)), (74, .int .i64 ((B.length : Nat) : Int)), (75, .int .i64 ((0 : Nat) : Int))] ⟨rfl, rfl, rfl, rfl, ciI, ciI, trivial⟩ ⟨0, G86, rfl, (by omega), (by exact BlkOk.zero _ _ _), rfl, Hp.le.refl _, S110⟩ ?_
 rintro M ρ w116 ⟨k, G114, rfl, hp118, hblk, rfl, hl115, S117⟩
 refine Wr (Pv (T_nil (W_seq ?_)))
 refine Ab (fun h120 => ?_) (fun h120 => ?_)
 ·refine W_skip (W_seq (W_block (Wr (P2 (T_nil (W_seq ?_))))))
  refine W_plan (planF Tryz.prog G114 [79, 82, 89]) rfl (by kernel_rfl) S117.le ?_
  have S121 := S117.drew
  refine Fl 3 ?_
  refine T_loadGP (fun _ h => h) (still_cell (hl115 _ _ r88) rfl) rfl rfl rfl rfl rfl rfl rfl (Pv ?_)
  obtain ⟨hs125, r126, r127⟩ := (h3.mono (hl62.trans (hl87.trans hl115)))
  refine Aj k r126 fun b122 o123 hc124 => ?_
  obtain ⟨a130, c131, hc133, hv129, r132⟩ := r127.at k (by omega)
  have hc134 := hc124 0 (.slice a130 (B.getD k []).length c131) (by simpa using hv129)
  simp only [Nat.add_zero] at hc134
  refine Am hc134 ?_
  refine Pv ?_
  refine Fl 51 ?_
  refine T_loadG S121 (still_cell (hl115 _ _ (hl87 _ _ r63)) (gV_cell (shCp hky hfp) 5 rfl rfl)) rfl rfl rfl rfl rfl rfl rfl (Pv ?_)
  refine Cs g_aumbry_aumbryref13_SegLen ((seglen_ok S121.le cz k (by omega) (by omega)).mono ?_)
  rintro e w136 ⟨rfl, hB135⟩
  have S137 := S121.call hB135
  refine ⟨_, rfl, (((Hp.le.refl _)).trans S137.le), ?_⟩
  refine Fl 49 ?_
  refine T_loadGP (fun _ h => h) (still_cell (hl115 _ _ (hl87 _ _ r63)) (gV_cell (shCp hky hfp) 3 rfl rfl)) rfl rfl rfl rfl rfl rfl rfl (Cs g_aumbry_aumbryref04_Length ((lengthR_ok S137.le (min (cz - ((k : Nat) : Int) * 64) 64) ck (by omega) (by omega)).mono ?_))
  rintro e w139 ⟨rfl, hB138⟩
  have S140 := S137.call hB138
  refine ⟨_, rfl, (((Hp.le.refl _)).trans S140.le), ?_⟩
  refine Pv (T_nil ?_)
  refine W_cond_not rfl (fun h141 => ?_) (fun h141 => ?_)
  ·refine Wr (Ag (cells := (qz32 : Value).cells) ?_)
   refine Ak (hl := by exact qs32) (hl2 := by exact qs32) (h1 := by exact qV_one) 1 S140 fun w142 S143 => ?_
   refine Pv (T_nil (W_ret ?_))
   refine ⟨_, ⟨_, _, _, rfl, rfl, run_loadVarA rfl rfl (qs32) (S143.cells 1 rfl), ⟨_, _, rfl, rfl, rfl⟩⟩, ?_⟩
   refine ⟨rs_no (fun hq => ?_), S143.below⟩
   obtain ⟨⟨q0, q1, q2⟩, ⟨q3, q4, q5⟩, ⟨q6, q7⟩, q8, q9, q10⟩ := hq
   first | exact h141 q0 | exact h141 q1 | exact h141 q2 | exact h141 q3 | exact h141 q4 | exact h141 q5 | exact h141 q8 | omega | exact nb_x h141 q10 | (have q11 := (q9 k (by omega)).1; omega) | exact h141 (by rw [q3, q5]; exact (q9 k (by omega)).2) | exact h141 (q9 k (by omega)).2
  refine W_skip (W_region (Ar ?_))
  refine Pv (T_nil ?_)
  have HLEN := h141
  exact ⟨B.length - (k + 1), [(2, .pointer (some ⟨b51, 0, none⟩)), (3, .pointer (some ⟨b54, 0, none⟩)), (4, .pointer (some ⟨b57, 0, none⟩)), (6, .pointer (some ⟨b80, 0, none⟩)), (74, .int .i64 ((B.length : Nat) : Int)), (75, .int .i64 ((k + 1 : Nat) : Int))], by omega, ⟨rfl, rfl, rfl, rfl, ciI, ciI, trivial⟩, k + 1, G114, rfl, (by omega), (by exact hblk.step (by omega) HLEN), rfl, hl115, S140⟩
 refine W_exit ?_
 iterate 2 refine W_seq ?_
 obtain ⟨G145, hl146, S144, r147⟩ := S117.stillBlk 0 rfl
 refine W_plan (planF Tryz.prog G145 [95, 97, 99, 103]) rfl (by kernel_rfl) S144.le ?_
 have S148 := S144.drew
 refine Fl 36 ?_
 refine T_loadGAP _ (fun _ h => h) (still_part r147 (qV_t (by rw [(uH4 _)]))) rfl rfl rfl rfl rfl rfl rfl rfl (hVs (uH5 _)) ?_
 refine Fl 1 ?_
 refine Am (still_cell r147 qV_1) ?_
 refine Fl 0 ?_
 refine T_loadGP (fun _ h => h) (still_cell (hl146 _ _ (hl115 _ _ r88)) rfl) rfl rfl rfl rfl rfl rfl rfl (T_loadGA _ S148 (still_cells (hl146 _ _ (hl115 _ _ r88))) rfl rfl rfl rfl rfl rfl rfl rfl (by first | rfl | simp [hVs, *]) ?_)
 refine Cs g_aumbry_aumbryref13_ShareLeaf ((shareLeafR_ok S148.le sn (h1.mono (hl62.trans (hl87.trans (hl115.trans hl146)))) (h2.mono (hl62.trans (hl87.trans (hl115.trans hl146)))) (h3.mono (hl62.trans (hl87.trans (hl115.trans hl146)))) (by omega) HX1).mono ?_)
 rintro e w150 ⟨rfl, hB149⟩
 have S151 := S148.call hB149
 refine ⟨_, rfl, (((Hp.le.refl _)).trans S151.le), ?_⟩
 refine Fl 2 ?_
 refine T_loadGP (fun _ h => h) (still_cell (hl146 _ _ (hl115 _ _ r88)) rfl) rfl rfl rfl rfl rfl rfl rfl (Cs g_aumbry_aumbryref07_Check ((checkR_ok S151.le (uH5 _) (uN u 1) sn (root_len (leavesH_all _ _)) (h2.mono (hl62.trans (hl87.trans (hl115.trans hl146))))).mono ?_))
 rintro e w153 ⟨rfl, hB152⟩
 have S154 := S151.call hB152
 refine ⟨_, rfl, (((Hp.le.refl _)).trans S154.le), ?_⟩
 refine Pv (T_nil ?_)
 refine W_cond rfl (fun h155 => ?_) (fun h155 => ?_)
 ·refine Wr (Ag (cells := (qz32 : Value).cells) ?_)
  refine Ak (hl := by exact qs32) (hl2 := by exact qs32) (h1 := by exact qV_one) 0 S154 fun w156 S157 => ?_
  refine Pv (T_nil (W_ret ?_))
  refine ⟨_, ⟨_, _, _, rfl, rfl, run_loadVarA rfl rfl (qs32) (S157.cells 0 rfl), ⟨_, _, rfl, rfl, rfl⟩⟩, ?_⟩
  refine ⟨rs_no (fun hq => ?_), S157.below⟩
  obtain ⟨⟨q0, q1, q2⟩, ⟨q3, q4, q5⟩, ⟨q6, q7⟩, q8, q9, q10⟩ := hq
  first | exact h155 q0 | exact h155 q1 | exact h155 q2 | exact h155 q3 | exact h155 q4 | exact h155 q5 | exact h155 q8 | omega | exact nb_x h155 q10 | (have q11 := (q9 k (by omega)).1; omega) | exact h155 (by rw [q3, q5]; exact (q9 k (by omega)).2) | exact h155 (q9 k (by omega)).2
 refine W_skip (Wr (T_loadGA _ S154 (still_cells r147) rfl rfl rfl rfl rfl rfl rfl rfl (qV_sz (q_len (uH4 _) (uH5 _) rfl)) (Ak (hl := by exact qV_sz (q_len (uH4 _) (uH5 _) rfl)) (hl2 := by exact qV_sz (q_len (uH4 _) (uH5 _) rfl)) (h1 := by exact qV_one) 0 S154 fun w158 S159 => ?_)))
 refine Pv (T_nil (W_ret ?_))
 refine ⟨_, ⟨_, _, _, rfl, rfl, run_loadVarA rfl rfl (qV_sz (q_len (uH4 _) (uH5 _) rfl)) (S159.cells 0 rfl), ⟨_, _, rfl, rfl, rfl⟩⟩, ?_⟩
 exact ⟨rs_yes ⟨⟨h90, h68, h74⟩, ⟨h93, h96, h99⟩, ⟨by omega, by omega⟩, h111, by rw [show B.length = k by omega]; exact hblk, nb_f h155⟩, S159.below⟩

end Go.Proofs.YtmjmjjkigblbgaaGreatDoor
