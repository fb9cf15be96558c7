/- Lengths of blocks, files. -/
import Derived.Test.YtmjmjjkigblbgaaGreatDoorRsC
import Derived.Test.YtmjmjjkigblbgaaGreatDoorLayF
import Derived.Test.YtmjmjjkigblbgaaGreatDoorMssB
import Derived.Test.YtmjmjjkigblbgaaGreatDoorAuDoor
import Derived.Test.YtmjmjjkigblbgaaGreatDoorFDoor
set_option linter.unusedVariables false
set_option linter.unusedSimpArgs false
set_option maxRecDepth 8192

namespace Go.Proofs.YtmjmjjkigblbgaaGreatDoor
open Go Go.F Go.RowKit

theorem g_aumbry_rs_Code_Length : goFn Tryz.prog 69 = true := by kernel_rfl
theorem g_aumbry_layout_length : goFn Tryz.prog 27 = true := by kernel_rfl
theorem g_aumbry_aumbryref04_Length : goFn Tryz.prog 34 = true := by kernel_rfl
theorem g_aumbry_layout_RightPiece : goFn Tryz.prog 19 = true := by kernel_rfl
theorem g_aumbry_aumbryref13_RightPiece : goFn Tryz.prog 20 = true := by kernel_rfl
theorem g_aumbry_aumbryref13_Placed : goFn Tryz.prog 55 = true := by kernel_rfl
theorem g_aumbry_aumbryref07_Check : goFn Tryz.prog 36 = true := by kernel_rfl
theorem rsNo_ok {H : Hp} {w : World} (hH : H.le (hw w)) (k : Int) (hk : ¬ (1 ≤ k ∧ k ≤ 16)) :
  Calls Tryz.prog 68 #[.int .i64 k, .int .i64 (max k 16)] w fun e w' => e = .returned (.tuple #[.pointer none, .int .i64 1]) ∧ Below w.heap.size w w' := by
 refine enter2 _ Tryz.func68 rfl Tryz.ntmps68 Tryz.results68 rfl ?_
 have S0 := St.start w hH
 refine Wr ?_
 iterate 2 refine Pv ?_
 refine T_nil ?_
 refine W_seq ?_
 refine Wr ?_
 iterate 3 refine Pv ?_
 refine T_part (t := 13) rfl (List.cons_ne_nil _ _) (fun h1' => ?_) (fun h1' => ?_)
 ·have h1 := of_decide_eq_true h1'
  iterate 3 refine No ?_
  iterate 2 refine Pv ?_
  iterate 2 refine No ?_
  refine Pv ?_
  refine T_nil ?_
  refine W_cond_true rfl ?_
  refine Wr ?_
  iterate 2 refine Pv ?_
  refine T_nil ?_
  refine W_ret ?_
  refine ⟨_, ⟨_, _, rfl, rfl, ⟨_, _, rfl, rfl, rfl⟩⟩, ?_⟩
  exact ⟨rfl, S0.below⟩
 have h1 := of_decide_eq_false h1'
 iterate 3 (refine Ys ?_; refine Pv ?_)
 iterate 2 refine Pv ?_
 refine T_part (t := 18) rfl (List.cons_ne_nil _ _) (fun h2' => ?_) (fun h2' => ?_)
 ·have h2 := of_decide_eq_true h2'
  iterate 2 refine No ?_
  refine Pv ?_
  refine T_nil ?_
  refine W_cond_true rfl ?_
  refine Wr ?_
  iterate 2 refine Pv ?_
  refine T_nil ?_
  refine W_ret ?_
  refine ⟨_, ⟨_, _, rfl, rfl, ⟨_, _, rfl, rfl, rfl⟩⟩, ?_⟩
  exact ⟨rfl, S0.below⟩
 have h2 := of_decide_eq_false h2'
 iterate 2 (refine Ys ?_; refine Pv ?_)
 refine Pv ?_
 refine T_nil ?_
 refine W_bool 21 true rfl (decide_eq_true (by omega)) ?_
 refine W_cond_true rfl ?_
 refine Wr ?_
 iterate 2 refine Pv ?_
 refine T_nil ?_
 refine W_ret ?_
 refine ⟨_, ⟨_, _, rfl, rfl, ⟨_, _, rfl, rfl, rfl⟩⟩, ?_⟩
 exact ⟨rfl, S0.below⟩


theorem rsYes_ok {H : Hp} {w : World} (hH : H.le (hw w)) (k : Int) (hk : 1 ≤ k ∧ k ≤ 16) :
  Calls Tryz.prog 68 #[.int .i64 k, .int .i64 (max k 16)] w fun e w' => ∃ b, e = .returned (.tuple #[.pointer (some ⟨b, 0, none⟩), .int .i64 0]) ∧ hcell (F.ext H w.heap.size w') b 0 = some (.int .i64 k) ∧ Below w.heap.size w w' := by
 have ek : ((k.toNat : Nat) : Int) = k := Int.toNat_of_nonneg (by omega)
 have em : max k 16 = ((16 : Nat) : Int) := by omega
 have h := rsnew_w (Wk.start hH) k.toNat 16 (by omega) (by omega)
 rw [ek] at h
 rw [em]
 refine h.mono fun e w' ⟨B', _, C, b, v, he, hc, hb⟩ => ⟨b, he, ?_, C.below⟩
 have e : F.ext H w.heap.size w' b = w'.heap[b]? := if_pos hb
 unfold hcell
 rw [e, hc]
 rfl

theorem rsLen_ok {H : Hp} {w : World} (hH : H.le (hw w)) (k z : Int) (hk : 1 ≤ k ∧ k ≤ 16) (hz : z ≤ 9223372036854775807) {rb : Nat} (hrb : hcell H rb 0 = some (.int .i64 k)) :
  Calls Tryz.prog 69 #[.pointer (some ⟨rb, 0, none⟩), .int .i64 z] w fun e w' => e = .returned (.int .i64 (Go.Au.lenV k z)) ∧ Below w.heap.size w w' := by
 refine enter2 _ Tryz.func69 rfl Tryz.ntmps69 Tryz.results69 rfl ?_
 have S0 := St.start w hH
 refine Wr ?_
 refine Pv ?_
 refine T_nil ?_
 refine W_seq ?_
 refine Wr ?_
 iterate 2 refine Pv ?_
 refine T_nil ?_
 refine W_cond_dec rfl (fun h1 => ?_) (fun h1 => ?_)
 ·refine Wr ?_
  refine Pv ?_
  refine T_nil ?_
  refine W_ret ?_
  refine ⟨_, ⟨_, _, rfl, rfl, rfl⟩, ?_⟩
  exact ⟨by rw [Go.Au.lenV_zero (by omega) (by omega)]; rfl, S0.below⟩
 refine W_skip ?_
 refine Wr ?_
 refine Pv ?_
 refine Ar ?_
 iterate 2 refine Pv ?_
 refine Fl 0 ?_
 have hdb := Go.Au.div_bd hk.1 (z := z) (by omega)
 refine T_loadG S0 hrb rfl rfl rfl rfl rfl rfl rfl ?_
 refine T_quo rfl rfl rfl rfl rfl rfl (by omega) ?_
 refine Ar ?_
 refine Pv ?_
 refine T_nil ?_
 refine W_ret ?_
 refine ⟨_, ⟨_, _, rfl, rfl, rfl⟩, ?_⟩
 exact ⟨by rw [Go.Au.lenV_pos (by omega) (by omega)]; rfl, S0.below⟩


theorem lengthA_ok {H : Hp} {w : World} (hH : H.le (hw w)) (k z : Int) (hz : z ≤ 9223372036854775807) (hk : 1 ≤ k ∧ k ≤ 16) :
  Calls Tryz.prog 27 #[.int .i64 k, .int .i64 z] w fun e w' => e = .returned (.int .i64 (Go.Au.lenV k z)) ∧ Below w.heap.size w w' := by
 refine enter2 _ Tryz.func27 rfl Tryz.ntmps27 Tryz.results27 rfl ?_
 have S0 := St.start w hH
 refine Wr ?_
 refine Pv ?_
 refine T_nil ?_
 refine Wr ?_
 iterate 3 refine Pv ?_
 refine Cs g_aumbry_rs_New ((rsYes_ok S0.le k hk).mono ?_)
 rintro e w4 ⟨b1, rfl, r2, hB3⟩
 obtain ⟨G6, eG8⟩ : ∃ G, G = F.ext H w.heap.size w4 := ⟨_, rfl⟩
 obtain ⟨hl7, S5⟩ := S0.ext hB3
 rw [← eG8] at hl7 S5 r2
 refine ⟨_, rfl, trivial, ?_⟩
 iterate 5 refine Pv ?_
 refine T_nil ?_
 refine W_seq ?_
 refine W_block ?_
 refine Wr ?_
 iterate 3 refine Pv ?_
 refine T_nil ?_
 refine W_bool 14 true rfl (decide_eq_true (by omega)) ?_
 refine W_cond_true rfl ?_
 refine Wr ?_
 iterate 2 refine Pv ?_
 refine Cs g_aumbry_rs_Code_Length ((rsLen_ok S5.le k z hk (by omega) r2).mono ?_)
 rintro e w10 ⟨rfl, hB9⟩
 have S11 := S5.call hB9
 refine ⟨_, rfl, trivial, ?_⟩
 refine Pv ?_
 refine T_nil ?_
 refine W_ret ?_
 refine ⟨_, ⟨_, _, rfl, rfl, rfl⟩, ?_⟩
 exact ⟨rfl, S11.below⟩


theorem lengthB_ok {H : Hp} {w : World} (hH : H.le (hw w)) (k z : Int) (hz : z ≤ 9223372036854775807) (hk : ¬ (1 ≤ k ∧ k ≤ 16)) :
  Calls Tryz.prog 27 #[.int .i64 k, .int .i64 z] w fun e w' => e = .returned (.int .i64 (Go.Au.lenV k z)) ∧ Below w.heap.size w w' := by
 refine enter2 _ Tryz.func27 rfl Tryz.ntmps27 Tryz.results27 rfl ?_
 have S0 := St.start w hH
 refine Wr ?_
 refine Pv ?_
 refine T_nil ?_
 refine Wr ?_
 iterate 3 refine Pv ?_
 refine Cs g_aumbry_rs_New ((rsNo_ok S0.le k hk).mono ?_)
 rintro e w2 ⟨rfl, hB1⟩
 have S3 := S0.call hB1
 refine ⟨_, rfl, trivial, ?_⟩
 iterate 5 refine Pv ?_
 refine T_nil ?_
 refine W_seq ?_
 refine W_block ?_
 refine Wr ?_
 iterate 3 refine Pv ?_
 refine T_nil ?_
 refine W_bool 14 false rfl (decide_eq_false (by omega)) ?_
 refine W_cond_false rfl ?_
 refine Wr ?_
 iterate 3 refine Pv ?_
 refine T_nil ?_
 refine W_cond_dec rfl (fun h4 => ?_) (fun h4 => ?_)
 ·refine Wr ?_
  refine Pv ?_
  refine T_nil ?_
  refine W_ret ?_
  refine ⟨_, ⟨_, _, rfl, rfl, rfl⟩, ?_⟩
  exact ⟨by rw [Go.Au.lenV_neg (by omega)]; rfl, S3.below⟩
 refine Wr ?_
 iterate 3 refine Pv ?_
 refine T_nil ?_
 refine W_cond_dec rfl (fun h5 => ?_) (fun h5 => ?_)
 ·refine Wr ?_
  refine Pv ?_
  refine T_nil ?_
  refine W_ret ?_
  refine ⟨_, ⟨_, _, rfl, rfl, rfl⟩, ?_⟩
  exact ⟨by rw [Go.Au.lenV_zero (by omega) (by omega)]; rfl, S3.below⟩
 refine W_skip ?_
 refine Wr ?_
 refine Pv ?_
 refine Ar ?_
 refine Pv ?_
 have hdb := Go.Au.div_bd (k := k) (z := z) (by omega) (by omega)
 refine T_quo rfl rfl rfl rfl rfl rfl (by omega) ?_
 refine Ar ?_
 refine Pv ?_
 refine T_nil ?_
 refine W_ret ?_
 refine ⟨_, ⟨_, _, rfl, rfl, rfl⟩, ?_⟩
 exact ⟨by rw [Go.Au.lenV_pos (by omega) (by omega)]; rfl, S3.below⟩


theorem length_ok {H : Hp} {w : World} (hH : H.le (hw w)) (k z : Int) (hz : z ≤ 9223372036854775807) :
  Calls Tryz.prog 27 #[.int .i64 k, .int .i64 z] w fun e w' => e = .returned (.int .i64 (Go.Au.lenV k z)) ∧ Below w.heap.size w w' := by
 by_cases hk : 1 ≤ k ∧ k ≤ 16
 ·exact lengthA_ok hH k z hz hk
 ·exact lengthB_ok hH k z hz hk

theorem lengthR_ok {H : Hp} {w : World} (hH : H.le (hw w)) (z k : Int) (hz : z ≤ 9223372036854775807) (hk : 1 ≤ k) :
  Calls Tryz.prog 34 #[.int .i64 z, .int .i64 k] w fun e w' => e = .returned (.int .i64 (Go.Au.lenV k z)) ∧ Below w.heap.size w w' := by
 refine enter2 _ Tryz.func34 rfl Tryz.ntmps34 Tryz.results34 rfl ?_
 have S0 := St.start w hH
 refine Wr ?_
 refine Pv ?_
 refine T_nil ?_
 refine W_seq ?_
 refine Wr ?_
 iterate 2 refine Pv ?_
 refine T_nil ?_
 refine W_cond_dec rfl (fun h1 => ?_) (fun h1 => ?_)
 ·refine Wr ?_
  refine Pv ?_
  refine T_nil ?_
  refine W_ret ?_
  refine ⟨_, ⟨_, _, rfl, rfl, rfl⟩, ?_⟩
  exact ⟨by rw [Go.Au.lenV_zero (by omega) (by omega)]; rfl, S0.below⟩
 refine W_skip ?_
 refine Wr ?_
 refine Pv ?_
 refine Ar ?_
 refine Pv ?_
 have hdb := Go.Au.div_bd hk (z := z) (by omega)
 refine T_quo rfl rfl rfl rfl rfl rfl (by omega) ?_
 refine Ar ?_
 refine Pv ?_
 refine T_nil ?_
 refine W_ret ?_
 refine ⟨_, ⟨_, _, rfl, rfl, rfl⟩, ?_⟩
 exact ⟨by rw [Go.Au.lenV_pos (by omega) (by omega)]; rfl, S0.below⟩


end Go.Proofs.YtmjmjjkigblbgaaGreatDoor
