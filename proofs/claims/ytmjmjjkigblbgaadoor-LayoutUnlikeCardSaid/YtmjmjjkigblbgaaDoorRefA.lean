/- The document's own SHA-256: what aumbryref01.Sum computes. -/
import Derived.Test.YtmjmjjkigblbgaaDoorShaE
import Derived.Test.YtmjmjjkigblbgaaDoorFBase
set_option linter.unusedVariables false
set_option linter.unusedSimpArgs false
set_option maxRecDepth 8192

namespace Go.Proofs.YtmjmjjkigblbgaaDoor
open Go Go.F Go.RowKit

theorem g_turn : goFn Tryd.prog 100 = true := by kernel_rfl
theorem i_turn : Tryd.prog.inits.idxOf? 100 = none := by kernel_rfl
theorem g_rounds : goFn Tryd.prog 99 = true := by kernel_rfl
theorem g_rput : goFn Tryd.prog 50 = true := by kernel_rfl

theorem turn_ok (a : BitVec 32) (k : Nat) (w : World) (hk : 0 < k ∧ k < 32) : Calls Tryd.prog 100 #[wV a, .int .u64 (k : Int)] w fun e w' => e = .returned (wV (Go.Sha.rotr a k)) ∧ w' = w := by
 have h2 : IntKind.u64.wrap (32 - (k : Int)) = ((32 - k : Nat) : Int) := by rw [IntKind.wrap_u64]; omega
 refine enter2 _ Tryd.func100 rfl Tryd.ntmps100 Tryd.results100 rfl ?_
 repeat (first | refine W_seq ?_ | refine W_region ?_ | refine Wd ?_ | refine W_block ?_ | refine W_exit ?_ | refine W_skip ?_ | refine W_ret ?_ | refine T_nil ?_ | refine T_w rfl rfl rfl rfl rfl rfl rfl ?_ | refine T_wb rfl rfl rfl rfl rfl rfl rfl ?_ | refine T_wnot rfl rfl rfl rfl rfl ?_ | refine T_wshl rfl rfl rfl rfl rfl rfl rfl ?_ | refine T_wshr rfl rfl rfl rfl rfl rfl rfl ?_ | refine Ar ?_ | refine Pv ?_ | refine T_wshlv (q := 32 - k) rfl rfl rfl h2 (by omega) rfl rfl rfl ?_ | refine T_wshrv (q := k) rfl rfl rfl rfl (by omega) rfl rfl rfl ?_)
 exact ⟨_, ⟨_, _, rfl, rfl, rfl⟩, rfl, rfl⟩

set_option maxRecDepth 100000 in
theorem rounds_ok (w : World) : Calls Tryd.prog 99 #[] w fun e w' => e = .returned (.agg (W8 Go.Sha.table)) ∧ Below w.heap.size w w' := by
 refine enter0 _ Tryd.func99 rfl Tryd.ntmps99 Tryd.results99 ?_
 repeat (first | refine W_seq ?_ | refine W_region ?_ | refine Wd ?_ | refine W_block ?_ | refine W_exit ?_ | refine W_skip ?_ | refine W_ret ?_ | refine T_nil ?_ | refine Ar ?_ | refine Pv ?_)
 refine T_alloc (fun _ => trivial) rfl rfl rfl rfl rfl rfl rfl fun b w1 hb hc hg => ?_
 repeat (first | refine W_seq ?_ | refine W_region ?_ | refine Wd ?_ | refine W_block ?_ | refine W_exit ?_ | refine W_skip ?_ | refine W_ret ?_ | refine T_nil ?_ | refine Ar ?_ | refine Pv ?_ | refine T_buildA1 rfl rfl rfl rfl rfl rfl rfl rfl rfl rfl rfl rfl rfl ?_)
 refine T_storeF (v := .agg (W8 Go.Sha.table)) (fun _ => trivial) rfl rfl rfl rfl rfl rfl rfl hc rfl rfl rfl (one_wV _) fun w2 hc2 hg2 _ => ?_
 repeat (first | refine W_seq ?_ | refine W_region ?_ | refine Wd ?_ | refine W_block ?_ | refine W_exit ?_ | refine W_skip ?_ | refine W_ret ?_ | refine T_nil ?_ | refine Ar ?_ | refine Pv ?_)
 refine ⟨_, ⟨_, _, _, rfl, rfl, run_loadVarA (cs := W8 Go.Sha.table) rfl rfl rfl ?_, rfl⟩, rfl, (below_of_grown hg).stepg hg2 (by omega)⟩
 exact blk_cells hc2

set_option maxHeartbeats 1000000 in
theorem rputZ_ok (z : Int) (N m : Nat) (w : World) (hz : z ≤ 9223372036854775807) (hNz : N = (max 0 z).toNat) (hm8 : 0 < m ∧ m ≤ 8) :
  Calls Tryd.prog 50 #[.int .i64 z, .int .i64 (m : Int)] w fun e w' => ∃ v, e = .returned v ∧ w'.ownsRow w.heap.size 5 1 v m ((Go.Sha.put N m).map bV) ∧ Below w.heap.size w w' := by
 have hN : N ≤ 9223372036854775807 := by omega
 have em : min (max (m : Int) 0) 8 = (m : Int) := by omega
 refine enter2 _ Tryd.func50 rfl Tryd.ntmps50 Tryd.results50 rfl ?_
 repeat (first | refine W_seq ?_ | refine W_region ?_ | refine Wd ?_ | refine W_block ?_ | refine W_exit ?_ | refine W_skip ?_ | refine W_ret ?_ | refine T_nil ?_ | refine Ar ?_ | refine Pv ?_)
 refine Aa (fun h => ?_) (fun h => ?_)
 all_goals
  repeat (first | refine W_seq ?_ | refine W_region ?_ | refine Wd ?_ | refine W_block ?_ | refine W_exit ?_ | refine W_skip ?_ | refine W_ret ?_ | refine T_nil ?_ | refine Ar ?_ | refine Pv ?_)
  rw [em]
  refine T_makeB m (fun _ => trivial) rfl rfl rfl rfl rfl rfl rfl rfl rfl rfl rfl rfl (by show 1 * m ≤ _; omega) (by unfold maxLen; omega) fun b w1 hb hc hg1 => ?_
  have hc' : w1.heap[b]? = some (.cells (List.replicate (m - 0) (bV 0) ++ (Go.Sha.put N 0).map bV).toArray 5 (0, 0)) := by
   rw [hc]; congr 2
   apply Array.toList_inj.1
   show (madeCells #[bV 0] (m * 1)).toList = _
   rw [toList_madeCells_one, Nat.mul_one]
   simp [Go.Sha.put]
  clear hc
  have hB : Below w.heap.size w w1 := below_of_grown hg1
  clear hg1
  repeat (first | refine W_seq ?_ | refine W_region ?_ | refine Wd ?_ | refine W_block ?_ | refine W_exit ?_ | refine W_skip ?_ | refine W_ret ?_ | refine T_nil ?_ | refine Ar ?_ | refine Pv ?_)
  refine W_loop (fun M ρ w' => ∃ j : Nat, M = m - j ∧ j ≤ m ∧ ρ = [(0, .int .i64 ((N / 256 ^ j : Nat) : Int)), (5, .slice (some ⟨b, 0, none⟩) m m), (6, .int .i64 ((m : Int) - 1 - j))] ∧ w'.heap[b]? = some (.cells (List.replicate (m - j) (bV 0) ++ (Go.Sha.put N j).map bV).toArray 5 (0, 0)) ∧ Below w.heap.size w w')
   (m - 0) [(0, .int .i64 (N : Int)), (5, .slice (some ⟨b, 0, none⟩) m m), (6, .int .i64 ((m : Int) - 1))] ⟨congrArg (fun x => some (Value.int .i64 x)) (by omega), rfl, rfl, trivial⟩ ⟨0, rfl, by omega, by simp, hc', hB⟩ ?_
  clear hc' hB
  rintro M ρ w2 ⟨j, rfl, hj, rfl, hc, hB⟩
  repeat (first | refine W_seq ?_ | refine W_region ?_ | refine Wd ?_ | refine W_block ?_ | refine W_exit ?_ | refine W_skip ?_ | refine W_ret ?_ | refine T_nil ?_ | refine Ar ?_ | refine Pv ?_)
  refine Aa (fun h => ?_) (fun h => ?_)
  ·have hjm : j < m := by omega
   have hNj : ((N / 256 ^ j : Nat) : Int) ≤ 9223372036854775807 := by have := Nat.div_le_self N (256 ^ j); omega
   have hmod : IntKind.u8.wrap (((N / 256 ^ j : Nat) : Int) % 256) = ((UInt8.ofNat (N / 256 ^ j)).toNat : Int) := by
    rw [← b_wrap, IntKind.wrap_u8, IntKind.wrap_u8]; omega
   have hdiv : ((N / 256 ^ j : Nat) : Int) / 256 = ((N / 256 ^ (j + 1) : Nat) : Int) := by
    rw [Nat.pow_succ, ← Nat.div_div_eq_div_mul]; simp
   repeat (first | refine W_seq ?_ | refine W_region ?_ | refine Wd ?_ | refine W_block ?_ | refine W_exit ?_ | refine W_skip ?_ | refine W_ret ?_ | refine T_nil ?_ | refine Ar ?_ | refine Pv ?_ | refine T_rem rfl rfl rfl rfl rfl rfl ⟨Int.natCast_nonneg _, by decide⟩ ?_ | refine T_idx1 rfl rfl rfl rfl rfl rfl rfl rfl rfl (by omega) ?_)
   refine T_store1 (v := bV (UInt8.ofNat (N / 256 ^ j))) (m - 1 - j) (fun _ => trivial) rfl rfl (congrArg (fun x => some (Value.int .u8 x)) hmod) rfl rfl rfl rfl rfl rfl rfl hc (by omega) (by simp [Go.Sha.put_len]; omega) fun w3 hc3 hg3 _ => ?_
   rw [put_list N m j hjm] at hc3
   have hB3 := hB.stepg hg3 (by omega)
   repeat (first | refine W_seq ?_ | refine W_region ?_ | refine Wd ?_ | refine W_block ?_ | refine W_exit ?_ | refine W_skip ?_ | refine W_ret ?_ | refine T_nil ?_ | refine Ar ?_ | refine Pv ?_ | refine T_quo rfl rfl rfl rfl rfl rfl ⟨Int.natCast_nonneg _, by decide, hNj⟩ ?_)
   exact ⟨m - (j + 1), [(0, .int .i64 ((N / 256 ^ (j + 1) : Nat) : Int)), (5, .slice (some ⟨b, 0, none⟩) m m), (6, .int .i64 ((m : Int) - 1 - ((j + 1 : Nat) : Int)))], by omega, ⟨congrArg (fun x => some (Value.int .i64 x)) hdiv, rfl, congrArg (fun x => some (Value.int .i64 x)) (by omega), trivial⟩, j + 1, rfl, by omega, rfl, hc3, hB3⟩
  ·have hjm : j = m := by omega
   subst hjm
   repeat (first | refine W_seq ?_ | refine W_region ?_ | refine Wd ?_ | refine W_block ?_ | refine W_exit ?_ | refine W_skip ?_ | refine W_ret ?_ | refine T_nil ?_ | refine Ar ?_ | refine Pv ?_)
   refine ⟨_, ⟨_, _, rfl, rfl, rfl⟩, _, rfl, ?_, hB⟩
   exact owns_of_block hc (by omega) (by unfold maxLen; omega) (by simp) (by simp [Go.Sha.put_len])


theorem rput_ok (N m : Nat) (w : World) (hN : N ≤ 9223372036854775807) (hm8 : 0 < m ∧ m ≤ 8) :
  Calls Tryd.prog 50 #[.int .i64 (N : Int), .int .i64 (m : Int)] w fun e w' => ∃ v, e = .returned v ∧ w'.ownsRow w.heap.size 5 1 v m ((Go.Sha.put N m).map bV) ∧ Below w.heap.size w w' :=
 rputZ_ok N N m w (by omega) (by omega) hm8

end Go.Proofs.YtmjmjjkigblbgaaDoor
