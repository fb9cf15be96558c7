/- The document's own SHA-256: what aumbryref01.Sum computes. -/
import Derived.Test.YtmjmjjkigblbgaaDoorShaE
import Derived.Test.YtmjmjjkigblbgaaDoorFBase
set_option linter.unusedVariables false
set_option linter.unusedSimpArgs false
set_option maxRecDepth 8192

namespace Go.Proofs.YtmjmjjkigblbgaaDoor
open Go Go.F Go.RowKit

set_option maxHeartbeats 1000000 in
/-- 'n % 256', 'n / 256', width times: the same bytes as Put's. -/
theorem rputZ_ok (z : Int) (N m : Nat) (w : World) (hz : z ≤ 9223372036854775807) (hNz : N = (max 0 z).toNat) (hm8 : 0 < m ∧ m ≤ 8) :
    Calls Tryd.prog 50 #[.int .i64 z, .int .i64 (m : Int)] w fun e w' => ∃ v, e = .returned v ∧ w'.ownsRow w.heap.size 5 1 v m ((Go.Sha.put N m).map bV) ∧ Below w.heap.size w w' := by
  have hN : N ≤ 9223372036854775807 := by omega
  have em : min (max (m : Int) 0) 8 = (m : Int) := by omega
  refine enter2 _ Tryd.func50 rfl Tryd.ntmps50 Tryd.results50 rfl ?_
  repeat (first | refine W_seq ?_ | refine W_region ?_ | refine W_draw rfl (by kernel_rfl) ?_ | refine W_block ?_ | refine W_exit ?_ | refine W_skip ?_ | refine W_ret ?_ | refine T_nil ?_ | refine T_ari rfl rfl rfl rfl (by omega) ?_ | refine T_pev rfl rfl rfl rfl ?_)
  refine W_cond_dec rfl (fun h => ?_) (fun h => ?_)
  all_goals
    repeat (first | refine W_seq ?_ | refine W_region ?_ | refine W_draw rfl (by kernel_rfl) ?_ | refine W_block ?_ | refine W_exit ?_ | refine W_skip ?_ | refine W_ret ?_ | refine T_nil ?_ | refine T_ari rfl rfl rfl rfl (by omega) ?_ | refine T_pev rfl rfl rfl rfl ?_)
    rw [em]
    refine T_makeB m (fun _ => trivial) rfl rfl rfl rfl rfl rfl rfl rfl rfl rfl rfl rfl (by show 1 * m ≤ _; omega) (by unfold maxLen; omega) fun b w1 hb hc hg1 => ?_
    have hc' : w1.heap[b]? = some (.cells (List.replicate (m - 0) (bV 0) ++ (Go.Sha.put N 0).map bV).toArray 5 (0, 0)) := by
      rw [hc]; congr 2
      apply Array.toList_inj.1
      show (madeCells #[bV 0] (m * 1)).toList = _
      rw [toList_madeCells_one, Nat.mul_one]
      simp [Go.Sha.put]
    clear hc
    have hB : Below w.heap.size w w1 := below_of_grown hg1
    clear hg1
    repeat (first | refine W_seq ?_ | refine W_region ?_ | refine W_draw rfl (by kernel_rfl) ?_ | refine W_block ?_ | refine W_exit ?_ | refine W_skip ?_ | refine W_ret ?_ | refine T_nil ?_ | refine T_ari rfl rfl rfl rfl (by omega) ?_ | refine T_pev rfl rfl rfl rfl ?_)
    refine W_loop (fun M ρ w' => ∃ j : Nat, M = m - j ∧ j ≤ m ∧ ρ = [(0, .int .i64 ((N / 256 ^ j : Nat) : Int)), (5, .slice (some ⟨b, 0, none⟩) m m), (6, .int .i64 ((m : Int) - 1 - j))] ∧ w'.heap[b]? = some (.cells (List.replicate (m - j) (bV 0) ++ (Go.Sha.put N j).map bV).toArray 5 (0, 0)) ∧ Below w.heap.size w w')
      (m - 0) [(0, .int .i64 (N : Int)), (5, .slice (some ⟨b, 0, none⟩) m m), (6, .int .i64 ((m : Int) - 1))] ⟨congrArg (fun x => some (Value.int .i64 x)) (by omega), rfl, rfl, trivial⟩ ⟨0, rfl, by omega, by simp, hc', hB⟩ ?_
    clear hc' hB
    rintro M ρ w2 ⟨j, rfl, hj, rfl, hc, hB⟩
    repeat (first | refine W_seq ?_ | refine W_region ?_ | refine W_draw rfl (by kernel_rfl) ?_ | refine W_block ?_ | refine W_exit ?_ | refine W_skip ?_ | refine W_ret ?_ | refine T_nil ?_ | refine T_ari rfl rfl rfl rfl (by omega) ?_ | refine T_pev rfl rfl rfl rfl ?_)
    refine W_cond_dec rfl (fun h => ?_) (fun h => ?_)
    · have hjm : j < m := by omega
      have hNj : ((N / 256 ^ j : Nat) : Int) ≤ 9223372036854775807 := by have := Nat.div_le_self N (256 ^ j); omega
      have hmod : IntKind.u8.wrap (((N / 256 ^ j : Nat) : Int) % 256) = ((UInt8.ofNat (N / 256 ^ j)).toNat : Int) := by
        rw [← b_wrap, IntKind.wrap_u8, IntKind.wrap_u8]; omega
      have hdiv : ((N / 256 ^ j : Nat) : Int) / 256 = ((N / 256 ^ (j + 1) : Nat) : Int) := by
        rw [Nat.pow_succ, ← Nat.div_div_eq_div_mul]; simp
      repeat (first | refine W_seq ?_ | refine W_region ?_ | refine W_draw rfl (by kernel_rfl) ?_ | refine W_block ?_ | refine W_exit ?_ | refine W_skip ?_ | refine W_ret ?_ | refine T_nil ?_ | refine T_ari rfl rfl rfl rfl (by omega) ?_ | refine T_pev rfl rfl rfl rfl ?_ | refine T_rem rfl rfl rfl rfl rfl rfl ⟨Int.natCast_nonneg _, by decide⟩ ?_ | refine T_idx1 rfl rfl rfl rfl rfl rfl rfl rfl rfl (by omega) ?_)
      refine T_store1 (v := bV (UInt8.ofNat (N / 256 ^ j))) (m - 1 - j) (fun _ => trivial) rfl rfl (congrArg (fun x => some (Value.int .u8 x)) hmod) rfl rfl rfl rfl rfl rfl rfl hc (by omega) (by simp [Go.Sha.put_len]; omega) fun w3 hc3 hg3 _ => ?_
      rw [put_list N m j hjm] at hc3
      have hB3 := hB.stepg hg3 (by omega)
      repeat (first | refine W_seq ?_ | refine W_region ?_ | refine W_draw rfl (by kernel_rfl) ?_ | refine W_block ?_ | refine W_exit ?_ | refine W_skip ?_ | refine W_ret ?_ | refine T_nil ?_ | refine T_ari rfl rfl rfl rfl (by omega) ?_ | refine T_pev rfl rfl rfl rfl ?_ | refine T_quo rfl rfl rfl rfl rfl rfl ⟨Int.natCast_nonneg _, by decide, hNj⟩ ?_)
      exact ⟨m - (j + 1), [(0, .int .i64 ((N / 256 ^ (j + 1) : Nat) : Int)), (5, .slice (some ⟨b, 0, none⟩) m m), (6, .int .i64 ((m : Int) - 1 - ((j + 1 : Nat) : Int)))], by omega, ⟨congrArg (fun x => some (Value.int .i64 x)) hdiv, rfl, congrArg (fun x => some (Value.int .i64 x)) (by omega), trivial⟩, j + 1, rfl, by omega, rfl, hc3, hB3⟩
    · have hjm : j = m := by omega
      subst hjm
      repeat (first | refine W_seq ?_ | refine W_region ?_ | refine W_draw rfl (by kernel_rfl) ?_ | refine W_block ?_ | refine W_exit ?_ | refine W_skip ?_ | refine W_ret ?_ | refine T_nil ?_ | refine T_ari rfl rfl rfl rfl (by omega) ?_ | refine T_pev rfl rfl rfl rfl ?_)
      refine ⟨_, ⟨_, _, rfl, rfl, rfl⟩, _, rfl, ?_, hB⟩
      exact owns_of_block hc (by omega) (by unfold maxLen; omega) (by simp) (by simp [Go.Sha.put_len])


end Go.Proofs.YtmjmjjkigblbgaaDoor
