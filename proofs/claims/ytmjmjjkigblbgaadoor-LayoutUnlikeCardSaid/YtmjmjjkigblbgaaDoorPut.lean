/- Numbers as bytes: code.Put. -/
import Derived.Test.YtmjmjjkigblbgaaDoorRows
import Derived.Test.YtmjmjjkigblbgaaDoorFBase
import Derived.Test.YtmjmjjkigblbgaaDoorAuAll
set_option linter.unusedVariables false
set_option linter.unusedSimpArgs false
set_option maxRecDepth 8192
namespace Go.Proofs.YtmjmjjkigblbgaaDoor
open Go Go.F Go.RowKit

theorem put_succ (N j : Nat) : Go.Sha.put N (j + 1) = UInt8.ofNat (N / 256 ^ j) :: Go.Sha.put N j := rfl

theorem fdiv256 (N j : Nat) : ((N / 256 ^ j : Nat) : Int).fdiv (2 ^ (min (8 : Int).toNat IntKind.u64.bits)) = ((N / 256 ^ (j + 1) : Nat) : Int) := by
 have e : (2 : Int) ^ (min (8 : Int).toNat IntKind.u64.bits) = 256 := by decide
 rw [e, Int.fdiv_eq_ediv_of_nonneg _ (by omega), Nat.pow_succ, ← Nat.div_div_eq_div_mul]
 simp

theorem put_list (N m j : Nat) (h : j < m) : ((List.replicate (m - j) (bV 0) ++ (Go.Sha.put N j).map bV).toArray).setIfInBounds (m - 1 - j) (bV (UInt8.ofNat (N / 256 ^ j))) = (List.replicate (m - (j + 1)) (bV 0) ++ (Go.Sha.put N (j + 1)).map bV).toArray := by
 have e : m - j = (m - (j + 1)) + 1 := by omega
 rw [e, List.replicate_succ', put_succ, List.setIfInBounds_toArray, List.append_assoc, List.map_cons]
 congr 1
 have hl : (List.replicate (m - (j + 1)) (bV 0)).length = m - (j + 1) := by simp
 rw [List.set_append, if_neg (by omega), hl]
 have e2 : m - 1 - j - (m - (j + 1)) = 0 := by omega
 rw [e2]
 rfl

set_option maxHeartbeats 400000 in
theorem put_ok (z wd : Int) (w : World) (hz : z ≤ 9223372036854775807) :
  Calls Tryd.prog 48 #[.int .i64 z, .int .i64 wd] w fun e w' => ∃ v, e = .returned v ∧ w'.ownsRow w.heap.size 5 1 v (max 0 (min wd 8)).toNat ((Go.Sha.put (max 0 z).toNat (max 0 (min wd 8)).toNat).map bV) ∧ Below w.heap.size w w' := by
 obtain ⟨m, hm⟩ : ∃ m, m = (max 0 (min wd 8)).toNat := ⟨_, rfl⟩
 obtain ⟨N, hN⟩ : ∃ N, N = (max 0 z).toNat := ⟨_, rfl⟩
 have hm8 : m ≤ 8 := by omega
 have em : max 0 (min wd 8) = (m : Int) := by omega
 have eN : IntKind.u64.wrap (max 0 z) = (N : Int) := by rw [IntKind.wrap_u64]; omega
 rw [← hm, ← hN]
 clear hm hN
 refine enter2 _ Tryd.func48 rfl Tryd.ntmps48 Tryd.results48 rfl ?_
 repeat (first | refine W_seq ?_ | refine W_region ?_ | refine Wd ?_ | refine W_block ?_ | refine W_exit ?_ | refine W_skip ?_ | refine W_ret ?_ | refine T_nil ?_ | refine Ar ?_ | refine Pv ?_)
 refine T_makeB m (fun _ => trivial) rfl rfl rfl rfl rfl rfl rfl rfl rfl rfl em em (by show 1 * m ≤ _; omega) (by unfold maxLen; omega) fun b w1 hb hc hg1 => ?_
 have hc' : w1.heap[b]? = some (.cells (List.replicate (m - 0) (bV 0) ++ (Go.Sha.put N 0).map bV).toArray 5 (0, 0)) := by
  rw [hc]; congr 2
  apply Array.toList_inj.1
  show (madeCells #[bV 0] (m * 1)).toList = _
  rw [toList_madeCells_one, Nat.mul_one]
  simp [Go.Sha.put]
 clear hc
 have hB : Below w.heap.size w w1 := below_of_grown hg1
 clear hg1
 repeat (first | refine W_seq ?_ | refine W_region ?_ | refine Wd ?_ | refine W_block ?_ | refine W_exit ?_ | refine W_skip ?_ | refine W_ret ?_ | refine T_nil ?_ | refine Ar ?_ | refine Pv ?_)
 rw [eN]
 refine W_loop (fun M ρ w' => ∃ j : Nat, M = m - j ∧ j ≤ m ∧ ρ = [(5, .slice (some ⟨b, 0, none⟩) m m), (6, .int .u64 ((N / 256 ^ j : Nat) : Int)), (7, .int .i64 ((m : Int) - 1 - j))] ∧ w'.heap[b]? = some (.cells (List.replicate (m - j) (bV 0) ++ (Go.Sha.put N j).map bV).toArray 5 (0, 0)) ∧ Below w.heap.size w w')
  (m - 0) [(5, .slice (some ⟨b, 0, none⟩) m m), (6, .int .u64 (N : Int)), (7, .int .i64 ((m : Int) - 1))] ⟨rfl, rfl, rfl, trivial⟩ ⟨0, rfl, by omega, by simp, hc', hB⟩ ?_
 clear hc' hB
 rintro M ρ w2 ⟨j, rfl, hj, rfl, hc, hB⟩
 repeat (first | refine W_seq ?_ | refine W_region ?_ | refine Wd ?_ | refine W_block ?_ | refine W_exit ?_ | refine W_skip ?_ | refine W_ret ?_ | refine T_nil ?_ | refine Ar ?_ | refine Pv ?_)
 refine Aa (fun h => ?_) (fun h => ?_)
 ·have hjm : j < m := by omega
  repeat (first | refine W_seq ?_ | refine W_region ?_ | refine Wd ?_ | refine W_block ?_ | refine W_exit ?_ | refine W_skip ?_ | refine W_ret ?_ | refine T_nil ?_ | refine Ar ?_ | refine Pv ?_ | refine T_idx1 rfl rfl rfl rfl rfl rfl rfl rfl rfl (by omega) ?_)
  refine T_store1 (v := bV (UInt8.ofNat (N / 256 ^ j))) (m - 1 - j) (fun _ => trivial) rfl rfl (congrArg (fun x => some (Value.int .u8 x)) (b_wrap _)) rfl rfl rfl rfl rfl rfl rfl hc (by omega) (by simp [Go.Sha.put_len]; omega) fun w3 hc3 hg3 _ => ?_
  rw [put_list N m j hjm] at hc3
  have hB3 := hB.stepg hg3 (by omega)
  repeat (first | refine W_seq ?_ | refine W_region ?_ | refine Wd ?_ | refine W_block ?_ | refine W_exit ?_ | refine W_skip ?_ | refine W_ret ?_ | refine T_nil ?_ | refine Ar ?_ | refine Pv ?_ | refine T_shr rfl rfl rfl rfl rfl rfl (by decide) ?_)
  exact ⟨m - (j + 1), [(5, .slice (some ⟨b, 0, none⟩) m m), (6, .int .u64 ((N / 256 ^ (j + 1) : Nat) : Int)), (7, .int .i64 ((m : Int) - 1 - ((j + 1 : Nat) : Int)))], by omega, ⟨rfl, congrArg (fun x => some (Value.int .u64 x)) (fdiv256 N j), congrArg (fun x => some (Value.int .i64 x)) (by omega), trivial⟩, j + 1, rfl, by omega, rfl, hc3, hB3⟩
 ·have hjm : j = m := by omega
  subst hjm
  repeat (first | refine W_seq ?_ | refine W_region ?_ | refine Wd ?_ | refine W_block ?_ | refine W_exit ?_ | refine W_skip ?_ | refine W_ret ?_ | refine T_nil ?_ | refine Ar ?_ | refine Pv ?_)
  refine ⟨_, ⟨_, _, rfl, rfl, rfl⟩, _, rfl, ?_, hB⟩
  exact owns_of_block hc (by omega) (by unfold maxLen; omega) (by simp) (by simp [Go.Sha.put_len])

end Go.Proofs.YtmjmjjkigblbgaaDoor
