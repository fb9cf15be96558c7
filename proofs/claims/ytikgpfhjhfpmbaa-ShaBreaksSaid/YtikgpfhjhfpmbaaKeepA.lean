/- The helps of the statements: Lend, Intact, Copy. -/
import Derived.Test.YtikgpfhjhfpmbaaShaE
import Derived.Test.YtikgpfhjhfpmbaaFKeep
set_option linter.unusedVariables false
namespace Go.Proofs.Ytikgpfhjhfpmbaa
open Go Go.F Go.RowKit

theorem g_lend : goFn Try.prog 15 = true := by kernel_rfl
theorem g_intact : goFn Try.prog 17 = true := by kernel_rfl

theorem lend_set (b : List UInt8) (k : Nat) (hk : k < 3) : ((b ++ List.replicate k 0x55 ++ List.replicate (3 - k) (0 : UInt8)).map bV).toArray.setIfInBounds (b.length + k) (bV 0x55) = ((b ++ List.replicate (k + 1) 0x55 ++ List.replicate (3 - (k + 1)) (0 : UInt8)).map bV).toArray := by
  have e : 3 - k = (3 - (k + 1)) + 1 := by omega
  rw [e, List.replicate_succ, List.replicate_succ', List.setIfInBounds_toArray]
  congr 1
  simp only [List.map_append, List.map_cons, List.append_assoc]
  have hl : (b.map bV).length = b.length := by simp
  have hk' : ((List.replicate k (0x55 : UInt8)).map bV).length = k := by simp
  rw [List.set_append, if_neg (by omega), hl, Nat.add_sub_cancel_left, List.set_append, if_neg (by omega), hk', Nat.sub_self]
  rfl

set_option maxHeartbeats 1000000 in
theorem lend_ok (b : List UInt8) (v : Value) (w : World) (hv : Rd (hw w) v b.length 1 (b.map bV)) (hl : b.length ≤ 1000000000) :
    Calls Try.prog 15 #[v] w fun e w' => ∃ g, e = .returned (.slice (some ⟨g, 0, none⟩) b.length (b.length + 3)) ∧ w.heap.size ≤ g ∧ w'.heap[g]? = some (.cells ((b ++ [0x55, 0x55, 0x55]).map bV).toArray 5 (0, 0)) ∧ Below w.heap.size w w' := by
  obtain ⟨va, vc, rfl, _⟩ := hv.shape
  refine enter1 _ Try.func15 rfl Try.ntmps15 Try.results15 rfl ?_
  repeat (first | refine W_seq ?_ | refine W_region ?_ | refine W_draw rfl (by kernel_rfl) ?_ | refine W_block ?_ | refine W_exit ?_ | refine W_skip ?_ | refine W_ret ?_ | refine T_nil ?_ | refine T_ari rfl rfl rfl rfl (by omega) ?_ | refine T_pev rfl rfl rfl rfl ?_)
  refine T_makeC b.length (b.length + 3) (fun _ => trivial) rfl rfl rfl rfl rfl rfl rfl rfl rfl rfl rfl (by omega) (by omega) (by show 1 * _ ≤ _; omega) (by unfold maxLen; omega) fun g w1 hg hc hg1 => ?_
  have hB : Below w.heap.size w w1 := below_of_grown hg1
  have hc' : w1.heap[g]? = some (.cells (List.replicate (b.length + 3) (bV 0)).toArray 5 (0, 0)) := by
    rw [hc]; congr 2
    apply Array.toList_inj.1
    show (madeCells #[bV 0] ((b.length + 3) * 1)).toList = _
    rw [toList_madeCells_one, Nat.mul_one]
  clear hc hg1
  repeat (first | refine W_seq ?_ | refine W_region ?_ | refine W_draw rfl (by kernel_rfl) ?_ | refine W_block ?_ | refine W_exit ?_ | refine W_skip ?_ | refine W_ret ?_ | refine T_nil ?_ | refine T_ari rfl rfl rfl rfl (by omega) ?_ | refine T_pev rfl rfl rfl rfl ?_)
  refine T_copyR (fun _ => trivial) rfl rfl rfl rfl rfl rfl rfl rfl rfl rfl hc' (hv.below hB) (Nat.le_refl _) (by simp) (one_bV _) fun w2 hc2 hg2 _ => ?_
  have e2 : ((List.replicate (b.length + 3) (bV 0)).toArray.toList.take 0 ++ b.map bV ++ (List.replicate (b.length + 3) (bV 0)).toArray.toList.drop (0 + (b.map bV).length)).toArray = ((b ++ List.replicate 0 0x55 ++ List.replicate (3 - 0) (0 : UInt8)).map bV).toArray := by
    simp
  rw [e2] at hc2
  replace hB := hB.stepg hg2 (by omega)
  clear hc' hg2 e2
  repeat (first | refine W_seq ?_ | refine W_region ?_ | refine W_draw rfl (by kernel_rfl) ?_ | refine W_block ?_ | refine W_exit ?_ | refine W_skip ?_ | refine W_ret ?_ | refine T_nil ?_ | refine T_ari rfl rfl rfl rfl (by omega) ?_ | refine T_pev rfl rfl rfl rfl ?_ | refine T_reslice (b.length + 3) rfl rfl rfl rfl rfl rfl rfl rfl (by omega) (by omega) (by omega) ?_)
  refine W_loop (fun M ρ w' => ∃ k : Nat, M = 3 - k ∧ k ≤ 3 ∧ ρ = [(3, .slice (some ⟨g, 0, none⟩) b.length (b.length + 3)), (4, .slice (some ⟨g, 0, none⟩) (b.length + 3) (b.length + 3)), (5, .int .i64 ((b.length + k : Nat) : Int))] ∧ w'.heap[g]? = some (.cells ((b ++ List.replicate k 0x55 ++ List.replicate (3 - k) (0 : UInt8)).map bV).toArray 5 (0, 0)) ∧ Below w.heap.size w w')
    (3 - 0) [(3, .slice (some ⟨g, 0, none⟩) b.length (b.length + 3)), (4, .slice (some ⟨g, 0, none⟩) (b.length + 3) (b.length + 3)), (5, .int .i64 (b.length : Int))] ⟨rfl, rfl, rfl, trivial⟩ ⟨0, rfl, by omega, rfl, hc2, hB⟩ ?_
  clear hc2 hB
  rintro M ρ w3 ⟨k, rfl, hk, rfl, hc, hB⟩
  repeat (first | refine W_seq ?_ | refine W_region ?_ | refine W_draw rfl (by kernel_rfl) ?_ | refine W_block ?_ | refine W_exit ?_ | refine W_skip ?_ | refine W_ret ?_ | refine T_nil ?_ | refine T_ari rfl rfl rfl rfl (by omega) ?_ | refine T_pev rfl rfl rfl rfl ?_)
  refine W_cond_dec rfl (fun h => ?_) (fun h => ?_)
  · have hk3 : k < 3 := by omega
    repeat (first | refine W_seq ?_ | refine W_region ?_ | refine W_draw rfl (by kernel_rfl) ?_ | refine W_block ?_ | refine W_exit ?_ | refine W_skip ?_ | refine W_ret ?_ | refine T_nil ?_ | refine T_ari rfl rfl rfl rfl (by omega) ?_ | refine T_pev rfl rfl rfl rfl ?_ | refine T_idx1 rfl rfl rfl rfl rfl rfl rfl rfl rfl (by omega) ?_)
    refine T_store1 (v := bV 0x55) (b.length + k) (fun _ => trivial) rfl rfl rfl rfl rfl rfl rfl rfl rfl rfl hc (by omega) (by simp; omega) fun w4 hc4 hg4 _ => ?_
    rw [lend_set b k hk3] at hc4
    replace hB := hB.stepg hg4 (by omega)
    repeat (first | refine W_seq ?_ | refine W_region ?_ | refine W_draw rfl (by kernel_rfl) ?_ | refine W_block ?_ | refine W_exit ?_ | refine W_skip ?_ | refine W_ret ?_ | refine T_nil ?_ | refine T_ari rfl rfl rfl rfl (by omega) ?_ | refine T_pev rfl rfl rfl rfl ?_)
    exact ⟨3 - (k + 1), [(3, .slice (some ⟨g, 0, none⟩) b.length (b.length + 3)), (4, .slice (some ⟨g, 0, none⟩) (b.length + 3) (b.length + 3)), (5, .int .i64 ((b.length + (k + 1) : Nat) : Int))], by omega, ⟨rfl, rfl, congrArg (fun z => some (Value.int .i64 z)) (by omega), trivial⟩, k + 1, rfl, by omega, rfl, hc4, hB⟩
  · have hk3 : k = 3 := by omega
    subst hk3
    repeat (first | refine W_seq ?_ | refine W_region ?_ | refine W_draw rfl (by kernel_rfl) ?_ | refine W_block ?_ | refine W_exit ?_ | refine W_skip ?_ | refine W_ret ?_ | refine T_nil ?_ | refine T_ari rfl rfl rfl rfl (by omega) ?_ | refine T_pev rfl rfl rfl rfl ?_)
    exact ⟨_, ⟨_, _, rfl, rfl, rfl⟩, g, rfl, by omega, by simpa using hc, hB⟩

set_option maxHeartbeats 2000000 in
theorem intact_ok (b : List UInt8) (g : Nat) (v : Value) (w : World) (hg : w.heap[g]? = some (.cells ((b ++ [0x55, 0x55, 0x55]).map bV).toArray 5 (0, 0))) (hv : Rd (hw w) v b.length 1 (b.map bV)) (hl : b.length ≤ 1000000000) :
    Calls Try.prog 17 #[.slice (some ⟨g, 0, none⟩) b.length (b.length + 3), v] w fun e w' => e = .returned (.bool true) ∧ Below w.heap.size w w' := by
  obtain ⟨va, vc, rfl, _⟩ := hv.shape
  refine enter2 _ Try.func17 rfl Try.ntmps17 Try.results17 rfl ?_
  repeat (first | refine W_seq ?_ | refine W_region ?_ | refine W_draw rfl (by kernel_rfl) ?_ | refine W_block ?_ | refine W_exit ?_ | refine W_skip ?_ | refine W_ret ?_ | refine T_nil ?_ | refine T_ari rfl rfl rfl rfl (by omega) ?_ | refine T_pev rfl rfl rfl rfl ?_)
  rw [decide_eq_true (show (b.length : Int) = (b.length : Int) from rfl)]
  repeat (first | refine T_yes rfl rfl rfl ?_ rfl | refine T_no rfl rfl rfl rfl rfl rfl ?_ | refine T_no' rfl rfl rfl rfl rfl ?_ | refine W_seq ?_ | refine W_region ?_ | refine W_draw rfl (by kernel_rfl) ?_ | refine W_block ?_ | refine W_exit ?_ | refine W_skip ?_ | refine W_ret ?_ | refine T_nil ?_ | refine T_ari rfl rfl rfl rfl (by omega) ?_ | refine T_pev rfl rfl rfl rfl ?_)
  rw [decide_eq_true (show ((b.length + 3 : Nat) : Int) = (b.length : Int) + 3 by omega)]
  repeat (first | refine T_yes rfl rfl rfl ?_ rfl | refine T_no rfl rfl rfl rfl rfl rfl ?_ | refine T_no' rfl rfl rfl rfl rfl ?_ | refine W_seq ?_ | refine W_region ?_ | refine W_draw rfl (by kernel_rfl) ?_ | refine W_block ?_ | refine W_exit ?_ | refine W_skip ?_ | refine W_ret ?_ | refine T_nil ?_ | refine T_ari rfl rfl rfl rfl (by omega) ?_ | refine T_pev rfl rfl rfl rfl ?_)
  refine W_cond_false rfl ?_
  repeat (first | refine W_seq ?_ | refine W_region ?_ | refine W_draw rfl (by kernel_rfl) ?_ | refine W_block ?_ | refine W_exit ?_ | refine W_skip ?_ | refine W_ret ?_ | refine T_nil ?_ | refine T_ari rfl rfl rfl rfl (by omega) ?_ | refine T_pev rfl rfl rfl rfl ?_ | refine T_reslice (b.length + 3) rfl rfl rfl rfl rfl rfl rfl rfl (by omega) (by omega) (by omega) ?_)
  refine W_loop (fun M ρ w' => ∃ i : Nat, M = b.length + 3 - i ∧ i ≤ b.length + 3 ∧ ρ = [(1, .slice va b.length vc), (5, .slice (some ⟨g, 0, none⟩) (b.length + 3) (b.length + 3)), (26, .int .i64 ((b.length + 3 : Nat) : Int)), (27, .int .i64 (i : Int))] ∧ Below w.heap.size w w')
    (b.length + 3 - 0) [(1, .slice va b.length vc), (5, .slice (some ⟨g, 0, none⟩) (b.length + 3) (b.length + 3)), (26, .int .i64 ((b.length + 3 : Nat) : Int)), (27, .int .i64 (0 : Int))] ⟨rfl, rfl, rfl, rfl, trivial⟩ ⟨0, rfl, by omega, rfl, below_refl w⟩ ?_
  rintro M ρ w1 ⟨i, rfl, hi, rfl, hB⟩
  have hg1 := blk_call hg hB
  have hv1 := hv.below hB
  repeat (first | refine W_seq ?_ | refine W_region ?_ | refine W_draw rfl (by kernel_rfl) ?_ | refine W_block ?_ | refine W_exit ?_ | refine W_skip ?_ | refine W_ret ?_ | refine T_nil ?_ | refine T_ari rfl rfl rfl rfl (by omega) ?_ | refine T_pev rfl rfl rfl rfl ?_)
  refine W_cond_dec rfl (fun h => ?_) (fun h => ?_)
  · by_cases hin : i < b.length
    · obtain ⟨vb, vo, vc', hve, _, hcell⟩ := hv1.get (by omega)
      simp only [Value.slice.injEq, true_and] at hve
      obtain ⟨rfl, rfl⟩ := hve
      have y1 : w1.cell? ⟨g, 0 + (i : Int).toNat, none⟩ = some (bV b[i]) := by
        refine cell_of_hcell ?_
        rw [hcell_blk hg1, Int.toNat_natCast, Nat.zero_add, List.getElem?_toArray, List.getElem?_map, List.getElem?_append_left hin, List.getElem?_eq_getElem hin]; rfl
      have y2 : w1.cell? ⟨vb, vo + (i : Int).toNat, none⟩ = some (bV b[i]) := cell_of_hcell (hcell i _ (by rw [List.getElem?_map, List.getElem?_eq_getElem hin]; rfl))
      repeat (first | refine W_seq ?_ | refine W_region ?_ | refine W_draw rfl (by kernel_rfl) ?_ | refine W_block ?_ | refine W_exit ?_ | refine W_skip ?_ | refine W_ret ?_ | refine T_nil ?_ | refine T_ari rfl rfl rfl rfl (by omega) ?_ | refine T_pev rfl rfl rfl rfl ?_)
      rw [decide_eq_true (show (i : Int) < (b.length : Int) by omega)]
      repeat (first | refine T_yes rfl rfl rfl ?_ rfl | refine T_no rfl rfl rfl rfl rfl rfl ?_ | refine T_no' rfl rfl rfl rfl rfl ?_ | refine W_seq ?_ | refine W_region ?_ | refine W_draw rfl (by kernel_rfl) ?_ | refine W_block ?_ | refine W_exit ?_ | refine W_skip ?_ | refine W_ret ?_ | refine T_nil ?_ | refine T_ari rfl rfl rfl rfl (by omega) ?_ | refine T_idx1 rfl rfl rfl rfl rfl rfl rfl rfl rfl (by omega) ?_ | refine T_idxA1 rfl rfl rfl rfl rfl rfl rfl rfl rfl (by omega) ?_ | refine T_pev rfl rfl rfl rfl ?_ | refine T_load rfl rfl rfl rfl rfl rfl rfl y1 ?_ | refine T_load rfl rfl rfl rfl rfl rfl rfl y2 ?_)
      rw [decide_eq_true (Eq.refl ((b[i].toNat : Nat) : Int))]
      repeat (first | refine T_yes rfl rfl rfl ?_ rfl | refine T_no rfl rfl rfl rfl rfl rfl ?_ | refine T_no' rfl rfl rfl rfl rfl ?_ | refine W_seq ?_ | refine W_region ?_ | refine W_draw rfl (by kernel_rfl) ?_ | refine W_block ?_ | refine W_exit ?_ | refine W_skip ?_ | refine W_ret ?_ | refine T_nil ?_ | refine T_ari rfl rfl rfl rfl (by omega) ?_ | refine T_idx1 rfl rfl rfl rfl rfl rfl rfl rfl rfl (by omega) ?_ | refine T_idxA1 rfl rfl rfl rfl rfl rfl rfl rfl rfl (by omega) ?_ | refine T_pev rfl rfl rfl rfl ?_)
      rw [decide_eq_false (show ¬ (b.length : Int) ≤ (i : Int) by omega)]
      repeat (first | refine T_yes rfl rfl rfl ?_ rfl | refine T_no rfl rfl rfl rfl rfl rfl ?_ | refine T_no' rfl rfl rfl rfl rfl ?_ | refine W_seq ?_ | refine W_region ?_ | refine W_draw rfl (by kernel_rfl) ?_ | refine W_block ?_ | refine W_exit ?_ | refine W_skip ?_ | refine W_ret ?_ | refine T_nil ?_ | refine T_ari rfl rfl rfl rfl (by omega) ?_ | refine T_idx1 rfl rfl rfl rfl rfl rfl rfl rfl rfl (by omega) ?_ | refine T_idxA1 rfl rfl rfl rfl rfl rfl rfl rfl rfl (by omega) ?_ | refine T_pev rfl rfl rfl rfl ?_)
      refine W_cond_false rfl ?_
      repeat (first | refine W_seq ?_ | refine W_region ?_ | refine W_draw rfl (by kernel_rfl) ?_ | refine W_block ?_ | refine W_exit ?_ | refine W_skip ?_ | refine W_ret ?_ | refine T_nil ?_ | refine T_ari rfl rfl rfl rfl (by omega) ?_ | refine T_pev rfl rfl rfl rfl ?_)
      exact ⟨b.length + 3 - (i + 1), [(1, .slice (some ⟨vb, vo, none⟩) b.length vc), (5, .slice (some ⟨g, 0, none⟩) (b.length + 3) (b.length + 3)), (26, .int .i64 ((b.length + 3 : Nat) : Int)), (27, .int .i64 ((i + 1 : Nat) : Int))], by omega, ⟨rfl, rfl, rfl, rfl, trivial⟩, i + 1, rfl, by omega, rfl, ⟨hB.os, hB.tape, hB.output, hB.size, hB.block⟩⟩
    · have y1 : w1.cell? ⟨g, 0 + (i : Int).toNat, none⟩ = some (bV 0x55) := by
        refine cell_of_hcell ?_
        rw [hcell_blk hg1, Int.toNat_natCast, Nat.zero_add, List.getElem?_toArray, List.getElem?_map, List.getElem?_append_right (by omega)]
        rcases (by omega : i - b.length = 0 ∨ i - b.length = 1 ∨ i - b.length = 2) with e | e | e <;> rw [e] <;> rfl
      repeat (first | refine W_seq ?_ | refine W_region ?_ | refine W_draw rfl (by kernel_rfl) ?_ | refine W_block ?_ | refine W_exit ?_ | refine W_skip ?_ | refine W_ret ?_ | refine T_nil ?_ | refine T_ari rfl rfl rfl rfl (by omega) ?_ | refine T_pev rfl rfl rfl rfl ?_)
      rw [decide_eq_false (show ¬ (i : Int) < (b.length : Int) by omega)]
      repeat (first | refine T_yes rfl rfl rfl ?_ rfl | refine T_no rfl rfl rfl rfl rfl rfl ?_ | refine T_no' rfl rfl rfl rfl rfl ?_ | refine W_seq ?_ | refine W_region ?_ | refine W_draw rfl (by kernel_rfl) ?_ | refine W_block ?_ | refine W_exit ?_ | refine W_skip ?_ | refine W_ret ?_ | refine T_nil ?_ | refine T_ari rfl rfl rfl rfl (by omega) ?_ | refine T_idx1 rfl rfl rfl rfl rfl rfl rfl rfl rfl (by omega) ?_ | refine T_idxA1 rfl rfl rfl rfl rfl rfl rfl rfl rfl (by omega) ?_ | refine T_pev rfl rfl rfl rfl ?_)
      rw [decide_eq_true (show (b.length : Int) ≤ (i : Int) by omega)]
      repeat (first | refine T_yes rfl rfl rfl ?_ rfl | refine T_no rfl rfl rfl rfl rfl rfl ?_ | refine T_no' rfl rfl rfl rfl rfl ?_ | refine W_seq ?_ | refine W_region ?_ | refine W_draw rfl (by kernel_rfl) ?_ | refine W_block ?_ | refine W_exit ?_ | refine W_skip ?_ | refine W_ret ?_ | refine T_nil ?_ | refine T_ari rfl rfl rfl rfl (by omega) ?_ | refine T_idx1 rfl rfl rfl rfl rfl rfl rfl rfl rfl (by omega) ?_ | refine T_idxA1 rfl rfl rfl rfl rfl rfl rfl rfl rfl (by omega) ?_ | refine T_pev rfl rfl rfl rfl ?_ | refine T_load rfl rfl rfl rfl rfl rfl rfl y1 ?_)
      refine W_cond_false rfl ?_
      repeat (first | refine W_seq ?_ | refine W_region ?_ | refine W_draw rfl (by kernel_rfl) ?_ | refine W_block ?_ | refine W_exit ?_ | refine W_skip ?_ | refine W_ret ?_ | refine T_nil ?_ | refine T_ari rfl rfl rfl rfl (by omega) ?_ | refine T_pev rfl rfl rfl rfl ?_)
      exact ⟨b.length + 3 - (i + 1), [(1, .slice va b.length vc), (5, .slice (some ⟨g, 0, none⟩) (b.length + 3) (b.length + 3)), (26, .int .i64 ((b.length + 3 : Nat) : Int)), (27, .int .i64 ((i + 1 : Nat) : Int))], by omega, ⟨rfl, rfl, rfl, rfl, trivial⟩, i + 1, rfl, by omega, rfl, ⟨hB.os, hB.tape, hB.output, hB.size, hB.block⟩⟩
  · repeat (first | refine W_seq ?_ | refine W_region ?_ | refine W_draw rfl (by kernel_rfl) ?_ | refine W_block ?_ | refine W_exit ?_ | refine W_skip ?_ | refine W_ret ?_ | refine T_nil ?_ | refine T_ari rfl rfl rfl rfl (by omega) ?_ | refine T_pev rfl rfl rfl rfl ?_)
    exact ⟨_, ⟨_, _, rfl, rfl, rfl⟩, rfl, hB⟩

theorem copy_ok (b : List UInt8) (v : Value) (w : World) (hv : Rd (hw w) v b.length 1 (b.map bV)) (hl : b.length ≤ 1000000000) :
    Calls Try.prog 18 #[v] w fun e w' => ∃ v', e = .returned v' ∧ w'.ownsRow w.heap.size 5 1 v' b.length (b.map bV) ∧ Below w.heap.size w w' := by
  obtain ⟨va, vc, rfl, _⟩ := hv.shape
  refine enter1 _ Try.func18 rfl Try.ntmps18 Try.results18 rfl ?_
  repeat (first | refine W_seq ?_ | refine W_region ?_ | refine W_draw rfl (by kernel_rfl) ?_ | refine W_block ?_ | refine W_exit ?_ | refine W_skip ?_ | refine W_ret ?_ | refine T_nil ?_ | refine T_ari rfl rfl rfl rfl (by omega) ?_ | refine T_pev rfl rfl rfl rfl ?_)
  refine T_append (size := 1) (base := w.heap.size) (fun _ => trivial) rfl rfl rfl rfl rfl rfl rfl rfl rfl rfl rfl rfl (by decide) (World.ownsRow_nil _ _ _ _) hv (one_bV _) (by unfold maxLen; omega) (by show _ * 1 ≤ _; omega) (Nat.le_refl _) fun v2 w2 ho2 hg2 => ?_
  simp only [Nat.zero_add, List.nil_append] at ho2
  have hB := (below_refl w).step hg2 (by simp [Value.ownBlock])
  obtain ⟨a2, c2, hv2, _⟩ := (Rd.of_owns ho2).shape
  subst hv2
  repeat (first | refine W_seq ?_ | refine W_region ?_ | refine W_draw rfl (by kernel_rfl) ?_ | refine W_block ?_ | refine W_exit ?_ | refine W_skip ?_ | refine W_ret ?_ | refine T_nil ?_ | refine T_ari rfl rfl rfl rfl (by omega) ?_ | refine T_pev rfl rfl rfl rfl ?_)
  exact ⟨_, ⟨_, _, rfl, rfl, rfl⟩, _, rfl, ho2, hB⟩

end Go.Proofs.Ytikgpfhjhfpmbaa
