/- The document's example. -/
import Derived.Test.YtikgpfhjhfpmbaaShaE
set_option linter.unusedVariables false
set_option linter.unusedSimpArgs false
set_option maxRecDepth 8192
namespace Go.Proofs.Ytikgpfhjhfpmbaa
open Go Go.F Go.RowKit

set_option maxRecDepth 1000000 in
theorem sha_nil : (Go.Sha.sha []).take 4 = [0xe3, 0xb0, 0xc4, 0x42] := by kernel_rfl
theorem nil_at : ∃ l, (hV (Go.Sha.sha [])).cells = (bV 0xe3 :: bV 0xb0 :: bV 0xc4 :: bV 0x42 :: l).toArray := by
  refine ⟨((Go.Sha.sha []).drop 4).map bV, ?_⟩
  have e := List.take_append_drop 4 (Go.Sha.sha [])
  rw [sha_nil] at e
  rw [hV, Value.cells, ← e]
  rfl

theorem wakes_ok (w : World) : Calls Try.prog 14 #[] w fun e w' => e = .returned (.bool true) ∧ Below w.heap.size w w' := by
  refine enter0 _ Try.func14 rfl Try.ntmps14 Try.results14 ?_
  repeat (first | refine W_seq ?_ | refine W_region ?_ | refine W_draw rfl (by kernel_rfl) ?_ | refine W_block ?_ | refine W_exit ?_ | refine W_skip ?_ | refine W_ret ?_ | refine T_nil ?_ | refine T_ari rfl rfl rfl rfl (by omega) ?_ | refine T_pev rfl rfl rfl rfl ?_)
  refine T_call (fun _ => trivial) rfl rfl g_sum rfl rfl rfl rfl ((sum_ok [] _ w (Rd.nil _ 1) (by simp)).mono ?_)
  rintro e w1 ⟨rfl, hB1⟩
  refine ⟨_, rfl, ?_⟩
  repeat (first | refine W_seq ?_ | refine W_region ?_ | refine W_draw rfl (by kernel_rfl) ?_ | refine W_block ?_ | refine W_exit ?_ | refine W_skip ?_ | refine W_ret ?_ | refine T_nil ?_ | refine T_ari rfl rfl rfl rfl (by omega) ?_ | refine T_pev rfl rfl rfl rfl ?_)
  refine T_alloc (fun _ => trivial) rfl rfl rfl rfl rfl rfl rfl fun b0 w2 hb0 ho2 hg2 => ?_
  repeat (first | refine W_seq ?_ | refine W_region ?_ | refine W_draw rfl (by kernel_rfl) ?_ | refine W_block ?_ | refine W_exit ?_ | refine W_skip ?_ | refine W_ret ?_ | refine T_nil ?_ | refine T_ari rfl rfl rfl rfl (by omega) ?_ | refine T_pev rfl rfl rfl rfl ?_)
  refine T_storeF (v := hV (Go.Sha.sha [])) (fun _ => trivial) rfl rfl rfl rfl rfl rfl rfl ho2 rfl (hV_size []) (hV_size []) (one_bA _) fun w3 hc3 hg3 _ => ?_
  have hB3 := (hB1.step0 hg2).stepg hg3 (by have := hB1.size; omega)
  obtain ⟨l, hl⟩ := nil_at
  rw [hl] at hc3
  have c0 := blk_cells hc3 0 (bV 0xe3) (by simp)
  have c1 := blk_cells hc3 1 (bV 0xb0) (by simp)
  have c2 := blk_cells hc3 2 (bV 0xc4) (by simp)
  have c3 := blk_cells hc3 3 (bV 0x42) (by simp)
  repeat (first | refine T_yes rfl rfl rfl ?_ rfl | refine T_no rfl rfl rfl rfl rfl rfl ?_ | refine T_no' rfl rfl rfl rfl rfl ?_ | refine W_seq ?_ | refine W_region ?_ | refine W_draw rfl (by kernel_rfl) ?_ | refine W_block ?_ | refine W_exit ?_ | refine W_skip ?_ | refine W_ret ?_ | refine T_nil ?_ | refine T_ari rfl rfl rfl rfl (by omega) ?_ | refine T_pev rfl rfl rfl rfl ?_ | refine T_idxA1 rfl rfl rfl rfl rfl rfl rfl rfl rfl (by decide) ?_ | refine T_load rfl rfl rfl rfl rfl rfl rfl c0 ?_ | refine T_load rfl rfl rfl rfl rfl rfl rfl c1 ?_ | refine T_load rfl rfl rfl rfl rfl rfl rfl c2 ?_ | refine T_load rfl rfl rfl rfl rfl rfl rfl c3 ?_)
  exact ⟨_, ⟨_, _, rfl, rfl, rfl⟩, rfl, hB3⟩

end Go.Proofs.Ytikgpfhjhfpmbaa
