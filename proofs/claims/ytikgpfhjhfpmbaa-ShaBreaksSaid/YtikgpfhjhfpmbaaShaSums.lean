/- ShaSums: the walk. -/
import Derived.Test.YtikgpfhjhfpmbaaShaLengths
import Derived.Test.YtikgpfhjhfpmbaaKeepA
set_option linter.unusedVariables false
namespace Go.Proofs.Ytikgpfhjhfpmbaa
open Go Go.F Go.RowKit

set_option maxHeartbeats 1000000 in
theorem shaSums_ok (b0 : List UInt8) (v : Value) (w : World) (hv : Rd (hw w) v b0.length 1 (b0.map bV)) :
    Calls Try.prog 4 #[v] w fun e w' => e = .returned (.bool true) ∧ Below w.heap.size w w' := by
  obtain ⟨va, vc, rfl, _⟩ := hv.shape
  refine enter1 _ Try.func4 rfl Try.ntmps4 Try.results4 rfl ?_
  repeat (first | refine W_seq ?_ | refine W_region ?_ | refine W_draw rfl (by kernel_rfl) ?_ | refine W_block ?_ | refine W_exit ?_ | refine W_skip ?_ | refine W_ret ?_ | refine T_nil ?_ | refine T_ari rfl rfl rfl rfl (by omega) ?_ | refine T_pev rfl rfl rfl rfl ?_)
  refine T_call (fun _ => trivial) rfl rfl g_cut rfl rfl rfl rfl ((cut_ok (hw w) b0 _ 400 w hv).mono ?_)
  rintro e w1 ⟨v1, rfl, hv1, hB⟩
  refine ⟨_, rfl, ?_⟩
  obtain ⟨b, hb⟩ : ∃ b, b = b0.take 400 := ⟨_, rfl⟩
  have hbl : b.length ≤ 400 := by rw [hb, List.length_take]; omega
  rw [← hb] at hv1
  clear hb hv
  obtain ⟨va1, vc1, rfl, _⟩ := hv1.shape
  repeat (first | refine W_seq ?_ | refine W_region ?_ | refine W_draw rfl (by kernel_rfl) ?_ | refine W_block ?_ | refine W_exit ?_ | refine W_skip ?_ | refine W_ret ?_ | refine T_nil ?_ | refine T_ari rfl rfl rfl rfl (by omega) ?_ | refine T_pev rfl rfl rfl rfl ?_)
  refine T_call (fun _ => trivial) rfl rfl g_lend rfl rfl rfl rfl ((lend_ok b _ w1 (hv1.below hB) (by omega)).mono ?_)
  rintro e w2 ⟨g, rfl, _, hg, hB2⟩
  refine ⟨_, rfl, ?_⟩
  replace hB := hB.call hB2
  clear hB2
  have hr : Rd (hw w2) (.slice (some ⟨g, 0, none⟩) b.length (b.length + 3)) b.length 1 (b.map bV) :=
    rd_block hg (by simp) (by omega) (by rw [List.toList_toArray, Nat.mul_one, List.map_append, List.take_left' (by simp)])
  repeat (first | refine W_seq ?_ | refine W_region ?_ | refine W_draw rfl (by kernel_rfl) ?_ | refine W_block ?_ | refine W_exit ?_ | refine W_skip ?_ | refine W_ret ?_ | refine T_nil ?_ | refine T_ari rfl rfl rfl rfl (by omega) ?_ | refine T_pev rfl rfl rfl rfl ?_)
  refine T_call (fun _ => trivial) rfl rfl g_sum rfl rfl rfl rfl ((sum_ok b _ w2 hr (by omega)).mono ?_)
  rintro e w3 ⟨rfl, hB3⟩
  refine ⟨_, rfl, ?_⟩
  replace hB := hB.call hB3
  replace hg := blk_call hg hB3
  clear hr
  repeat (first | refine W_seq ?_ | refine W_region ?_ | refine W_draw rfl (by kernel_rfl) ?_ | refine W_block ?_ | refine W_exit ?_ | refine W_skip ?_ | refine W_ret ?_ | refine T_nil ?_ | refine T_ari rfl rfl rfl rfl (by omega) ?_ | refine T_pev rfl rfl rfl rfl ?_)
  refine T_call (fun _ => trivial) rfl rfl g_ref rfl rfl rfl rfl ((refSum_ok b _ w3 (hv1.below hB) (by omega)).mono ?_)
  rintro e w4 ⟨rfl, hB4⟩
  refine ⟨_, rfl, ?_⟩
  replace hB := hB.call hB4
  replace hg := blk_call hg hB4
  repeat (first | refine T_yes rfl rfl rfl ?_ rfl | refine T_no rfl rfl rfl rfl rfl rfl ?_ | refine T_no' rfl rfl rfl rfl rfl ?_ | refine W_seq ?_ | refine W_region ?_ | refine W_draw rfl (by kernel_rfl) ?_ | refine W_block ?_ | refine W_exit ?_ | refine W_skip ?_ | refine W_ret ?_ | refine T_nil ?_ | refine T_ari rfl rfl rfl rfl (by omega) ?_ | refine T_pev rfl rfl rfl rfl ?_ | refine T_eqT (Go.Sha.sha b) (Go.Sha.sha b) rfl rfl rfl rfl rfl rfl rfl rfl rfl rfl rfl (Go.Sha.sha_len b) rfl ?_)
  refine T_call (fun _ => trivial) rfl rfl g_intact rfl rfl rfl rfl ((intact_ok b g _ w4 hg (hv1.below hB) (by omega)).mono ?_)
  rintro e w5 ⟨rfl, hB5⟩
  refine ⟨_, rfl, ?_⟩
  replace hB := hB.call hB5
  repeat (first | refine T_yes rfl rfl rfl ?_ rfl | refine T_no rfl rfl rfl rfl rfl rfl ?_ | refine T_no' rfl rfl rfl rfl rfl ?_ | refine W_seq ?_ | refine W_region ?_ | refine W_draw rfl (by kernel_rfl) ?_ | refine W_block ?_ | refine W_exit ?_ | refine W_skip ?_ | refine W_ret ?_ | refine T_nil ?_ | refine T_ari rfl rfl rfl rfl (by omega) ?_ | refine T_pev rfl rfl rfl rfl ?_)
  refine T_call (fun _ => trivial) rfl rfl g_wakes rfl rfl rfl rfl ((wakes_ok w5).mono ?_)
  rintro e w6 ⟨rfl, hB6⟩
  refine ⟨_, rfl, ?_⟩
  replace hB := hB.call hB6
  repeat (first | refine T_yes rfl rfl rfl ?_ rfl | refine T_no rfl rfl rfl rfl rfl rfl ?_ | refine T_no' rfl rfl rfl rfl rfl ?_ | refine W_seq ?_ | refine W_region ?_ | refine W_draw rfl (by kernel_rfl) ?_ | refine W_block ?_ | refine W_exit ?_ | refine W_skip ?_ | refine W_ret ?_ | refine T_nil ?_ | refine T_ari rfl rfl rfl rfl (by omega) ?_ | refine T_pev rfl rfl rfl rfl ?_)
  exact ⟨_, ⟨_, _, rfl, rfl, rfl⟩, rfl, hB⟩

end Go.Proofs.Ytikgpfhjhfpmbaa
