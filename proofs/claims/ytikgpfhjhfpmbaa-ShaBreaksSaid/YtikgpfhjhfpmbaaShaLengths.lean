/- ShaLengths: the walk. -/
import Derived.Test.YtikgpfhjhfpmbaaRefB
import Derived.Test.YtikgpfhjhfpmbaaFOpen
set_option linter.unusedVariables false
namespace Go.Proofs.Ytikgpfhjhfpmbaa
open Go Go.F Go.RowKit

theorem wrap_byte (z : Int) : ∃ y : UInt8, IntKind.u8.wrap z = (y.toNat : Int) := by
  refine ⟨UInt8.ofNat (z % 256).toNat, ?_⟩
  rw [IntKind.wrap_u8, UInt8.toNat_ofNat']
  omega

theorem g_ref : goFn Try.prog 16 = true := by kernel_rfl

set_option maxHeartbeats 1000000 in
theorem shaLengths_ok (nn : Int) (c : Int) (w : World) :
    Calls Try.prog 5 #[.int .i64 nn, .int .u8 c] w fun e w' => e = .returned (.bool true) ∧ Below w.heap.size w w' := by
  refine enter2 _ Try.func5 rfl Try.ntmps5 Try.results5 rfl ?_
  repeat (first | refine W_seq ?_ | refine W_region ?_ | refine W_draw rfl (by kernel_rfl) ?_ | refine W_block ?_ | refine W_exit ?_ | refine W_skip ?_ | refine W_ret ?_ | refine T_nil ?_ | refine T_ari rfl rfl rfl rfl (by omega) ?_ | refine T_pev rfl rfl rfl rfl ?_)
  refine T_call (fun _ => trivial) rfl rfl g_within rfl rfl rfl rfl ((within_ok _ _ w (by decide)).mono ?_)
  rintro e w1 ⟨rfl, hB1⟩
  refine ⟨_, rfl, ?_⟩
  have q1 := Int.emod_nonneg nn (show (200 : Int) ≠ 0 by decide)
  have q2 := Int.emod_lt_of_pos nn (show (0 : Int) < 200 by decide)
  obtain ⟨q, hq⟩ := Int.eq_ofNat_of_zero_le q1
  rw [hq] at q2 ⊢
  clear hq q1
  repeat (first | refine W_seq ?_ | refine W_region ?_ | refine W_draw rfl (by kernel_rfl) ?_ | refine W_block ?_ | refine W_exit ?_ | refine W_skip ?_ | refine W_ret ?_ | refine T_nil ?_ | refine T_ari rfl rfl rfl rfl (by omega) ?_ | refine T_pev rfl rfl rfl rfl ?_)
  refine T_makeB q (fun _ => trivial) rfl rfl rfl rfl rfl rfl rfl rfl rfl rfl rfl rfl (by show 1 * q ≤ _; omega) (by unfold maxLen; omega) fun b w2 hb hc hg2 => ?_
  have hc' : w2.heap[b]? = some (.cells ((List.replicate q (0 : UInt8)).map bV).toArray 5 (0, 0)) := by
    rw [hc]; congr 2
    apply Array.toList_inj.1
    show (madeCells #[bV 0] (q * 1)).toList = _
    rw [toList_madeCells_one, Nat.mul_one]
    simp
  have hbw : w.heap.size ≤ b := by have := hB1.size; omega
  have hB2 := hB1.step0 hg2
  clear hc hg2 hB1 hb
  repeat (first | refine W_seq ?_ | refine W_region ?_ | refine W_draw rfl (by kernel_rfl) ?_ | refine W_block ?_ | refine W_exit ?_ | refine W_skip ?_ | refine W_ret ?_ | refine T_nil ?_ | refine T_ari rfl rfl rfl rfl (by omega) ?_ | refine T_pev rfl rfl rfl rfl ?_)
  refine W_loop (fun M ρ w' => ∃ (i : Nat) (l : List UInt8), M = q - i ∧ i ≤ q ∧ l.length = q ∧ ρ = [(1, .int .u8 c), (5, .slice (some ⟨b, 0, none⟩) q q), (11, .int .i64 (q : Int)), (12, .int .i64 (i : Int))] ∧ w'.heap[b]? = some (.cells (l.map bV).toArray 5 (0, 0)) ∧ Below w.heap.size w w')
    (q - 0) [(1, .int .u8 c), (5, .slice (some ⟨b, 0, none⟩) q q), (11, .int .i64 (q : Int)), (12, .int .i64 (0 : Int))] ⟨rfl, rfl, rfl, rfl, trivial⟩ ⟨0, _, rfl, by omega, by simp, rfl, hc', hB2⟩ ?_
  clear hc' hB2
  rintro M ρ w3 ⟨i, l, rfl, hi, hl, rfl, hc, hB⟩
  repeat (first | refine W_seq ?_ | refine W_region ?_ | refine W_draw rfl (by kernel_rfl) ?_ | refine W_block ?_ | refine W_exit ?_ | refine W_skip ?_ | refine W_ret ?_ | refine T_nil ?_ | refine T_ari rfl rfl rfl rfl (by omega) ?_ | refine T_pev rfl rfl rfl rfl ?_)
  refine W_cond_dec rfl (fun h => ?_) (fun h => ?_)
  · obtain ⟨y, hy⟩ := wrap_byte (c + IntKind.u8.wrap (i : Int))
    repeat (first | refine W_seq ?_ | refine W_region ?_ | refine W_draw rfl (by kernel_rfl) ?_ | refine W_block ?_ | refine W_exit ?_ | refine W_skip ?_ | refine W_ret ?_ | refine T_nil ?_ | refine T_ari rfl rfl rfl rfl (by omega) ?_ | refine T_pev rfl rfl rfl rfl ?_ | refine T_idx1 rfl rfl rfl rfl rfl rfl rfl rfl rfl (by omega) ?_)
    refine T_store1 (v := bV y) i (fun _ => trivial) rfl rfl (congrArg (fun z => some (Value.int .u8 z)) hy) rfl rfl rfl rfl rfl rfl rfl hc (by omega) (by simp; omega) fun w4 hc4 hg4 _ => ?_
    have e : (l.map bV).toArray.setIfInBounds i (bV y) = ((l.set i y).map bV).toArray := by rw [List.setIfInBounds_toArray, List.map_set]
    rw [e] at hc4
    replace hB := hB.stepg hg4 hbw
    repeat (first | refine W_seq ?_ | refine W_region ?_ | refine W_draw rfl (by kernel_rfl) ?_ | refine W_block ?_ | refine W_exit ?_ | refine W_skip ?_ | refine W_ret ?_ | refine T_nil ?_ | refine T_ari rfl rfl rfl rfl (by omega) ?_ | refine T_pev rfl rfl rfl rfl ?_)
    exact ⟨q - (i + 1), [(1, .int .u8 c), (5, .slice (some ⟨b, 0, none⟩) q q), (11, .int .i64 (q : Int)), (12, .int .i64 ((i + 1 : Nat) : Int))], by omega, ⟨rfl, rfl, rfl, rfl, trivial⟩, i + 1, l.set i y, rfl, by omega, by simp [hl], rfl, hc4, hB⟩
  · have hr : Rd (hw w3) (.slice (some ⟨b, 0, none⟩) q q) l.length 1 (l.map bV) := by
      rw [hl]
      exact rd_block hc (by simp [hl]) (Nat.le_refl _) (by rw [List.take_of_length_le (by simp [hl])])
    repeat (first | refine W_seq ?_ | refine W_region ?_ | refine W_draw rfl (by kernel_rfl) ?_ | refine W_block ?_ | refine W_exit ?_ | refine W_skip ?_ | refine W_ret ?_ | refine T_nil ?_ | refine T_ari rfl rfl rfl rfl (by omega) ?_ | refine T_pev rfl rfl rfl rfl ?_)
    refine T_call (fun _ => trivial) rfl rfl g_sum rfl rfl rfl rfl ((sum_ok l _ w3 hr (by omega)).mono ?_)
    rintro e w4 ⟨rfl, hB4⟩
    refine ⟨_, rfl, ?_⟩
    replace hB := hB.call hB4
    repeat (first | refine W_seq ?_ | refine W_region ?_ | refine W_draw rfl (by kernel_rfl) ?_ | refine W_block ?_ | refine W_exit ?_ | refine W_skip ?_ | refine W_ret ?_ | refine T_nil ?_ | refine T_ari rfl rfl rfl rfl (by omega) ?_ | refine T_pev rfl rfl rfl rfl ?_)
    refine T_call (fun _ => trivial) rfl rfl g_ref rfl rfl rfl rfl ((refSum_ok l _ w4 (hr.below hB4) (by omega)).mono ?_)
    rintro e w5 ⟨rfl, hB5⟩
    refine ⟨_, rfl, ?_⟩
    replace hB := hB.call hB5
    repeat (first | refine T_yes rfl rfl rfl ?_ rfl | refine T_no rfl rfl rfl rfl rfl rfl ?_ | refine T_no' rfl rfl rfl rfl rfl ?_ | refine W_seq ?_ | refine W_region ?_ | refine W_draw rfl (by kernel_rfl) ?_ | refine W_block ?_ | refine W_exit ?_ | refine W_skip ?_ | refine W_ret ?_ | refine T_nil ?_ | refine T_ari rfl rfl rfl rfl (by omega) ?_ | refine T_pev rfl rfl rfl rfl ?_ | refine T_eqT (Go.Sha.sha l) (Go.Sha.sha l) rfl rfl rfl rfl rfl rfl rfl rfl rfl rfl rfl (Go.Sha.sha_len l) rfl ?_)
    refine T_call (fun _ => trivial) rfl rfl g_wakes rfl rfl rfl rfl ((wakes_ok w5).mono ?_)
    rintro e w6 ⟨rfl, hB6⟩
    refine ⟨_, rfl, ?_⟩
    replace hB := hB.call hB6
    repeat (first | refine T_yes rfl rfl rfl ?_ rfl | refine T_no rfl rfl rfl rfl rfl rfl ?_ | refine T_no' rfl rfl rfl rfl rfl ?_ | refine W_seq ?_ | refine W_region ?_ | refine W_draw rfl (by kernel_rfl) ?_ | refine W_block ?_ | refine W_exit ?_ | refine W_skip ?_ | refine W_ret ?_ | refine T_nil ?_ | refine T_ari rfl rfl rfl rfl (by omega) ?_ | refine T_pev rfl rfl rfl rfl ?_)
    exact ⟨_, ⟨_, _, rfl, rfl, rfl⟩, rfl, hB⟩

end Go.Proofs.Ytikgpfhjhfpmbaa
