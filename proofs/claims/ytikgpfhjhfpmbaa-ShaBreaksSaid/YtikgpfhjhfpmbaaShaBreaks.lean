/- ShaBreaks: the walk. -/
import Derived.Test.YtikgpfhjhfpmbaaShaSums
import Derived.Test.YtikgpfhjhfpmbaaFStr
set_option linter.unusedVariables false
namespace Go.Proofs.Ytikgpfhjhfpmbaa
open Go Go.F Go.RowKit

theorem g_equal : goFn Try.prog 29 = true := by kernel_rfl
theorem g_same : goFn Try.prog 20 = true := by kernel_rfl
theorem g_rsame : goFn Try.prog 21 = true := by kernel_rfl
theorem g_copy : goFn Try.prog 18 = true := by kernel_rfl

theorem equal_ok (a b : List UInt8) (v u : Value) (w : World) (hv : Rd (hw w) v a.length 1 (a.map bV)) (hu : Rd (hw w) u b.length 1 (b.map bV)) :
    Calls Try.prog 29 #[v, u] w fun e w' => e = .returned (.bool (decide (a = b))) ∧ Below w.heap.size w w' := by
  obtain ⟨va, vc, rfl, _⟩ := hv.shape
  obtain ⟨ua, uc, rfl, _⟩ := hu.shape
  refine enter2 _ Try.func29 rfl Try.ntmps29 Try.results29 rfl ?_
  repeat (first | refine W_seq ?_ | refine W_region ?_ | refine W_draw rfl (by kernel_rfl) ?_ | refine W_block ?_ | refine W_exit ?_ | refine W_skip ?_ | refine W_ret ?_ | refine T_nil ?_ | refine T_ari rfl rfl rfl rfl (by omega) ?_ | refine T_pev rfl rfl rfl rfl ?_ | refine T_conv rfl rfl rfl rfl rfl rfl rfl rfl rfl hv ?_ | refine T_conv rfl rfl rfl rfl rfl rfl rfl rfl rfl hu ?_ | refine T_streq rfl rfl rfl rfl rfl rfl ?_)
  exact ⟨_, ⟨_, _, rfl, rfl, rfl⟩, rfl, below_refl _⟩

/-- The plan of the two Same: what they load of the box, and the bytes, are held. -/
noncomputable def planS (w0 : World) (bx : Nat) (c : Array Value) : Plan := ⟨fun o => match o.op with | .load _ _ => .pure | .convert _ _ _ => .pure | op => cls Try.prog op, fun u => u.heap[bx]? = some (.cells c 44 (0, 0)) ∧ Below w0.heap.size w0 u⟩

set_option maxHeartbeats 2000000 in
theorem same_ok (a b : List UInt8) (v u : Value) (w : World) (hv : Rd (hw w) v a.length 1 (a.map bV)) (hu : Rd (hw w) u b.length 1 (b.map bV)) (ha : a.length ≤ 1000000000) (hb : b.length ≤ 1000000000) :
    Calls Try.prog 20 #[.agg #[v, u]] w fun e w' => e = .returned (.bool (!decide (a = b) && decide (Go.Sha.sha a = Go.Sha.sha b))) ∧ Below w.heap.size w w' := by
  obtain ⟨va, vc, rfl, _⟩ := hv.shape
  obtain ⟨ua, uc, rfl, _⟩ := hu.shape
  refine enter1 _ Try.func20 rfl Try.ntmps20 Try.results20 rfl ?_
  refine W_seq ?_
  refine W_region ?_
  refine T_box (fun _ => trivial) rfl rfl rfl rfl rfl rfl fun bx w1 hbx hc hg => ?_
  have hB : Below w.heap.size w w1 := below_of_grown hg
  clear hg
  refine T_pev rfl rfl rfl rfl ?_
  refine T_nil ?_
  have l0 : ∀ u' : World, (planS w bx #[.slice va a.length vc, .slice ua b.length uc]).C u' → u'.cell? ⟨bx, 0, none⟩ = some (.slice va a.length vc) := fun u' h => cell_of_hcell (by rw [hcell_blk h.1]; rfl)
  have l1 : ∀ u' : World, (planS w bx #[.slice va a.length vc, .slice ua b.length uc]).C u' → u'.cell? ⟨bx, 1, none⟩ = some (.slice ua b.length uc) := fun u' h => cell_of_hcell (by rw [hcell_blk h.1]; rfl)
  refine W_seq ?_
  refine W_plan (planS w bx #[.slice va a.length vc, .slice ua b.length uc]) rfl (by kernel_rfl) ⟨hc, ⟨hB.os, hB.tape, hB.output, hB.size, hB.block⟩⟩ ?_
  repeat (first | refine T_yes rfl rfl rfl ?_ rfl | refine T_no rfl rfl rfl rfl rfl rfl ?_ | refine T_no' rfl rfl rfl rfl rfl ?_ | refine W_seq ?_ | refine W_region ?_ | refine W_draw rfl (by kernel_rfl) ?_ | refine W_block ?_ | refine W_exit ?_ | refine W_skip ?_ | refine W_ret ?_ | refine T_nil ?_ | refine T_ari rfl rfl rfl rfl (by omega) ?_ | refine T_pev rfl rfl rfl rfl ?_ | refine T_fldm 0 rfl rfl rfl rfl rfl rfl (by decide) rfl rfl rfl ?_ | refine T_fldm 1 rfl rfl rfl rfl rfl rfl (by decide) rfl rfl rfl ?_ | refine T_loadP rfl rfl rfl rfl rfl rfl rfl l0 ?_ | refine T_loadP rfl rfl rfl rfl rfl rfl rfl l1 ?_)
  refine T_callC rfl rfl g_equal rfl rfl rfl rfl (fun hC => (equal_ok a b _ _ _ (hv.below hC.2) (hu.below hC.2)).mono ?_)
  rintro e w2 ⟨rfl, hB2⟩
  refine ⟨_, rfl, ⟨blk_call hC.1 hB2, hC.2.call hB2⟩, ?_⟩
  by_cases hab : a = b
  · rw [decide_eq_true hab]
    have hB3 := hC.2.call hB2
    repeat (first | refine T_yes rfl rfl rfl ?_ rfl | refine T_no rfl rfl rfl rfl rfl rfl ?_ | refine T_no' rfl rfl rfl rfl rfl ?_ | refine W_seq ?_ | refine W_region ?_ | refine W_draw rfl (by kernel_rfl) ?_ | refine W_block ?_ | refine W_exit ?_ | refine W_skip ?_ | refine W_ret ?_ | refine T_nil ?_ | refine T_ari rfl rfl rfl rfl (by omega) ?_ | refine T_pev rfl rfl rfl rfl ?_ | refine T_fldm 0 rfl rfl rfl rfl rfl rfl (by decide) rfl rfl rfl ?_ | refine T_fldm 1 rfl rfl rfl rfl rfl rfl (by decide) rfl rfl rfl ?_ | refine T_loadP rfl rfl rfl rfl rfl rfl rfl l0 ?_ | refine T_loadP rfl rfl rfl rfl rfl rfl rfl l1 ?_)
    exact ⟨_, ⟨_, _, rfl, rfl, rfl⟩, rfl, hB3⟩
  · rw [decide_eq_false hab]
    clear hB2 hC
    repeat (first | refine T_yes rfl rfl rfl ?_ rfl | refine T_no rfl rfl rfl rfl rfl rfl ?_ | refine T_no' rfl rfl rfl rfl rfl ?_ | refine W_seq ?_ | refine W_region ?_ | refine W_draw rfl (by kernel_rfl) ?_ | refine W_block ?_ | refine W_exit ?_ | refine W_skip ?_ | refine W_ret ?_ | refine T_nil ?_ | refine T_ari rfl rfl rfl rfl (by omega) ?_ | refine T_pev rfl rfl rfl rfl ?_ | refine T_fldm 0 rfl rfl rfl rfl rfl rfl (by decide) rfl rfl rfl ?_ | refine T_fldm 1 rfl rfl rfl rfl rfl rfl (by decide) rfl rfl rfl ?_ | refine T_loadP rfl rfl rfl rfl rfl rfl rfl l0 ?_ | refine T_loadP rfl rfl rfl rfl rfl rfl rfl l1 ?_)
    refine T_callC rfl rfl g_sum rfl rfl rfl rfl (fun hC => (sum_ok a _ _ (hv.below hC.2) ha).mono ?_)
    rintro e w3 ⟨rfl, hB3⟩
    refine ⟨_, rfl, ⟨blk_call hC.1 hB3, hC.2.call hB3⟩, ?_⟩
    clear hB3 hC
    repeat (first | refine T_yes rfl rfl rfl ?_ rfl | refine T_no rfl rfl rfl rfl rfl rfl ?_ | refine T_no' rfl rfl rfl rfl rfl ?_ | refine W_seq ?_ | refine W_region ?_ | refine W_draw rfl (by kernel_rfl) ?_ | refine W_block ?_ | refine W_exit ?_ | refine W_skip ?_ | refine W_ret ?_ | refine T_nil ?_ | refine T_ari rfl rfl rfl rfl (by omega) ?_ | refine T_pev rfl rfl rfl rfl ?_ | refine T_fldm 0 rfl rfl rfl rfl rfl rfl (by decide) rfl rfl rfl ?_ | refine T_fldm 1 rfl rfl rfl rfl rfl rfl (by decide) rfl rfl rfl ?_ | refine T_loadP rfl rfl rfl rfl rfl rfl rfl l0 ?_ | refine T_loadP rfl rfl rfl rfl rfl rfl rfl l1 ?_)
    refine T_callC rfl rfl g_sum rfl rfl rfl rfl (fun hC => (sum_ok b _ _ (hu.below hC.2) hb).mono ?_)
    rintro e w4 ⟨rfl, hB4⟩
    refine ⟨_, rfl, ⟨blk_call hC.1 hB4, hC.2.call hB4⟩, ?_⟩
    have hB5 := hC.2.call hB4
    repeat (first | refine T_yes rfl rfl rfl ?_ rfl | refine T_no rfl rfl rfl rfl rfl rfl ?_ | refine T_no' rfl rfl rfl rfl rfl ?_ | refine W_seq ?_ | refine W_region ?_ | refine W_draw rfl (by kernel_rfl) ?_ | refine W_block ?_ | refine W_exit ?_ | refine W_skip ?_ | refine W_ret ?_ | refine T_nil ?_ | refine T_ari rfl rfl rfl rfl (by omega) ?_ | refine T_pev rfl rfl rfl rfl ?_ | refine T_eqB (xs := Go.Sha.sha a) (ys := Go.Sha.sha b) rfl rfl rfl rfl rfl rfl rfl rfl rfl rfl rfl (Go.Sha.sha_len a) (Go.Sha.sha_len b) ?_)
    exact ⟨_, ⟨_, _, rfl, rfl, rfl⟩, rfl, hB5⟩

set_option maxHeartbeats 2000000 in
theorem rsame_ok (a b : List UInt8) (v u : Value) (w : World) (hv : Rd (hw w) v a.length 1 (a.map bV)) (hu : Rd (hw w) u b.length 1 (b.map bV)) (ha : a.length ≤ 1000000000) (hb : b.length ≤ 1000000000) :
    Calls Try.prog 21 #[.agg #[v, u]] w fun e w' => e = .returned (.bool (!decide (a = b) && decide (Go.Sha.sha a = Go.Sha.sha b))) ∧ Below w.heap.size w w' := by
  obtain ⟨va, vc, rfl, _⟩ := hv.shape
  obtain ⟨ua, uc, rfl, _⟩ := hu.shape
  refine enter1 _ Try.func21 rfl Try.ntmps21 Try.results21 rfl ?_
  refine W_seq ?_
  refine W_region ?_
  refine T_box (fun _ => trivial) rfl rfl rfl rfl rfl rfl fun bx w1 hbx hc hg => ?_
  have hB : Below w.heap.size w w1 := below_of_grown hg
  clear hg
  refine T_pev rfl rfl rfl rfl ?_
  refine T_nil ?_
  have l0 : ∀ u' : World, (planS w bx #[.slice va a.length vc, .slice ua b.length uc]).C u' → u'.cell? ⟨bx, 0, none⟩ = some (.slice va a.length vc) := fun u' h => cell_of_hcell (by rw [hcell_blk h.1]; rfl)
  have l1 : ∀ u' : World, (planS w bx #[.slice va a.length vc, .slice ua b.length uc]).C u' → u'.cell? ⟨bx, 1, none⟩ = some (.slice ua b.length uc) := fun u' h => cell_of_hcell (by rw [hcell_blk h.1]; rfl)
  refine W_seq ?_
  refine W_plan (planS w bx #[.slice va a.length vc, .slice ua b.length uc]) rfl (by kernel_rfl) ⟨hc, ⟨hB.os, hB.tape, hB.output, hB.size, hB.block⟩⟩ ?_
  repeat (first | refine T_yes rfl rfl rfl ?_ rfl | refine T_no rfl rfl rfl rfl rfl rfl ?_ | refine T_no' rfl rfl rfl rfl rfl ?_ | refine W_seq ?_ | refine W_region ?_ | refine W_draw rfl (by kernel_rfl) ?_ | refine W_block ?_ | refine W_exit ?_ | refine W_skip ?_ | refine W_ret ?_ | refine T_nil ?_ | refine T_ari rfl rfl rfl rfl (by omega) ?_ | refine T_pev rfl rfl rfl rfl ?_ | refine T_fldm 0 rfl rfl rfl rfl rfl rfl (by decide) rfl rfl rfl ?_ | refine T_fldm 1 rfl rfl rfl rfl rfl rfl (by decide) rfl rfl rfl ?_ | refine T_loadP rfl rfl rfl rfl rfl rfl rfl l0 ?_ | refine T_loadP rfl rfl rfl rfl rfl rfl rfl l1 ?_ | refine T_convP rfl rfl rfl rfl rfl rfl rfl rfl rfl (fun u h => hv.below h.2) ?_ | refine T_convP rfl rfl rfl rfl rfl rfl rfl rfl rfl (fun u h => hu.below h.2) ?_ | refine T_strne rfl rfl rfl rfl rfl rfl ?_)
  by_cases hab : a = b
  · rw [decide_eq_true hab]
    have hB3 : Below w.heap.size w w1.drew := ⟨hB.os, hB.tape, hB.output, hB.size, hB.block⟩
    repeat (first | refine T_yes rfl rfl rfl ?_ rfl | refine T_no rfl rfl rfl rfl rfl rfl ?_ | refine T_no' rfl rfl rfl rfl rfl ?_ | refine W_seq ?_ | refine W_region ?_ | refine W_draw rfl (by kernel_rfl) ?_ | refine W_block ?_ | refine W_exit ?_ | refine W_skip ?_ | refine W_ret ?_ | refine T_nil ?_ | refine T_ari rfl rfl rfl rfl (by omega) ?_ | refine T_pev rfl rfl rfl rfl ?_ | refine T_fldm 0 rfl rfl rfl rfl rfl rfl (by decide) rfl rfl rfl ?_ | refine T_fldm 1 rfl rfl rfl rfl rfl rfl (by decide) rfl rfl rfl ?_ | refine T_loadP rfl rfl rfl rfl rfl rfl rfl l0 ?_ | refine T_loadP rfl rfl rfl rfl rfl rfl rfl l1 ?_)
    exact ⟨_, ⟨_, _, rfl, rfl, rfl⟩, rfl, hB3⟩
  · rw [decide_eq_false hab]
    repeat (first | refine T_yes rfl rfl rfl ?_ rfl | refine T_no rfl rfl rfl rfl rfl rfl ?_ | refine T_no' rfl rfl rfl rfl rfl ?_ | refine W_seq ?_ | refine W_region ?_ | refine W_draw rfl (by kernel_rfl) ?_ | refine W_block ?_ | refine W_exit ?_ | refine W_skip ?_ | refine W_ret ?_ | refine T_nil ?_ | refine T_ari rfl rfl rfl rfl (by omega) ?_ | refine T_pev rfl rfl rfl rfl ?_ | refine T_fldm 0 rfl rfl rfl rfl rfl rfl (by decide) rfl rfl rfl ?_ | refine T_fldm 1 rfl rfl rfl rfl rfl rfl (by decide) rfl rfl rfl ?_ | refine T_loadP rfl rfl rfl rfl rfl rfl rfl l0 ?_ | refine T_loadP rfl rfl rfl rfl rfl rfl rfl l1 ?_)
    refine T_callC rfl rfl g_ref rfl rfl rfl rfl (fun hC => (refSum_ok a _ _ (hv.below hC.2) ha).mono ?_)
    rintro e w3 ⟨rfl, hB3⟩
    refine ⟨_, rfl, ⟨blk_call hC.1 hB3, hC.2.call hB3⟩, ?_⟩
    clear hB3 hC
    repeat (first | refine T_yes rfl rfl rfl ?_ rfl | refine T_no rfl rfl rfl rfl rfl rfl ?_ | refine T_no' rfl rfl rfl rfl rfl ?_ | refine W_seq ?_ | refine W_region ?_ | refine W_draw rfl (by kernel_rfl) ?_ | refine W_block ?_ | refine W_exit ?_ | refine W_skip ?_ | refine W_ret ?_ | refine T_nil ?_ | refine T_ari rfl rfl rfl rfl (by omega) ?_ | refine T_pev rfl rfl rfl rfl ?_ | refine T_fldm 0 rfl rfl rfl rfl rfl rfl (by decide) rfl rfl rfl ?_ | refine T_fldm 1 rfl rfl rfl rfl rfl rfl (by decide) rfl rfl rfl ?_ | refine T_loadP rfl rfl rfl rfl rfl rfl rfl l0 ?_ | refine T_loadP rfl rfl rfl rfl rfl rfl rfl l1 ?_)
    refine T_callC rfl rfl g_ref rfl rfl rfl rfl (fun hC => (refSum_ok b _ _ (hu.below hC.2) hb).mono ?_)
    rintro e w4 ⟨rfl, hB4⟩
    refine ⟨_, rfl, ⟨blk_call hC.1 hB4, hC.2.call hB4⟩, ?_⟩
    have hB5 := hC.2.call hB4
    repeat (first | refine T_yes rfl rfl rfl ?_ rfl | refine T_no rfl rfl rfl rfl rfl rfl ?_ | refine T_no' rfl rfl rfl rfl rfl ?_ | refine W_seq ?_ | refine W_region ?_ | refine W_draw rfl (by kernel_rfl) ?_ | refine W_block ?_ | refine W_exit ?_ | refine W_skip ?_ | refine W_ret ?_ | refine T_nil ?_ | refine T_ari rfl rfl rfl rfl (by omega) ?_ | refine T_pev rfl rfl rfl rfl ?_ | refine T_eqB (xs := Go.Sha.sha a) (ys := Go.Sha.sha b) rfl rfl rfl rfl rfl rfl rfl rfl rfl rfl rfl (Go.Sha.sha_len a) (Go.Sha.sha_len b) ?_)
    exact ⟨_, ⟨_, _, rfl, rfl, rfl⟩, rfl, hB5⟩

set_option maxHeartbeats 2000000 in
theorem shaBreaks_ok (a0 b0 : List UInt8) (v u : Value) (w : World) (hv : Rd (hw w) v a0.length 1 (a0.map bV)) (hu : Rd (hw w) u b0.length 1 (b0.map bV)) :
    Calls Try.prog 7 #[v, u] w fun e w' => e = .returned (.bool true) ∧ Below w.heap.size w w' := by
  obtain ⟨va, vc, rfl, _⟩ := hv.shape
  obtain ⟨ua, uc, rfl, _⟩ := hu.shape
  refine enter2 _ Try.func7 rfl Try.ntmps7 Try.results7 rfl ?_
  repeat (first | refine W_seq ?_ | refine W_region ?_ | refine W_draw rfl (by kernel_rfl) ?_ | refine W_block ?_ | refine W_exit ?_ | refine W_skip ?_ | refine W_ret ?_ | refine T_nil ?_ | refine T_ari rfl rfl rfl rfl (by omega) ?_ | refine T_pev rfl rfl rfl rfl ?_)
  refine T_call (fun _ => trivial) rfl rfl g_cut rfl rfl rfl rfl ((cut_ok (hw w) a0 _ 100 _ hv).mono ?_)
  rintro e w1 ⟨v1, rfl, hv1, hB⟩
  refine ⟨_, rfl, ?_⟩
  repeat (first | refine W_seq ?_ | refine W_region ?_ | refine W_draw rfl (by kernel_rfl) ?_ | refine W_block ?_ | refine W_exit ?_ | refine W_skip ?_ | refine W_ret ?_ | refine T_nil ?_ | refine T_ari rfl rfl rfl rfl (by omega) ?_ | refine T_pev rfl rfl rfl rfl ?_)
  refine T_call (fun _ => trivial) rfl rfl g_cut rfl rfl rfl rfl ((cut_ok (hw w) b0 _ 100 _ hu).mono ?_)
  rintro e w2 ⟨u1, rfl, hu1, hB2⟩
  refine ⟨_, rfl, ?_⟩
  replace hB := hB.call hB2
  clear hB2 hv hu
  obtain ⟨a, ha⟩ : ∃ a, a = a0.take 100 := ⟨_, rfl⟩
  obtain ⟨b, hb⟩ : ∃ b, b = b0.take 100 := ⟨_, rfl⟩
  have hal : a.length ≤ 100 := by rw [ha, List.length_take]; omega
  have hbl : b.length ≤ 100 := by rw [hb, List.length_take]; omega
  rw [← ha] at hv1
  rw [← hb] at hu1
  clear ha hb
  obtain ⟨xa, xc, rfl, _⟩ := hv1.shape
  obtain ⟨ya, yc, rfl, _⟩ := hu1.shape
  repeat (first | refine W_seq ?_ | refine W_region ?_ | refine W_draw rfl (by kernel_rfl) ?_ | refine W_block ?_ | refine W_exit ?_ | refine W_skip ?_ | refine W_ret ?_ | refine T_nil ?_ | refine T_ari rfl rfl rfl rfl (by omega) ?_ | refine T_pev rfl rfl rfl rfl ?_ | refine T_buildS (cells := #[.slice xa a.length xc, .slice ya b.length yc]) rfl rfl rfl rfl rfl rfl rfl rfl rfl rfl ?_)
  refine T_call (fun _ => trivial) rfl rfl g_same rfl rfl rfl rfl ((same_ok a b _ _ w2 (hv1.below hB) (hu1.below hB) (by omega) (by omega)).mono ?_)
  rintro e w3 ⟨rfl, hB3⟩
  refine ⟨_, rfl, ?_⟩
  replace hB := hB.call hB3
  repeat (first | refine W_seq ?_ | refine W_region ?_ | refine W_draw rfl (by kernel_rfl) ?_ | refine W_block ?_ | refine W_exit ?_ | refine W_skip ?_ | refine W_ret ?_ | refine T_nil ?_ | refine T_ari rfl rfl rfl rfl (by omega) ?_ | refine T_pev rfl rfl rfl rfl ?_ | refine T_buildS (cells := #[.slice xa a.length xc, .slice ya b.length yc]) rfl rfl rfl rfl rfl rfl rfl rfl rfl rfl ?_)
  refine T_call (fun _ => trivial) rfl rfl g_rsame rfl rfl rfl rfl ((rsame_ok a b _ _ w3 (hv1.below hB) (hu1.below hB) (by omega) (by omega)).mono ?_)
  rintro e w4 ⟨rfl, hB4⟩
  refine ⟨_, rfl, ?_⟩
  replace hB := hB.call hB4
  repeat (first | refine T_yes rfl rfl rfl ?_ rfl | refine T_no rfl rfl rfl rfl rfl rfl ?_ | refine T_no' rfl rfl rfl rfl rfl ?_ | refine W_seq ?_ | refine W_region ?_ | refine W_draw rfl (by kernel_rfl) ?_ | refine W_block ?_ | refine W_exit ?_ | refine W_skip ?_ | refine W_ret ?_ | refine T_nil ?_ | refine T_ari rfl rfl rfl rfl (by omega) ?_ | refine T_pev rfl rfl rfl rfl ?_ | refine T_beqT rfl rfl rfl rfl rfl rfl rfl ?_)
  refine T_call (fun _ => trivial) rfl rfl g_copy rfl rfl rfl rfl ((copy_ok a _ w4 (hv1.below hB) (by omega)).mono ?_)
  rintro e w5 ⟨v5, rfl, ho5, hB5⟩
  refine ⟨_, rfl, ?_⟩
  replace hB := hB.call hB5
  obtain ⟨za, zc, hv5, _⟩ := (Rd.of_owns ho5).shape
  subst hv5
  repeat (first | refine T_yes rfl rfl rfl ?_ rfl | refine T_no rfl rfl rfl rfl rfl rfl ?_ | refine T_no' rfl rfl rfl rfl rfl ?_ | refine W_seq ?_ | refine W_region ?_ | refine W_draw rfl (by kernel_rfl) ?_ | refine W_block ?_ | refine W_exit ?_ | refine W_skip ?_ | refine W_ret ?_ | refine T_nil ?_ | refine T_ari rfl rfl rfl rfl (by omega) ?_ | refine T_pev rfl rfl rfl rfl ?_ | refine T_buildS (cells := #[.slice xa a.length xc, .slice za a.length zc]) rfl rfl rfl rfl rfl rfl rfl rfl rfl rfl ?_)
  refine T_call (fun _ => trivial) rfl rfl g_same rfl rfl rfl rfl ((same_ok a a _ _ w5 (hv1.below hB) (Rd.of_owns ho5) (by omega) (by omega)).mono ?_)
  rintro e w6 ⟨rfl, hB6⟩
  refine ⟨_, rfl, ?_⟩
  replace hB := hB.call hB6
  have ee : (!decide (a = a) && decide (Go.Sha.sha a = Go.Sha.sha a)) = false := by simp
  rw [ee]
  repeat (first | refine T_yes rfl rfl rfl ?_ rfl | refine T_no rfl rfl rfl rfl rfl rfl ?_ | refine T_no' rfl rfl rfl rfl rfl ?_ | refine W_seq ?_ | refine W_region ?_ | refine W_draw rfl (by kernel_rfl) ?_ | refine W_block ?_ | refine W_exit ?_ | refine W_skip ?_ | refine W_ret ?_ | refine T_nil ?_ | refine T_ari rfl rfl rfl rfl (by omega) ?_ | refine T_pev rfl rfl rfl rfl ?_)
  refine T_call (fun _ => trivial) rfl rfl g_wakes rfl rfl rfl rfl ((wakes_ok w6).mono ?_)
  rintro e w7 ⟨rfl, hB7⟩
  refine ⟨_, rfl, ?_⟩
  replace hB := hB.call hB7
  repeat (first | refine T_yes rfl rfl rfl ?_ rfl | refine T_no rfl rfl rfl rfl rfl rfl ?_ | refine T_no' rfl rfl rfl rfl rfl ?_ | refine W_seq ?_ | refine W_region ?_ | refine W_draw rfl (by kernel_rfl) ?_ | refine W_block ?_ | refine W_exit ?_ | refine W_skip ?_ | refine W_ret ?_ | refine T_nil ?_ | refine T_ari rfl rfl rfl rfl (by omega) ?_ | refine T_pev rfl rfl rfl rfl ?_)
  exact ⟨_, ⟨_, _, rfl, rfl, rfl⟩, rfl, hB⟩

end Go.Proofs.Ytikgpfhjhfpmbaa
