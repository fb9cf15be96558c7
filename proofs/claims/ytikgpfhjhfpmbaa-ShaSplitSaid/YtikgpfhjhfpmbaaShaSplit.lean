/- ShaSplit: the walk. -/
import Derived.Test.YtikgpfhjhfpmbaaShaE
import Derived.Test.YtikgpfhjhfpmbaaFOpen
import Derived.Test.YtikgpfhjhfpmbaaFEq
set_option linter.unusedVariables false

namespace Go.Proofs.Ytikgpfhjhfpmbaa
open Go Go.F Go.RowKit

set_option maxHeartbeats 4000000 in
theorem shaSplit_ok (b : List UInt8) (zs : List Int) (v c : Value) (w : World) (hv : Rd (hw w) v b.length 1 (b.map bV)) (hc : Rd (hw w) c zs.length 1 (zs.map (Value.int .i64))) :
    Calls Try.prog 3 #[v, c] w fun e w' => e = .returned (.bool true) ∧ Below w.heap.size w w' := by
  obtain ⟨va, vc, rfl, _⟩ := hv.shape
  obtain ⟨ca, cc, rfl, _⟩ := hc.shape
  refine enter2 _ Try.func3 rfl Try.ntmps3 Try.results3 rfl ?_
  repeat (first | refine W_seq ?_ | refine W_region ?_ | refine W_draw rfl (by kernel_rfl) ?_ | refine W_block ?_ | refine W_exit ?_ | refine W_skip ?_ | refine W_ret ?_ | refine T_nil ?_ | refine T_ari rfl rfl rfl rfl (by omega) ?_ | refine T_pev rfl rfl rfl rfl ?_)
  refine T_call (fun _ => trivial) rfl rfl g_cut rfl rfl rfl rfl ((cut_ok (hw w) b _ 300 w hv).mono ?_)
  rintro e w1 ⟨v1, rfl, hv1, hB1⟩
  refine ⟨_, rfl, ?_⟩
  obtain ⟨x, hx⟩ : ∃ x, x = b.take 300 := ⟨_, rfl⟩
  have hxl : x.length ≤ 300 := by rw [hx, List.length_take]; omega
  rw [← hx] at hv1
  clear hx hv
  obtain ⟨va1, vc1, rfl, _⟩ := hv1.shape
  repeat (first | refine W_seq ?_ | refine W_region ?_ | refine W_draw rfl (by kernel_rfl) ?_ | refine W_block ?_ | refine W_exit ?_ | refine W_skip ?_ | refine W_ret ?_ | refine T_nil ?_ | refine T_ari rfl rfl rfl rfl (by omega) ?_ | refine T_pev rfl rfl rfl rfl ?_)
  refine T_call (fun _ => trivial) rfl rfl g_new rfl rfl rfl rfl ((new_ok w1).mono ?_)
  rintro e w2 ⟨sb, rfl, h1, h2, hs2, hB2⟩
  refine ⟨_, rfl, ?_⟩
  have hsb : w.heap.size ≤ sb := by have := hB1.size; omega
  replace hB1 := hB1.call hB2
  clear hB2 h1 h2
  repeat (first | refine W_seq ?_ | refine W_region ?_ | refine W_draw rfl (by kernel_rfl) ?_ | refine W_block ?_ | refine W_exit ?_ | refine W_skip ?_ | refine W_ret ?_ | refine T_nil ?_ | refine T_ari rfl rfl rfl rfl (by omega) ?_ | refine T_pev rfl rfl rfl rfl ?_ | refine T_pnil rfl rfl rfl rfl rfl rfl rfl ?_)
  refine W_cond_false rfl ?_
  repeat (first | refine W_seq ?_ | refine W_region ?_ | refine W_draw rfl (by kernel_rfl) ?_ | refine W_block ?_ | refine W_exit ?_ | refine W_skip ?_ | refine W_ret ?_ | refine T_nil ?_ | refine T_ari rfl rfl rfl rfl (by omega) ?_ | refine T_pev rfl rfl rfl rfl ?_)
  refine W_loop (fun M ρ w' => ∃ (i at' B : Nat), M = 8 - i ∧ i ≤ 8 ∧ ρ = [(0, .slice va1 x.length vc1), (1, .slice ca zs.length cc), (5, .pointer (some ⟨sb, 0, none⟩)), (6, .int .i64 (at' : Int)), (7, .int .i64 (i : Int))] ∧ at' ≤ x.length ∧ ShaAt w' sb B (x.take at') ∧ Below w.heap.size w w')
    (8 - 0) [(0, .slice va1 x.length vc1), (1, .slice ca zs.length cc), (5, .pointer (some ⟨sb, 0, none⟩)), (6, .int .i64 (0 : Int)), (7, .int .i64 (0 : Int))] ⟨rfl, rfl, rfl, rfl, rfl, trivial⟩ ⟨0, 0, _, rfl, by omega, rfl, by omega, hs2, hB1⟩ ?_
  clear hs2 hB1
  rintro M ρ w3 ⟨i, at', B, rfl, hi, rfl, hat, hs3, hB3⟩
  have hv3 : Rd (hx w3 sb) (.slice va1 x.length vc1) x.length 1 (x.map bV) := hv1.mono (hw_hx_below hB3 hsb)
  by_cases hlt : i < zs.length
  · by_cases hi8 : i < 8
    · repeat (first | refine W_seq ?_ | refine W_region ?_ | refine W_draw rfl (by kernel_rfl) ?_ | refine W_block ?_ | refine W_exit ?_ | refine W_skip ?_ | refine W_ret ?_ | refine T_nil ?_ | refine T_ari rfl rfl rfl rfl (by omega) ?_ | refine T_pev rfl rfl rfl rfl ?_)
      rw [decide_eq_true (show (i : Int) < (zs.length : Int) by omega)]
      repeat (first | refine T_yes rfl rfl rfl ?_ rfl | refine T_no rfl rfl rfl rfl rfl rfl ?_ | refine T_no' rfl rfl rfl rfl rfl ?_ | refine W_seq ?_ | refine W_region ?_ | refine W_draw rfl (by kernel_rfl) ?_ | refine W_block ?_ | refine W_exit ?_ | refine W_skip ?_ | refine W_ret ?_ | refine T_nil ?_ | refine T_ari rfl rfl rfl rfl (by omega) ?_ | refine T_pev rfl rfl rfl rfl ?_)
      rw [decide_eq_true (show (i : Int) < 8 by omega)]
      repeat (first | refine T_yes rfl rfl rfl ?_ rfl | refine T_no rfl rfl rfl rfl rfl rfl ?_ | refine T_no' rfl rfl rfl rfl rfl ?_ | refine W_seq ?_ | refine W_region ?_ | refine W_draw rfl (by kernel_rfl) ?_ | refine W_block ?_ | refine W_exit ?_ | refine W_skip ?_ | refine W_ret ?_ | refine T_nil ?_ | refine T_ari rfl rfl rfl rfl (by omega) ?_ | refine T_pev rfl rfl rfl rfl ?_)
      refine W_cond_true rfl ?_
      obtain ⟨cb, co, cc', hce, _, hcell⟩ := (hc.below hB3).get (by omega)
      simp only [Value.slice.injEq, true_and] at hce
      obtain ⟨rfl, rfl⟩ := hce
      have hci : w3.cell? ⟨cb, co + (i : Int).toNat, none⟩ = some (.int .i64 (zs[i]'hlt)) := cell_of_hcell (hcell i _ (by rw [List.getElem?_map, List.getElem?_eq_getElem hlt]; rfl))
      repeat (first | refine W_seq ?_ | refine W_region ?_ | refine W_draw rfl (by kernel_rfl) ?_ | refine W_block ?_ | refine W_exit ?_ | refine W_skip ?_ | refine W_ret ?_ | refine T_nil ?_ | refine T_ari rfl rfl rfl rfl (by omega) ?_ | refine T_pev rfl rfl rfl rfl ?_ | refine T_idx1 rfl rfl rfl rfl rfl rfl rfl rfl rfl (by omega) ?_ | refine T_load rfl rfl rfl rfl rfl rfl rfl hci ?_)
      refine T_call (fun _ => trivial) rfl rfl g_within rfl rfl rfl rfl ((within_ok _ _ w3 (by omega)).mono ?_)
      rintro e w4 ⟨rfl, hB4⟩
      refine ⟨_, rfl, ?_⟩
      have q1 := Int.emod_nonneg (zs[i]'hlt) (show ((x.length : Int) - (at' : Int) + 1) ≠ 0 by omega)
      have q2 := Int.emod_lt_of_pos (zs[i]'hlt) (show 0 < ((x.length : Int) - (at' : Int) + 1) by omega)
      obtain ⟨nn, hnn⟩ := Int.eq_ofNat_of_zero_le q1
      rw [hnn] at q2 ⊢
      have hnx : at' + nn ≤ x.length := by omega
      clear hnn q1 q2 hci hcell
      replace hs3 := hs3.call hB4
      replace hv3 := hv3.mono (hx_call hB4)
      replace hB3 := hB3.call hB4
      repeat (first | refine W_seq ?_ | refine W_region ?_ | refine W_draw rfl (by kernel_rfl) ?_ | refine W_block ?_ | refine W_exit ?_ | refine W_skip ?_ | refine W_ret ?_ | refine T_nil ?_ | refine T_ari rfl rfl rfl rfl (by omega) ?_ | refine T_pev rfl rfl rfl rfl ?_)
      refine T_slice (size := 1) (l := at') (h := at' + nn) rfl rfl rfl rfl rfl rfl rfl rfl rfl rfl hv3 (bound_of (by omega)) (bound_of rfl) (by omega) hnx (fun a' c' r => ?_)
      have hlen : ((x.drop at').take nn).length = at' + nn - at' := by rw [List.length_take, List.length_drop]; omega
      have r' : Rd (hx w4 sb) (.slice a' (at' + nn - at') c') ((x.drop at').take nn).length 1 (((x.drop at').take nn).map bV) := by
        rw [hlen]
        have e2 : ((x.drop at').take nn).map bV = ((x.map bV).drop (at' * 1)).take ((at' + nn - at') * 1) := by
          rw [Nat.mul_one, Nat.mul_one, Nat.add_sub_cancel_left, List.map_take, List.map_drop]
        rw [e2]; exact r
      have htake : x.take at' ++ (x.drop at').take nn = x.take (at' + nn) := List.take_add.symm
      refine T_call (fun _ => trivial) rfl rfl g_write rfl rfl rfl rfl ((write_ok _ _ sb _ _ w4 hs3 r' (by rw [← List.length_append, htake, List.length_take]; omega)).mono ?_)
      rintro e w5 ⟨rfl, hs5, hg5⟩
      refine ⟨_, rfl, ?_⟩
      rw [htake] at hs5 ⊢
      replace hB3 := hB3.stepg hg5 hsb
      clear hg5 hs3 hv3 r r'
      repeat (first | refine W_seq ?_ | refine W_region ?_ | refine W_draw rfl (by kernel_rfl) ?_ | refine W_block ?_ | refine W_exit ?_ | refine W_skip ?_ | refine W_ret ?_ | refine T_nil ?_ | refine T_ari rfl rfl rfl rfl (by omega) ?_ | refine T_pev rfl rfl rfl rfl ?_)
      refine W_cond_not rfl (fun h => absurd (show ((x.take (at' + nn)).length : Int) = (at' : Int) + (nn : Int) by rw [List.length_take]; omega) h) (fun _ => ?_)
      repeat (first | refine W_seq ?_ | refine W_region ?_ | refine W_draw rfl (by kernel_rfl) ?_ | refine W_block ?_ | refine W_exit ?_ | refine W_skip ?_ | refine W_ret ?_ | refine T_nil ?_ | refine T_ari rfl rfl rfl rfl (by omega) ?_ | refine T_pev rfl rfl rfl rfl ?_)
      exact ⟨8 - (i + 1), [(0, .slice va1 x.length vc1), (1, .slice (some ⟨cb, co, none⟩) zs.length cc), (5, .pointer (some ⟨sb, 0, none⟩)), (6, .int .i64 ((at' + nn : Nat) : Int)), (7, .int .i64 ((i + 1 : Nat) : Int))], by omega, ⟨rfl, rfl, rfl, rfl, rfl, trivial⟩, i + 1, at' + nn, _, rfl, by omega, rfl, hnx, hs5, hB3⟩
    · repeat (first | refine W_seq ?_ | refine W_region ?_ | refine W_draw rfl (by kernel_rfl) ?_ | refine W_block ?_ | refine W_exit ?_ | refine W_skip ?_ | refine W_ret ?_ | refine T_nil ?_ | refine T_ari rfl rfl rfl rfl (by omega) ?_ | refine T_pev rfl rfl rfl rfl ?_)
      rw [decide_eq_true (show (i : Int) < (zs.length : Int) by omega)]
      repeat (first | refine T_yes rfl rfl rfl ?_ rfl | refine T_no rfl rfl rfl rfl rfl rfl ?_ | refine T_no' rfl rfl rfl rfl rfl ?_ | refine W_seq ?_ | refine W_region ?_ | refine W_draw rfl (by kernel_rfl) ?_ | refine W_block ?_ | refine W_exit ?_ | refine W_skip ?_ | refine W_ret ?_ | refine T_nil ?_ | refine T_ari rfl rfl rfl rfl (by omega) ?_ | refine T_pev rfl rfl rfl rfl ?_)
      rw [decide_eq_false (show ¬ (i : Int) < 8 by omega)]
      repeat (first | refine T_yes rfl rfl rfl ?_ rfl | refine T_no rfl rfl rfl rfl rfl rfl ?_ | refine T_no' rfl rfl rfl rfl rfl ?_ | refine W_seq ?_ | refine W_region ?_ | refine W_draw rfl (by kernel_rfl) ?_ | refine W_block ?_ | refine W_exit ?_ | refine W_skip ?_ | refine W_ret ?_ | refine T_nil ?_ | refine T_ari rfl rfl rfl rfl (by omega) ?_ | refine T_pev rfl rfl rfl rfl ?_)
      refine W_cond_false rfl ?_
      repeat (first | refine W_seq ?_ | refine W_region ?_ | refine W_draw rfl (by kernel_rfl) ?_ | refine W_block ?_ | refine W_exit ?_ | refine W_skip ?_ | refine W_ret ?_ | refine T_nil ?_ | refine T_ari rfl rfl rfl rfl (by omega) ?_ | refine T_pev rfl rfl rfl rfl ?_)
      refine T_slice (size := 1) (l := at') (h := x.length) rfl rfl rfl rfl rfl rfl rfl rfl rfl rfl hv3 rfl (bound_of rfl) hat (Nat.le_refl _) (fun a' c' r => ?_)
      have hlen : (x.drop at').length = x.length - at' := by rw [List.length_drop]
      have r' : Rd (hx w3 sb) (.slice a' (x.length - at') c') (x.drop at').length 1 ((x.drop at').map bV) := by
        rw [hlen]
        have e2 : (x.drop at').map bV = ((x.map bV).drop (at' * 1)).take ((x.length - at') * 1) := by
          rw [Nat.mul_one, Nat.mul_one, ← List.map_drop, List.take_of_length_le (by simp)]
        rw [e2]; exact r
      have htake : x.take at' ++ x.drop at' = x := List.take_append_drop at' x
      refine T_call (fun _ => trivial) rfl rfl g_write rfl rfl rfl rfl ((write_ok _ _ sb _ _ w3 hs3 r' (by rw [← List.length_append, htake]; omega)).mono ?_)
      rintro e w5 ⟨rfl, hs5, hg5⟩
      refine ⟨_, rfl, ?_⟩
      rw [htake] at hs5 ⊢
      replace hB3 := hB3.stepg hg5 hsb
      clear hg5 hs3 hv3 r r'
      repeat (first | refine W_seq ?_ | refine W_region ?_ | refine W_draw rfl (by kernel_rfl) ?_ | refine W_block ?_ | refine W_exit ?_ | refine W_skip ?_ | refine W_ret ?_ | refine T_nil ?_ | refine T_ari rfl rfl rfl rfl (by omega) ?_ | refine T_pev rfl rfl rfl rfl ?_)
      rw [decide_eq_true (show (x.length : Int) = (x.length : Int) from rfl)]
      repeat (first | refine T_yes rfl rfl rfl ?_ rfl | refine T_no rfl rfl rfl rfl rfl rfl ?_ | refine T_no' rfl rfl rfl rfl rfl ?_ | refine W_seq ?_ | refine W_region ?_ | refine W_draw rfl (by kernel_rfl) ?_ | refine W_block ?_ | refine W_exit ?_ | refine W_skip ?_ | refine W_ret ?_ | refine T_nil ?_ | refine T_ari rfl rfl rfl rfl (by omega) ?_ | refine T_pev rfl rfl rfl rfl ?_)
      refine T_call (fun _ => trivial) rfl rfl g_sumM rfl rfl rfl rfl ((sumM_ok x sb _ w5 hs5 (by omega)).mono ?_)
      rintro e w6 ⟨rfl, hB6⟩
      refine ⟨_, rfl, ?_⟩
      replace hs5 := hs5.call hB6
      replace hB3 := hB3.call hB6
      clear hB6
      repeat (first | refine T_yes rfl rfl rfl ?_ rfl | refine T_no rfl rfl rfl rfl rfl rfl ?_ | refine T_no' rfl rfl rfl rfl rfl ?_ | refine W_seq ?_ | refine W_region ?_ | refine W_draw rfl (by kernel_rfl) ?_ | refine W_block ?_ | refine W_exit ?_ | refine W_skip ?_ | refine W_ret ?_ | refine T_nil ?_ | refine T_ari rfl rfl rfl rfl (by omega) ?_ | refine T_pev rfl rfl rfl rfl ?_)
      refine T_call (fun _ => trivial) rfl rfl g_sum rfl rfl rfl rfl ((sum_ok x _ w6 (hv1.below hB3) (by omega)).mono ?_)
      rintro e w7 ⟨rfl, hB7⟩
      refine ⟨_, rfl, ?_⟩
      replace hs5 := hs5.call hB7
      replace hB3 := hB3.call hB7
      clear hB7
      repeat (first | refine T_yes rfl rfl rfl ?_ rfl | refine T_no rfl rfl rfl rfl rfl rfl ?_ | refine T_no' rfl rfl rfl rfl rfl ?_ | refine W_seq ?_ | refine W_region ?_ | refine W_draw rfl (by kernel_rfl) ?_ | refine W_block ?_ | refine W_exit ?_ | refine W_skip ?_ | refine W_ret ?_ | refine T_nil ?_ | refine T_ari rfl rfl rfl rfl (by omega) ?_ | refine T_pev rfl rfl rfl rfl ?_ | refine T_eqT (Go.Sha.sha x) (Go.Sha.sha x) rfl rfl rfl rfl rfl rfl rfl rfl rfl rfl rfl (Go.Sha.sha_len x) rfl ?_)
      refine T_call (fun _ => trivial) rfl rfl g_sumM rfl rfl rfl rfl ((sumM_ok x sb _ w7 hs5 (by omega)).mono ?_)
      rintro e w8 ⟨rfl, hB8⟩
      refine ⟨_, rfl, ?_⟩
      replace hB3 := hB3.call hB8
      clear hB8 hs5
      repeat (first | refine T_yes rfl rfl rfl ?_ rfl | refine T_no rfl rfl rfl rfl rfl rfl ?_ | refine T_no' rfl rfl rfl rfl rfl ?_ | refine W_seq ?_ | refine W_region ?_ | refine W_draw rfl (by kernel_rfl) ?_ | refine W_block ?_ | refine W_exit ?_ | refine W_skip ?_ | refine W_ret ?_ | refine T_nil ?_ | refine T_ari rfl rfl rfl rfl (by omega) ?_ | refine T_pev rfl rfl rfl rfl ?_)
      refine T_call (fun _ => trivial) rfl rfl g_sum rfl rfl rfl rfl ((sum_ok x _ w8 (hv1.below hB3) (by omega)).mono ?_)
      rintro e w9 ⟨rfl, hB9⟩
      refine ⟨_, rfl, ?_⟩
      replace hB3 := hB3.call hB9
      clear hB9
      repeat (first | refine T_yes rfl rfl rfl ?_ rfl | refine T_no rfl rfl rfl rfl rfl rfl ?_ | refine T_no' rfl rfl rfl rfl rfl ?_ | refine W_seq ?_ | refine W_region ?_ | refine W_draw rfl (by kernel_rfl) ?_ | refine W_block ?_ | refine W_exit ?_ | refine W_skip ?_ | refine W_ret ?_ | refine T_nil ?_ | refine T_ari rfl rfl rfl rfl (by omega) ?_ | refine T_pev rfl rfl rfl rfl ?_ | refine T_eqT (Go.Sha.sha x) (Go.Sha.sha x) rfl rfl rfl rfl rfl rfl rfl rfl rfl rfl rfl (Go.Sha.sha_len x) rfl ?_)
      refine T_call (fun _ => trivial) rfl rfl g_wakes rfl rfl rfl rfl ((wakes_ok w9).mono ?_)
      rintro e w10 ⟨rfl, hB10⟩
      refine ⟨_, rfl, ?_⟩
      replace hB3 := hB3.call hB10
      repeat (first | refine T_yes rfl rfl rfl ?_ rfl | refine T_no rfl rfl rfl rfl rfl rfl ?_ | refine T_no' rfl rfl rfl rfl rfl ?_ | refine W_seq ?_ | refine W_region ?_ | refine W_draw rfl (by kernel_rfl) ?_ | refine W_block ?_ | refine W_exit ?_ | refine W_skip ?_ | refine W_ret ?_ | refine T_nil ?_ | refine T_ari rfl rfl rfl rfl (by omega) ?_ | refine T_pev rfl rfl rfl rfl ?_)
      exact ⟨_, ⟨_, _, rfl, rfl, rfl⟩, rfl, hB3⟩
  · repeat (first | refine W_seq ?_ | refine W_region ?_ | refine W_draw rfl (by kernel_rfl) ?_ | refine W_block ?_ | refine W_exit ?_ | refine W_skip ?_ | refine W_ret ?_ | refine T_nil ?_ | refine T_ari rfl rfl rfl rfl (by omega) ?_ | refine T_pev rfl rfl rfl rfl ?_)
    rw [decide_eq_false (show ¬ (i : Int) < (zs.length : Int) by omega)]
    repeat (first | refine T_yes rfl rfl rfl ?_ rfl | refine T_no rfl rfl rfl rfl rfl rfl ?_ | refine T_no' rfl rfl rfl rfl rfl ?_ | refine W_seq ?_ | refine W_region ?_ | refine W_draw rfl (by kernel_rfl) ?_ | refine W_block ?_ | refine W_exit ?_ | refine W_skip ?_ | refine W_ret ?_ | refine T_nil ?_ | refine T_ari rfl rfl rfl rfl (by omega) ?_ | refine T_pev rfl rfl rfl rfl ?_)
    refine W_cond_false rfl ?_
    repeat (first | refine W_seq ?_ | refine W_region ?_ | refine W_draw rfl (by kernel_rfl) ?_ | refine W_block ?_ | refine W_exit ?_ | refine W_skip ?_ | refine W_ret ?_ | refine T_nil ?_ | refine T_ari rfl rfl rfl rfl (by omega) ?_ | refine T_pev rfl rfl rfl rfl ?_)
    refine T_slice (size := 1) (l := at') (h := x.length) rfl rfl rfl rfl rfl rfl rfl rfl rfl rfl hv3 rfl (bound_of rfl) hat (Nat.le_refl _) (fun a' c' r => ?_)
    have hlen : (x.drop at').length = x.length - at' := by rw [List.length_drop]
    have r' : Rd (hx w3 sb) (.slice a' (x.length - at') c') (x.drop at').length 1 ((x.drop at').map bV) := by
      rw [hlen]
      have e2 : (x.drop at').map bV = ((x.map bV).drop (at' * 1)).take ((x.length - at') * 1) := by
        rw [Nat.mul_one, Nat.mul_one, ← List.map_drop, List.take_of_length_le (by simp)]
      rw [e2]; exact r
    have htake : x.take at' ++ x.drop at' = x := List.take_append_drop at' x
    refine T_call (fun _ => trivial) rfl rfl g_write rfl rfl rfl rfl ((write_ok _ _ sb _ _ w3 hs3 r' (by rw [← List.length_append, htake]; omega)).mono ?_)
    rintro e w5 ⟨rfl, hs5, hg5⟩
    refine ⟨_, rfl, ?_⟩
    rw [htake] at hs5 ⊢
    replace hB3 := hB3.stepg hg5 hsb
    clear hg5 hs3 hv3 r r'
    repeat (first | refine W_seq ?_ | refine W_region ?_ | refine W_draw rfl (by kernel_rfl) ?_ | refine W_block ?_ | refine W_exit ?_ | refine W_skip ?_ | refine W_ret ?_ | refine T_nil ?_ | refine T_ari rfl rfl rfl rfl (by omega) ?_ | refine T_pev rfl rfl rfl rfl ?_)
    rw [decide_eq_true (show (x.length : Int) = (x.length : Int) from rfl)]
    repeat (first | refine T_yes rfl rfl rfl ?_ rfl | refine T_no rfl rfl rfl rfl rfl rfl ?_ | refine T_no' rfl rfl rfl rfl rfl ?_ | refine W_seq ?_ | refine W_region ?_ | refine W_draw rfl (by kernel_rfl) ?_ | refine W_block ?_ | refine W_exit ?_ | refine W_skip ?_ | refine W_ret ?_ | refine T_nil ?_ | refine T_ari rfl rfl rfl rfl (by omega) ?_ | refine T_pev rfl rfl rfl rfl ?_)
    refine T_call (fun _ => trivial) rfl rfl g_sumM rfl rfl rfl rfl ((sumM_ok x sb _ w5 hs5 (by omega)).mono ?_)
    rintro e w6 ⟨rfl, hB6⟩
    refine ⟨_, rfl, ?_⟩
    replace hs5 := hs5.call hB6
    replace hB3 := hB3.call hB6
    clear hB6
    repeat (first | refine T_yes rfl rfl rfl ?_ rfl | refine T_no rfl rfl rfl rfl rfl rfl ?_ | refine T_no' rfl rfl rfl rfl rfl ?_ | refine W_seq ?_ | refine W_region ?_ | refine W_draw rfl (by kernel_rfl) ?_ | refine W_block ?_ | refine W_exit ?_ | refine W_skip ?_ | refine W_ret ?_ | refine T_nil ?_ | refine T_ari rfl rfl rfl rfl (by omega) ?_ | refine T_pev rfl rfl rfl rfl ?_)
    refine T_call (fun _ => trivial) rfl rfl g_sum rfl rfl rfl rfl ((sum_ok x _ w6 (hv1.below hB3) (by omega)).mono ?_)
    rintro e w7 ⟨rfl, hB7⟩
    refine ⟨_, rfl, ?_⟩
    replace hs5 := hs5.call hB7
    replace hB3 := hB3.call hB7
    clear hB7
    repeat (first | refine T_yes rfl rfl rfl ?_ rfl | refine T_no rfl rfl rfl rfl rfl rfl ?_ | refine T_no' rfl rfl rfl rfl rfl ?_ | refine W_seq ?_ | refine W_region ?_ | refine W_draw rfl (by kernel_rfl) ?_ | refine W_block ?_ | refine W_exit ?_ | refine W_skip ?_ | refine W_ret ?_ | refine T_nil ?_ | refine T_ari rfl rfl rfl rfl (by omega) ?_ | refine T_pev rfl rfl rfl rfl ?_ | refine T_eqT (Go.Sha.sha x) (Go.Sha.sha x) rfl rfl rfl rfl rfl rfl rfl rfl rfl rfl rfl (Go.Sha.sha_len x) rfl ?_)
    refine T_call (fun _ => trivial) rfl rfl g_sumM rfl rfl rfl rfl ((sumM_ok x sb _ w7 hs5 (by omega)).mono ?_)
    rintro e w8 ⟨rfl, hB8⟩
    refine ⟨_, rfl, ?_⟩
    replace hB3 := hB3.call hB8
    clear hB8 hs5
    repeat (first | refine T_yes rfl rfl rfl ?_ rfl | refine T_no rfl rfl rfl rfl rfl rfl ?_ | refine T_no' rfl rfl rfl rfl rfl ?_ | refine W_seq ?_ | refine W_region ?_ | refine W_draw rfl (by kernel_rfl) ?_ | refine W_block ?_ | refine W_exit ?_ | refine W_skip ?_ | refine W_ret ?_ | refine T_nil ?_ | refine T_ari rfl rfl rfl rfl (by omega) ?_ | refine T_pev rfl rfl rfl rfl ?_)
    refine T_call (fun _ => trivial) rfl rfl g_sum rfl rfl rfl rfl ((sum_ok x _ w8 (hv1.below hB3) (by omega)).mono ?_)
    rintro e w9 ⟨rfl, hB9⟩
    refine ⟨_, rfl, ?_⟩
    replace hB3 := hB3.call hB9
    clear hB9
    repeat (first | refine T_yes rfl rfl rfl ?_ rfl | refine T_no rfl rfl rfl rfl rfl rfl ?_ | refine T_no' rfl rfl rfl rfl rfl ?_ | refine W_seq ?_ | refine W_region ?_ | refine W_draw rfl (by kernel_rfl) ?_ | refine W_block ?_ | refine W_exit ?_ | refine W_skip ?_ | refine W_ret ?_ | refine T_nil ?_ | refine T_ari rfl rfl rfl rfl (by omega) ?_ | refine T_pev rfl rfl rfl rfl ?_ | refine T_eqT (Go.Sha.sha x) (Go.Sha.sha x) rfl rfl rfl rfl rfl rfl rfl rfl rfl rfl rfl (Go.Sha.sha_len x) rfl ?_)
    refine T_call (fun _ => trivial) rfl rfl g_wakes rfl rfl rfl rfl ((wakes_ok w9).mono ?_)
    rintro e w10 ⟨rfl, hB10⟩
    refine ⟨_, rfl, ?_⟩
    replace hB3 := hB3.call hB10
    repeat (first | refine T_yes rfl rfl rfl ?_ rfl | refine T_no rfl rfl rfl rfl rfl rfl ?_ | refine T_no' rfl rfl rfl rfl rfl ?_ | refine W_seq ?_ | refine W_region ?_ | refine W_draw rfl (by kernel_rfl) ?_ | refine W_block ?_ | refine W_exit ?_ | refine W_skip ?_ | refine W_ret ?_ | refine T_nil ?_ | refine T_ari rfl rfl rfl rfl (by omega) ?_ | refine T_pev rfl rfl rfl rfl ?_)
    exact ⟨_, ⟨_, _, rfl, rfl, rfl⟩, rfl, hB3⟩

end Go.Proofs.Ytikgpfhjhfpmbaa
