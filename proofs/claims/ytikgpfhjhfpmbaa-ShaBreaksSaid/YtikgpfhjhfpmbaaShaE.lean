/- The hash of bytes; the helps of the statements. -/
import Derived.Test.YtikgpfhjhfpmbaaShaD
set_option linter.unusedVariables false
namespace Go.Proofs.Ytikgpfhjhfpmbaa
open Go Go.F Go.RowKit

theorem g_new : goFn Try.prog 9 = true := by kernel_rfl
theorem g_write : goFn Try.prog 11 = true := by kernel_rfl
theorem g_sumM : goFn Try.prog 12 = true := by kernel_rfl
theorem g_sum : goFn Try.prog 13 = true := by kernel_rfl
theorem g_cut : goFn Try.prog 8 = true := by kernel_rfl
theorem g_within : goFn Try.prog 10 = true := by kernel_rfl
theorem g_wakes : goFn Try.prog 14 = true := by kernel_rfl

theorem hV_size (l : List UInt8) : (hV (Go.Sha.sha l)).cells.size = 32 := by simp [hV, Value.cells, Go.Sha.sha_len]

set_option maxHeartbeats 2000000 in
theorem sum_ok (b : List UInt8) (v : Value) (w : World) (hv : Rd (hw w) v b.length 1 (b.map bV)) (hl : b.length ≤ 1000000000) :
    Calls Try.prog 13 #[v] w fun e w' => e = .returned (hV (Go.Sha.sha b)) ∧ Below w.heap.size w w' := by
  obtain ⟨va, vc, rfl, _⟩ := hv.shape
  refine enter1 _ Try.func13 rfl Try.ntmps13 Try.results13 rfl ?_
  repeat (first | refine W_seq ?_ | refine W_region ?_ | refine W_draw rfl (by kernel_rfl) ?_ | refine W_block ?_ | refine W_exit ?_ | refine W_skip ?_ | refine W_ret ?_ | refine T_nil ?_ | refine T_ari rfl rfl rfl rfl (by omega) ?_ | refine T_pev rfl rfl rfl rfl ?_)
  refine T_alloc (fun _ => trivial) rfl rfl rfl rfl rfl rfl rfl fun b0 w1 hb0 ho1 hg1 => ?_
  have hB1 : Below w.heap.size w w1 := below_of_grown hg1
  have hb1 := blk_lt ho1
  clear hg1
  repeat (first | refine W_seq ?_ | refine W_region ?_ | refine W_draw rfl (by kernel_rfl) ?_ | refine W_block ?_ | refine W_exit ?_ | refine W_skip ?_ | refine W_ret ?_ | refine T_nil ?_ | refine T_ari rfl rfl rfl rfl (by omega) ?_ | refine T_pev rfl rfl rfl rfl ?_)
  refine T_call (fun _ => trivial) rfl rfl g_new rfl rfl rfl rfl ((new_ok w1).mono ?_)
  rintro e w2 ⟨sb, rfl, h1, h2, hs2, hB2⟩
  refine ⟨_, rfl, ?_⟩
  replace ho1 := blk_call ho1 hB2
  replace hB1 := hB1.call hB2
  have h3 := hB2.size
  clear hB2
  have hv2 : Rd (hx w2 sb) (.slice va b.length vc) b.length 1 (b.map bV) := hv.mono (hw_hx_below hB1 (by omega))
  repeat (first | refine W_seq ?_ | refine W_region ?_ | refine W_draw rfl (by kernel_rfl) ?_ | refine W_block ?_ | refine W_exit ?_ | refine W_skip ?_ | refine W_ret ?_ | refine T_nil ?_ | refine T_ari rfl rfl rfl rfl (by omega) ?_ | refine T_pev rfl rfl rfl rfl ?_)
  refine T_call (fun _ => trivial) rfl rfl g_write rfl rfl rfl rfl ((write_ok [] b sb _ _ w2 hs2 hv2 (by simpa using hl)).mono ?_)
  rintro e w3 ⟨rfl, hs3, hg3⟩
  refine ⟨_, rfl, ?_⟩
  replace ho1 := gblk hg3 ho1 (by simp; omega)
  replace hB1 := hB1.stepg hg3 (by omega)
  repeat (first | refine W_seq ?_ | refine W_region ?_ | refine W_draw rfl (by kernel_rfl) ?_ | refine W_block ?_ | refine W_exit ?_ | refine W_skip ?_ | refine W_ret ?_ | refine T_nil ?_ | refine T_ari rfl rfl rfl rfl (by omega) ?_ | refine T_pev rfl rfl rfl rfl ?_)
  refine T_call (fun _ => trivial) rfl rfl g_sumM rfl rfl rfl rfl ((sumM_ok _ sb _ w3 hs3 (by simpa using hl)).mono ?_)
  rintro e w4 ⟨rfl, hB4⟩
  refine ⟨_, rfl, ?_⟩
  replace ho1 := blk_call ho1 hB4
  replace hB1 := hB1.call hB4
  repeat (first | refine W_seq ?_ | refine W_region ?_ | refine W_draw rfl (by kernel_rfl) ?_ | refine W_block ?_ | refine W_exit ?_ | refine W_skip ?_ | refine W_ret ?_ | refine T_nil ?_ | refine T_ari rfl rfl rfl rfl (by omega) ?_ | refine T_pev rfl rfl rfl rfl ?_)
  refine T_storeF (v := hV (Go.Sha.sha b)) (fun _ => trivial) rfl rfl rfl rfl rfl rfl rfl ho1 rfl (hV_size b) (hV_size b) (one_bA _) fun w5 hc5 hg5 _ => ?_
  repeat (first | refine W_seq ?_ | refine W_region ?_ | refine W_draw rfl (by kernel_rfl) ?_ | refine W_block ?_ | refine W_exit ?_ | refine W_skip ?_ | refine W_ret ?_ | refine T_nil ?_ | refine T_ari rfl rfl rfl rfl (by omega) ?_ | refine T_pev rfl rfl rfl rfl ?_)
  refine ⟨_, ⟨_, _, _, rfl, rfl, run_loadVarA (cs := ((Go.Sha.sha b).map bV).toArray) rfl rfl (by simp [Go.Sha.sha_len]; rfl) (blk_cells hc5), rfl⟩, rfl, hB1.stepg hg5 (by omega)⟩

/-- 'l[:min(len(l), n)]'. -/
theorem cut_ok (H : Hp) (b : List UInt8) (v : Value) (n : Nat) (w : World) (hv : Rd H v b.length 1 (b.map bV)) :
    Calls Try.prog 8 #[v, .int .i64 (n : Int)] w fun e w' => ∃ v', e = .returned v' ∧ Rd H v' (b.take n).length 1 ((b.take n).map bV) ∧ Below w.heap.size w w' := by
  obtain ⟨va, vc, rfl, _⟩ := hv.shape
  refine enter2 _ Try.func8 rfl Try.ntmps8 Try.results8 rfl ?_
  have hb : bound b.length (some (Value.int .i64 (min (b.length : Int) (n : Int)))) = some (min b.length n) := by
    simp only [bound]; rw [if_pos (by omega)]; congr 1; omega
  repeat (first | refine W_seq ?_ | refine W_region ?_ | refine W_draw rfl (by kernel_rfl) ?_ | refine W_block ?_ | refine W_exit ?_ | refine W_skip ?_ | refine W_ret ?_ | refine T_nil ?_ | refine T_ari rfl rfl rfl rfl (by omega) ?_ | refine T_pev rfl rfl rfl rfl ?_ | refine T_slice (size := 1) (l := 0) rfl rfl rfl rfl rfl rfl rfl rfl rfl rfl hv hb rfl (Nat.zero_le _) (by omega) (fun a' c' r => ?_))
  refine ⟨_, ⟨_, _, rfl, rfl, rfl⟩, _, rfl, ?_, below_refl _⟩
  have e : (b.take n).length = min b.length n - 0 := by rw [List.length_take]; omega
  rw [e]
  have e2 : (b.take n).map bV = (b.map bV).take (min b.length n) := by rw [List.map_take, List.take_eq_take_iff]; simp; omega
  rw [e2]
  have r0 : Rd H (.slice a' (min b.length n) c') (min b.length n) 1 ((b.map bV).take (min b.length n)) := by simpa using r
  exact r0

/-- 'v % n', not below nought. -/
theorem within_ok (v n : Int) (w : World) (hn : 1 ≤ n ∧ n ≤ 1000000000) :
    Calls Try.prog 10 #[.int .i64 v, .int .i64 n] w fun e w' => e = .returned (.int .i64 (v % n)) ∧ Below w.heap.size w w' := by
  refine enter2 _ Try.func10 rfl Try.ntmps10 Try.results10 rfl ?_
  repeat (first | refine W_seq ?_ | refine W_region ?_ | refine W_draw rfl (by kernel_rfl) ?_ | refine W_block ?_ | refine W_exit ?_ | refine W_skip ?_ | refine W_ret ?_ | refine T_nil ?_ | refine T_ari rfl rfl rfl rfl (by omega) ?_ | refine T_pev rfl rfl rfl rfl ?_)
  refine W_cond_dec rfl (fun h => absurd h (by omega)) (fun _ => ?_)
  repeat (first | refine W_seq ?_ | refine W_region ?_ | refine W_draw rfl (by kernel_rfl) ?_ | refine W_block ?_ | refine W_exit ?_ | refine W_skip ?_ | refine W_ret ?_ | refine T_nil ?_ | refine T_ari rfl rfl rfl rfl (by omega) ?_ | refine T_pev rfl rfl rfl rfl ?_ | refine T_tmod rfl rfl rfl rfl rfl rfl (by omega) ?_)
  have hm := tmod_mod v n
  have h1 := Int.tmod_lt_of_pos v (show 0 < n by omega)
  have h2 : -n < v.tmod n := Int.lt_tmod_of_pos v (by omega)
  refine W_cond_dec rfl (fun h => ?_) (fun h => ?_)
  · repeat (first | refine W_seq ?_ | refine W_region ?_ | refine W_draw rfl (by kernel_rfl) ?_ | refine W_block ?_ | refine W_exit ?_ | refine W_skip ?_ | refine W_ret ?_ | refine T_nil ?_ | refine T_ari rfl rfl rfl rfl (by omega) ?_ | refine T_pev rfl rfl rfl rfl ?_)
    refine ⟨_, ⟨_, _, rfl, rfl, rfl⟩, ?_, below_refl _⟩
    have e : v % n = v.tmod n + n := by rw [hm, ← Int.add_emod_right, Int.emod_eq_of_lt (by omega) (by omega)]
    rw [e]; rfl
  · repeat (first | refine W_seq ?_ | refine W_region ?_ | refine W_draw rfl (by kernel_rfl) ?_ | refine W_block ?_ | refine W_exit ?_ | refine W_skip ?_ | refine W_ret ?_ | refine T_nil ?_ | refine T_ari rfl rfl rfl rfl (by omega) ?_ | refine T_pev rfl rfl rfl rfl ?_)
    refine ⟨_, ⟨_, _, rfl, rfl, rfl⟩, ?_, below_refl _⟩
    have e : v % n = v.tmod n := by rw [hm, Int.emod_eq_of_lt (by omega) (by omega)]
    rw [e]; rfl

set_option maxRecDepth 1000000 in
theorem sha_nil : (Go.Sha.sha []).take 4 = [0xe3, 0xb0, 0xc4, 0x42] := by kernel_rfl
theorem nil_at : ∃ l, (hV (Go.Sha.sha [])).cells = (bV 0xe3 :: bV 0xb0 :: bV 0xc4 :: bV 0x42 :: l).toArray := by
  refine ⟨((Go.Sha.sha []).drop 4).map bV, ?_⟩
  have e := List.take_append_drop 4 (Go.Sha.sha [])
  rw [sha_nil] at e
  rw [hV, Value.cells, ← e]
  rfl

theorem wakes_ok (w : World) : Calls Try.prog 14 #[] w fun e w' => e = .returned (.bool true) ∧ Below w.heap.size w w' := by
  refine enter0 _ Try.func14 rfl Try.ntmps14 Try.results14 ?_
  repeat (first | refine W_seq ?_ | refine W_region ?_ | refine W_draw rfl (by kernel_rfl) ?_ | refine W_block ?_ | refine W_exit ?_ | refine W_skip ?_ | refine W_ret ?_ | refine T_nil ?_ | refine T_ari rfl rfl rfl rfl (by omega) ?_ | refine T_pev rfl rfl rfl rfl ?_)
  refine T_call (fun _ => trivial) rfl rfl g_sum rfl rfl rfl rfl ((sum_ok [] _ w (Rd.nil _ 1) (by simp)).mono ?_)
  rintro e w1 ⟨rfl, hB1⟩
  refine ⟨_, rfl, ?_⟩
  repeat (first | refine W_seq ?_ | refine W_region ?_ | refine W_draw rfl (by kernel_rfl) ?_ | refine W_block ?_ | refine W_exit ?_ | refine W_skip ?_ | refine W_ret ?_ | refine T_nil ?_ | refine T_ari rfl rfl rfl rfl (by omega) ?_ | refine T_pev rfl rfl rfl rfl ?_)
  refine T_alloc (fun _ => trivial) rfl rfl rfl rfl rfl rfl rfl fun b0 w2 hb0 ho2 hg2 => ?_
  repeat (first | refine W_seq ?_ | refine W_region ?_ | refine W_draw rfl (by kernel_rfl) ?_ | refine W_block ?_ | refine W_exit ?_ | refine W_skip ?_ | refine W_ret ?_ | refine T_nil ?_ | refine T_ari rfl rfl rfl rfl (by omega) ?_ | refine T_pev rfl rfl rfl rfl ?_)
  refine T_storeF (v := hV (Go.Sha.sha [])) (fun _ => trivial) rfl rfl rfl rfl rfl rfl rfl ho2 rfl (hV_size []) (hV_size []) (one_bA _) fun w3 hc3 hg3 _ => ?_
  have hB3 := (hB1.step0 hg2).stepg hg3 (by have := hB1.size; omega)
  obtain ⟨l, hl⟩ := nil_at
  rw [hl] at hc3
  have c0 := blk_cells hc3 0 (bV 0xe3) (by simp)
  have c1 := blk_cells hc3 1 (bV 0xb0) (by simp)
  have c2 := blk_cells hc3 2 (bV 0xc4) (by simp)
  have c3 := blk_cells hc3 3 (bV 0x42) (by simp)
  repeat (first | refine T_yes rfl rfl rfl ?_ rfl | refine W_seq ?_ | refine W_region ?_ | refine W_draw rfl (by kernel_rfl) ?_ | refine W_block ?_ | refine W_exit ?_ | refine W_skip ?_ | refine W_ret ?_ | refine T_nil ?_ | refine T_ari rfl rfl rfl rfl (by omega) ?_ | refine T_pev rfl rfl rfl rfl ?_ | refine T_idxA1 rfl rfl rfl rfl rfl rfl rfl rfl rfl (by decide) ?_ | refine T_load rfl rfl rfl rfl rfl rfl rfl c0 ?_ | refine T_load rfl rfl rfl rfl rfl rfl rfl c1 ?_ | refine T_load rfl rfl rfl rfl rfl rfl rfl c2 ?_ | refine T_load rfl rfl rfl rfl rfl rfl rfl c3 ?_)
  exact ⟨_, ⟨_, _, rfl, rfl, rfl⟩, rfl, hB3⟩

end Go.Proofs.Ytikgpfhjhfpmbaa
