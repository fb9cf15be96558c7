/- The hash of bytes; the helps of the statements. -/
import Derived.Test.YtmjmjjkigblbgaaDoorShaD
set_option linter.unusedVariables false
set_option linter.unusedSimpArgs false
set_option maxRecDepth 8192
namespace Go.Proofs.YtmjmjjkigblbgaaDoor
open Go Go.F Go.RowKit

theorem g_new : goFn Tryd.prog 96 = true := by kernel_rfl
theorem g_write : goFn Tryd.prog 97 = true := by kernel_rfl
theorem g_sumM : goFn Tryd.prog 98 = true := by kernel_rfl
theorem hV_size (l : List UInt8) : (hV (Go.Sha.sha l)).cells.size = 32 := by simp [hV, Value.cells, Go.Sha.sha_len]

set_option maxHeartbeats 2000000 in
theorem sum_ok (b : List UInt8) (v : Value) (w : World) (hv : Rd (hw w) v b.length 1 (b.map bV)) (hl : b.length ≤ 1000000000) :
  Calls Tryd.prog 79 #[v] w fun e w' => e = .returned (hV (Go.Sha.sha b)) ∧ Below w.heap.size w w' := by
 obtain ⟨va, vc, rfl, _⟩ := hv.shape
 refine enter1 _ Tryd.func79 rfl Tryd.ntmps79 Tryd.results79 rfl ?_
 repeat (first | refine W_seq ?_ | refine W_region ?_ | refine Wd ?_ | refine W_block ?_ | refine W_exit ?_ | refine W_skip ?_ | refine W_ret ?_ | refine T_nil ?_ | refine Ar ?_ | refine Pv ?_)
 refine T_alloc (fun _ => trivial) rfl rfl rfl rfl rfl rfl rfl fun b0 w1 hb0 ho1 hg1 => ?_
 have hB1 : Below w.heap.size w w1 := below_of_grown hg1
 have hb1 := blk_lt ho1
 clear hg1
 repeat (first | refine W_seq ?_ | refine W_region ?_ | refine Wd ?_ | refine W_block ?_ | refine W_exit ?_ | refine W_skip ?_ | refine W_ret ?_ | refine T_nil ?_ | refine Ar ?_ | refine Pv ?_)
 refine T_call (fun _ => trivial) rfl rfl g_new rfl rfl rfl rfl ((new_ok w1).mono ?_)
 rintro e w2 ⟨sb, rfl, h1, h2, hs2, hB2⟩
 refine ⟨_, rfl, ?_⟩
 replace ho1 := blk_call ho1 hB2
 replace hB1 := hB1.call hB2
 have h3 := hB2.size
 clear hB2
 have hv2 : Rd (hx w2 sb) (.slice va b.length vc) b.length 1 (b.map bV) := hv.mono (hw_hx_below hB1 (by omega))
 repeat (first | refine W_seq ?_ | refine W_region ?_ | refine Wd ?_ | refine W_block ?_ | refine W_exit ?_ | refine W_skip ?_ | refine W_ret ?_ | refine T_nil ?_ | refine Ar ?_ | refine Pv ?_)
 refine T_call (fun _ => trivial) rfl rfl g_write rfl rfl rfl rfl ((write_ok [] b sb _ _ w2 hs2 hv2 (by simpa using hl)).mono ?_)
 rintro e w3 ⟨rfl, hs3, hg3⟩
 refine ⟨_, rfl, ?_⟩
 replace ho1 := gblk hg3 ho1 (by simp; omega)
 replace hB1 := hB1.stepg hg3 (by omega)
 repeat (first | refine W_seq ?_ | refine W_region ?_ | refine Wd ?_ | refine W_block ?_ | refine W_exit ?_ | refine W_skip ?_ | refine W_ret ?_ | refine T_nil ?_ | refine Ar ?_ | refine Pv ?_)
 refine T_call (fun _ => trivial) rfl rfl g_sumM rfl rfl rfl rfl ((sumM_ok _ sb _ w3 hs3 (by simpa using hl)).mono ?_)
 rintro e w4 ⟨rfl, hB4⟩
 refine ⟨_, rfl, ?_⟩
 replace ho1 := blk_call ho1 hB4
 replace hB1 := hB1.call hB4
 repeat (first | refine W_seq ?_ | refine W_region ?_ | refine Wd ?_ | refine W_block ?_ | refine W_exit ?_ | refine W_skip ?_ | refine W_ret ?_ | refine T_nil ?_ | refine Ar ?_ | refine Pv ?_)
 refine T_storeF (v := hV (Go.Sha.sha b)) (fun _ => trivial) rfl rfl rfl rfl rfl rfl rfl ho1 rfl (hV_size b) (hV_size b) (one_bA _) fun w5 hc5 hg5 _ => ?_
 repeat (first | refine W_seq ?_ | refine W_region ?_ | refine Wd ?_ | refine W_block ?_ | refine W_exit ?_ | refine W_skip ?_ | refine W_ret ?_ | refine T_nil ?_ | refine Ar ?_ | refine Pv ?_)
 refine ⟨_, ⟨_, _, _, rfl, rfl, run_loadVarA (cs := ((Go.Sha.sha b).map bV).toArray) rfl rfl (by simp [Go.Sha.sha_len]; rfl) (blk_cells hc5), rfl⟩, rfl, hB1.stepg hg5 (by omega)⟩

theorem within_ok (v n : Int) (w : World) (hn : 1 ≤ n ∧ n ≤ 1000000000) :
  Calls Tryd.prog 19 #[.int .i64 v, .int .i64 n] w fun e w' => e = .returned (.int .i64 (v % n)) ∧ Below w.heap.size w w' := by
 refine enter2 _ Tryd.func19 rfl Tryd.ntmps19 Tryd.results19 rfl ?_
 repeat (first | refine W_seq ?_ | refine W_region ?_ | refine Wd ?_ | refine W_block ?_ | refine W_exit ?_ | refine W_skip ?_ | refine W_ret ?_ | refine T_nil ?_ | refine Ar ?_ | refine Pv ?_)
 refine W_cond_dec rfl (fun h => absurd h (by omega)) (fun _ => ?_)
 repeat (first | refine W_seq ?_ | refine W_region ?_ | refine Wd ?_ | refine W_block ?_ | refine W_exit ?_ | refine W_skip ?_ | refine W_ret ?_ | refine T_nil ?_ | refine Ar ?_ | refine Pv ?_ | refine T_tmod rfl rfl rfl rfl rfl rfl (by omega) ?_)
 have hm := tmod_mod v n
 have h1 := Int.tmod_lt_of_pos v (show 0 < n by omega)
 have h2 : -n < v.tmod n := Int.lt_tmod_of_pos v (by omega)
 refine Aa (fun h => ?_) (fun h => ?_)
 ·repeat (first | refine W_seq ?_ | refine W_region ?_ | refine Wd ?_ | refine W_block ?_ | refine W_exit ?_ | refine W_skip ?_ | refine W_ret ?_ | refine T_nil ?_ | refine Ar ?_ | refine Pv ?_)
  refine ⟨_, ⟨_, _, rfl, rfl, rfl⟩, ?_, below_refl _⟩
  have e : v % n = v.tmod n + n := by rw [hm, ← Int.add_emod_right, Int.emod_eq_of_lt (by omega) (by omega)]
  rw [e]; rfl
 ·repeat (first | refine W_seq ?_ | refine W_region ?_ | refine Wd ?_ | refine W_block ?_ | refine W_exit ?_ | refine W_skip ?_ | refine W_ret ?_ | refine T_nil ?_ | refine Ar ?_ | refine Pv ?_)
  refine ⟨_, ⟨_, _, rfl, rfl, rfl⟩, ?_, below_refl _⟩
  have e : v % n = v.tmod n := by rw [hm, Int.emod_eq_of_lt (by omega) (by omega)]
  rw [e]; rfl

end Go.Proofs.YtmjmjjkigblbgaaDoor
