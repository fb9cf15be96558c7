/- The lower parts of strconv.Itoa. -/
import Derived.Test.YtmjmjjkigblbgaaDoorTab
set_option linter.unusedVariables false
set_option linter.unusedSimpArgs false
set_option maxRecDepth 8192
namespace Go.Proofs.YtmjmjjkigblbgaaDoor
open Go Go.F Go.RowKit
open Go.Au

theorem small_ok {H : Hp} {w : World} (hH : H.le (hw w)) (n : Nat) (hn : n < 100) :
  Calls Tryd.prog 128 #[.int .i64 ((n : Nat) : Int)] w fun e w' => e = .returned (str (dec n)) ∧ Below w.heap.size w w' := by
 refine enter1 _ Tryd.func128 rfl Tryd.ntmps128 Tryd.results128 rfl ?_
 have S0 := St.start w hH
 refine Wr (Pv (T_nil (W_seq (Wr ?_))))
 iterate 2 refine Pv ?_
 refine T_nil (Aa (fun h1 => ?_) (fun h1 => ?_))
 ·refine Wr ?_
  iterate 2 refine Pv ?_
  refine T_ari rfl rfl rfl rfl (by omega) ?_
  refine T_cutStr n (n + 1) rfl rfl rfl rfl rfl rfl rfl rfl (bound_of (by omega)) (bound_of (by omega)) (by omega) (by simp only [List.length_cons, List.length_nil]; omega) ?_
  refine T_re (v' := str (dec n)) (congrArg str (digs_cut n (by omega))) ?_
  refine Pv (T_nil (W_ret ?_))
  refine ⟨_, ⟨_, _, rfl, rfl, rfl⟩, ?_⟩
  exact ⟨rfl, S0.below⟩
 refine W_skip (Wr ?_)
 iterate 2 (refine Pv ?_; refine T_ari rfl rfl rfl rfl (by omega) ?_)
 refine T_ari rfl rfl rfl rfl (by omega) ?_
 refine T_cutStr (n * 2) ((n * 2) + 2) rfl rfl rfl rfl rfl rfl rfl rfl (bound_of (by omega)) (bound_of (by omega)) (by omega) (by show _ ≤ smalls.length; have : smalls.length = 200 := rfl; omega) ?_
 refine T_re (v' := str (dec n)) (congrArg str (smalls_cut n (by omega) (by omega))) ?_
 refine Pv (T_nil (W_ret ?_))
 refine ⟨_, ⟨_, _, rfl, rfl, rfl⟩, ?_⟩
 exact ⟨rfl, S0.below⟩




set_option maxRecDepth 100000 in
theorem len64_lo {H : Hp} {w : World} (hH : H.le (hw w)) (u : Nat) (hu : u < 256) :
  Calls Tryd.prog 138 #[.int .u64 ((u : Nat) : Int)] w fun e w' => e = .returned (.int .i64 ((bl u : Nat) : Int)) ∧ Below w.heap.size w w' := by
 refine enter1 _ Tryd.func138 rfl Tryd.ntmps138 Tryd.results138 rfl ?_
 have S0 := St.start w hH
 refine Wr (Pv (T_nil (W_seq (Wr ?_))))
 iterate 2 refine Pv ?_
 refine T_nil (W_bool 4 false rfl (decide_eq_false (by omega)) ?_)
 refine W_cond_false rfl (W_skip (W_seq (Wr ?_)))
 iterate 2 refine Pv ?_
 refine T_nil (W_bool 8 false rfl (decide_eq_false (by omega)) ?_)
 refine W_cond_false rfl (W_skip (W_seq (Wr ?_)))
 iterate 2 refine Pv ?_
 refine T_nil (W_bool 14 false rfl (decide_eq_false (by omega)) ?_)
 refine W_cond_false rfl (W_skip (Wr ?_))
 iterate 2 refine Pv ?_
 refine T_i2b u (by omega) rfl rfl rfl rfl rfl rfl rfl ?_
 refine T_indexStr u rfl rfl rfl rfl rfl rfl rfl (by rw [UInt8.toNat_ofNat']; omega) (by show _ < len8.length; have : len8.length = 256 := rfl; omega) ?_
 refine T_re (v' := bV (len8.getD u 0)) rfl (T_b2i rfl rfl rfl rfl rfl rfl rfl ?_)
 have hbt := (len8.getD u 0).toNat_lt
 refine T_ari rfl rfl rfl rfl (by omega) ?_
 refine Pv (T_nil (W_ret ?_))
 refine ⟨_, ⟨_, _, rfl, rfl, rfl⟩, ?_⟩
 have e1 : bl u = (len8.getD u 0).toNat := by unfold bl; rw [if_pos (by omega)]
 exact ⟨by rw [e1]; exact congrArg (fun z => Ending.returned (Value.int .i64 z)) (by omega), S0.below⟩


set_option maxRecDepth 100000 in
theorem len64_hi {H : Hp} {w : World} (hH : H.le (hw w)) (u : Nat) (hu : 256 ≤ u ∧ u < 65536) :
  Calls Tryd.prog 138 #[.int .u64 ((u : Nat) : Int)] w fun e w' => e = .returned (.int .i64 ((bl u : Nat) : Int)) ∧ Below w.heap.size w w' := by
 refine enter1 _ Tryd.func138 rfl Tryd.ntmps138 Tryd.results138 rfl ?_
 have S0 := St.start w hH
 refine Wr (Pv (T_nil (W_seq (Wr ?_))))
 iterate 2 refine Pv ?_
 refine T_nil (W_bool 4 false rfl (decide_eq_false (by omega)) ?_)
 refine W_cond_false rfl (W_skip (W_seq (Wr ?_)))
 iterate 2 refine Pv ?_
 refine T_nil (W_bool 8 false rfl (decide_eq_false (by omega)) ?_)
 refine W_cond_false rfl (W_skip (W_seq (Wr ?_)))
 iterate 2 refine Pv ?_
 refine T_nil (W_bool 14 true rfl (decide_eq_true (by omega)) ?_)
 refine W_cond_true rfl (Wr (Pv ?_))
 refine T_shrU 8 rfl rfl rfl rfl (by decide) (by omega) rfl rfl rfl ?_
 refine Pv (T_nil (W_region ?_))
 refine Pv ?_
 refine T_ari rfl rfl rfl rfl (by omega) ?_
 refine Pv (Nr ?_)
 iterate 2 refine Pv ?_
 refine T_i2b (u / 256) (by omega) rfl rfl rfl rfl rfl rfl rfl ?_
 refine T_indexStr (u / 256) rfl rfl rfl rfl rfl rfl rfl (by rw [UInt8.toNat_ofNat']; omega) (by show _ < len8.length; have : len8.length = 256 := rfl; omega) ?_
 refine T_re (v' := bV (len8.getD (u / 256) 0)) rfl (T_b2i rfl rfl rfl rfl rfl rfl rfl ?_)
 have hbt := (len8.getD (u / 256) 0).toNat_lt
 refine T_ari rfl rfl rfl rfl (by omega) ?_
 refine Pv (T_nil (W_ret ?_))
 refine ⟨_, ⟨_, _, rfl, rfl, rfl⟩, ?_⟩
 have e1 : bl u = 8 + (len8.getD (u / 256) 0).toNat := by unfold bl; rw [if_neg (by omega)]
 exact ⟨by rw [e1]; exact congrArg (fun z => Ending.returned (Value.int .i64 z)) (by omega), S0.below⟩


theorem len64_ok {H : Hp} {w : World} (hH : H.le (hw w)) (u : Nat) (hu : u < 65536) : Calls Tryd.prog 138 #[.int .u64 ((u : Nat) : Int)] w fun e w' => e = .returned (.int .i64 ((bl u : Nat) : Int)) ∧ Below w.heap.size w w' := by
 by_cases h : u < 256
 ·exact len64_lo hH u h
 ·exact len64_hi hH u (by omega)

theorem log10_ok {H : Hp} {w : World} (hH : H.le (hw w)) (m : Nat) (hm : m ≤ 16) :
  Calls Tryd.prog 137 #[.int .i64 ((m : Nat) : Int)] w fun e w' => e = .returned (.int .i64 ((m * 78913 / 262144 : Nat) : Int)) ∧ Below w.heap.size w w' := by
 refine enter1 _ Tryd.func137 rfl Tryd.ntmps137 Tryd.results137 rfl ?_
 have S0 := St.start w hH
 refine Wr (Pv (Nr ?_))
 refine Pv ?_
 refine T_ari rfl rfl rfl rfl (by omega) ?_
 refine T_shrU 18 rfl rfl rfl rfl (by decide) (by omega) rfl rfl rfl ?_
 refine Pv (T_nil (W_ret ?_))
 refine ⟨_, ⟨_, _, rfl, rfl, rfl⟩, ?_⟩
 exact ⟨congrArg (fun z => Ending.returned (Value.int .i64 z)) (by omega), S0.below⟩


theorem bool2_ok {H : Hp} {w : World} (hH : H.le (hw w)) (p : Bool) :
  Calls Tryd.prog 139 #[.bool p] w fun e w' => e = .returned (.int .i64 (if p then 1 else 0)) ∧ Below w.heap.size w w' := by
 refine enter1 _ Tryd.func139 rfl Tryd.ntmps139 Tryd.results139 rfl ?_
 have S0 := St.start w hH
 refine Wr (Pv (T_nil (W_seq (Wr ?_))))
 refine Pv (T_nil ?_)
 refine W_cond rfl (fun h1 => ?_) (fun h1 => ?_)
 ·refine Wr (Pv (T_nil (W_ret ?_)))
  refine ⟨_, ⟨_, _, rfl, rfl, rfl⟩, ?_⟩
  exact ⟨by rw [h1]; rfl, S0.below⟩
 refine W_skip (Wr (Pv (T_nil (W_ret ?_))))
 refine ⟨_, ⟨_, _, rfl, rfl, rfl⟩, ?_⟩
 exact ⟨by rw [h1]; rfl, S0.below⟩


theorem numDigits_ok {H : Hp} {w : World} (hH : H.le (hw w)) (hT : Tabs H) (u : Nat) (hu : 100 ≤ u ∧ u < 10000) :
  Calls Tryd.prog 129 #[.int .u64 ((u : Nat) : Int)] w fun e w' => e = .returned (.int .i64 ((if u < 1000 then 3 else 4 : Nat) : Int)) ∧ Below w.heap.size w w' := by
 have hd := (digs_nd u hu.1 hu.2).1
 have h16 := (digs_nd u hu.1 hu.2).2
 refine enter1 _ Tryd.func129 rfl Tryd.ntmps129 Tryd.results129 rfl ?_
 have S0 := St.start w hH
 refine Wr (Pv (Nr ?_))
 refine Pv ?_
 refine T_callS rfl rfl g_math_bits_Len64 rfl rfl rfl rfl ((len64_ok S0.le u (by omega)).mono ?_)
 rintro e w2 ⟨rfl, hB1⟩
 have S3 := S0.call hB1
 refine ⟨_, rfl, trivial, ?_⟩
 refine T_callS rfl rfl g_internal_strconv_log10Pow2 rfl rfl rfl rfl ((log10_ok S3.le (bl u) (digs_nd u hu.1 hu.2).2).mono ?_)
 rintro e w5 ⟨rfl, hB4⟩
 have S6 := S3.call hB4
 refine ⟨_, rfl, trivial, ?_⟩
 refine Pv (Nr ?_)
 iterate 3 refine Pv ?_
 refine Ab ?_
 refine T_loadG S6 (tab_at hT ((bl u) * 78913 / 262144) (by omega) (by omega)) rfl rfl rfl rfl rfl rfl rfl ?_
 refine Pv ?_
 refine T_callS rfl rfl g_internal_strconv_bool2_int rfl rfl rfl rfl ((bool2_ok S6.le _).mono ?_)
 rintro e w8 ⟨rfl, hB7⟩
 have S9 := S6.call hB7
 refine ⟨_, rfl, trivial, ?_⟩
 have hs : (if decide (((10 ^ (bl u * 78913 / 262144) : Nat) : Int) ≤ ((u : Nat) : Int)) then (1 : Int) else 0) = ((if 10 ^ (bl u * 78913 / 262144) ≤ u then 1 else 0 : Nat) : Int) := by
  by_cases h : 10 ^ (bl u * 78913 / 262144) ≤ u
  ·rw [if_pos h, decide_eq_true (by exact_mod_cast h)]; rfl
  ·rw [if_neg h, decide_eq_false (by exact_mod_cast h)]; rfl
 rw [hs]
 refine T_ari rfl rfl rfl rfl (by omega) ?_
 refine Pv (T_nil (W_ret ?_))
 refine ⟨_, ⟨_, _, rfl, rfl, rfl⟩, ?_⟩
 exact ⟨congrArg (fun z => Ending.returned (Value.int .i64 z)) (by rw [← hd]; omega), S9.below⟩

end Go.Proofs.YtmjmjjkigblbgaaDoor
