/- strconv.Itoa of numbers below ten thousand. -/
import Derived.Test.YtmjmjjkigblbgaaDoorItoaA
set_option linter.unusedVariables false
set_option linter.unusedSimpArgs false
set_option maxRecDepth 8192
namespace Go.Proofs.YtmjmjjkigblbgaaDoor
open Go Go.F Go.RowKit
open Go.Au

set_option maxRecDepth 100000 in
theorem fb3_ok {W : World} {H G : Hp} {b : Nat} {c : Array Value} {w : World} (S0 : St W H G [.blk b c 158] w) (hc : c.size = 24) (u : Nat) (hu : 100 ≤ u ∧ u < 1000) :
  Calls Tryd.prog 130 #[.slice (some ⟨b, 1, none⟩) 3 23, .int .u64 ((u : Nat) : Int)] w fun e w' => e = .returned (.tuple #[]) ∧ ∃ G', G.le G' ∧ St W H G' [.blk b (((c.setIfInBounds 3 (bV (Go.Au.digit (u % 10)))).setIfInBounds 2 (bV (Go.Au.digit (u / 10 % 10)))).setIfInBounds 1 (bV (Go.Au.digit (u / 100)))) 158] w' := by
 refine enter2 _ Tryd.func130 rfl Tryd.ntmps130 Tryd.results130 rfl (Wr ?_)
 iterate 3 refine Pv ?_
 refine T_nil (W_seq (W_block ?_))
 refine W_loop (fun M ρ w' => ∃  (G1 : Hp), M = 0 ∧ ρ = [(0, .slice (some ⟨b, 1, none⟩) 3 23), (1, .int .u64 ((u : Nat) : Int)), (4, .int .i64 3)] ∧ G.le G1 ∧ St W H G1 [.blk b c 158] w')
  (0) [(0, .slice (some ⟨b, 1, none⟩) 3 23), (1, .int .u64 ((u : Nat) : Int)), (4, .int .i64 ((3 : Nat) : Int))] ⟨rfl, rfl, ciI, trivial⟩ ⟨G, rfl, rfl, Hp.le.refl _, S0⟩ ?_
 rintro M ρ w3 ⟨G1, rfl, rfl, hl2, S4⟩
 refine W_seq (Wr ?_)
 iterate 2 refine Pv ?_
 refine T_nil (W_bool 20 false rfl (decide_eq_false (by omega)) ?_)
 refine W_cond_false rfl (W_exit (Wr ?_))
 iterate 2 refine Pv ?_
 refine T_re (v' := .int .u32 ((u : Nat) : Int)) (congrArg (Value.int .u32) (by rw [IntKind.wrap_u32]; omega)) ?_
 refine Pv (T_nil (W_seq (Wr ?_)))
 iterate 2 refine Pv ?_
 refine T_nil (W_bool 99 false rfl (decide_eq_false (by omega)) ?_)
 refine W_cond_false rfl (W_skip (W_seq (Wr ?_)))
 iterate 2 refine Pv ?_
 refine T_nil (W_bool 139 true rfl (decide_eq_true (by omega)) ?_)
 refine W_cond_true rfl (Wr (Pv ?_))
 refine T_remU rfl rfl rfl rfl rfl rfl rfl (by omega) ?_
 refine Pv ?_
 refine T_re (v' := .int .u32 ((u % 100 * 2 : Nat) : Int)) (congrArg (Value.int .u32) (by rw [IntKind.wrap_u32]; omega)) ?_
 refine Pv (Nr ?_)
 refine Pv ?_
 refine T_quoU rfl rfl rfl rfl rfl rfl rfl (by omega) (by rw [IntKind.wrap_u32]; omega) ?_
 refine Pv (T_nil (W_seq ?_))
 refine W_draw rfl (by kernel_rfl) ?_
 have S5 := S4.drew
 iterate 2 (refine Pv ?_; refine Pv ?_; refine T_ari rfl rfl rfl rfl (by omega) ?_)
 iterate 2 refine Pv ?_
 refine T_re (v' := .int .u32 ((u % 100 * 2 + 1 : Nat) : Int)) (congrArg (Value.int .u32) (by rw [IntKind.wrap_u32]; omega)) ?_
 refine T_indexStr (u % 100 * 2 + 1) rfl rfl rfl rfl rfl rfl rfl (by omega) (by show _ < smalls.length; have : smalls.length = 200 := rfl; omega) ?_
 refine T_re (v' := bV (Go.Au.digit (u % 10))) (congrArg bV (smalls_lo u)) (Pv ?_)
 refine T_indexStr (u % 100 * 2) rfl rfl rfl rfl rfl rfl rfl (by omega) (by show _ < smalls.length; have : smalls.length = 200 := rfl; omega) ?_
 refine T_re (v' := bV (Go.Au.digit (u / 10 % 10))) (congrArg bV (smalls_hi u)) (T_idx1 rfl rfl rfl rfl rfl rfl rfl rfl rfl (by omega) ?_)
 refine T_store1S 0 3 S5 (fun _ _ => trivial) rfl rfl rfl rfl rfl rfl rfl rfl rfl rfl rfl (by omega) (by first | omega | (simp; omega)) fun w6 S7 => ?_
 refine T_idx1 rfl rfl rfl rfl rfl rfl rfl rfl rfl (by omega) ?_
 refine T_store1S 0 2 S7 (fun _ _ => trivial) rfl rfl rfl rfl rfl rfl rfl rfl rfl rfl rfl (by omega) (by first | omega | (simp; omega)) fun w8 S9 => ?_
 refine T_nil (W_region (Pv ?_))
 refine T_ari rfl rfl rfl rfl (by omega) ?_
 refine Pv (Nr ?_)
 iterate 2 refine Pv ?_
 refine T_nil (W_bool 161 true rfl (decide_eq_true (by omega)) ?_)
 refine W_cond_true rfl (W_region ?_)
 iterate 3 refine Pv ?_
 refine T_re (v' := .int .u32 ((48 + u / 100 : Nat) : Int)) (congrArg (Value.int .u32) (by rw [IntKind.wrap_u32]; omega)) ?_
 refine T_i2b (48 + u / 100) (by omega) rfl rfl rfl rfl rfl rfl rfl ?_
 refine T_re (v' := bV (Go.Au.digit (u / 100))) rfl (T_idx1 rfl rfl rfl rfl rfl rfl rfl rfl rfl (by omega) ?_)
 refine T_store1S 0 1 S9 (fun _ _ => trivial) rfl rfl rfl rfl rfl rfl rfl rfl rfl rfl rfl (by omega) (by first | omega | (simp; omega)) fun w10 S11 => ?_
 refine T_nil ?_
 refine ⟨_, rfl, ?_⟩
 exact ⟨rfl, _, hl2, S11⟩


theorem numDigits3_ok {H : Hp} {w : World} (hH : H.le (hw w)) (hT : Tabs H) (u : Nat) (hu : 100 ≤ u ∧ u < 1000) : Calls Tryd.prog 129 #[.int .u64 ((u : Nat) : Int)] w fun e w' => e = .returned (.int .i64 ((3 : Nat) : Int)) ∧ Below w.heap.size w w' := by
 have h := numDigits_ok hH hT u (by omega)
 rw [if_pos (by omega)] at h
 exact h

set_option maxRecDepth 100000 in
theorem format3_ok {H : Hp} {w : World} (hH : H.le (hw w)) (hT : Tabs H) (n : Nat) (hn : 100 ≤ n ∧ n < 1000) :
  Calls Tryd.prog 123 #[.int .i64 ((n : Nat) : Int), .int .i64 10] w fun e w' => e = .returned (str (dec n)) ∧ Below w.heap.size w w' := by
 refine enter2 _ Tryd.func123 rfl Tryd.ntmps123 Tryd.results123 rfl ?_
 have S0 := St.start w hH
 refine Wr (Pv (T_nil (W_seq (Wr ?_))))
 iterate 2 refine Pv ?_
 refine T_nil (W_bool 11 true rfl (decide_eq_true (by omega)) ?_)
 refine W_cond_true rfl (W_seq (Wr ?_))
 iterate 3 refine Pv ?_
 refine T_bool 14 true rfl (decide_eq_true (by omega)) ?_
 iterate 2 (refine Ys ?_; refine Pv ?_)
 refine Pv (T_nil ?_)
 refine W_bool 17 false rfl (decide_eq_false (by omega)) ?_
 refine W_cond_false rfl (W_skip (Wr (Ae S0 fun b1 w2 S3 => (Nr ?_))))
 iterate 2 refine Pv ?_
 refine T_re (v' := .int .u64 ((n : Nat) : Int)) (congrArg (Value.int .u64) (by rw [IntKind.wrap_u64]; omega)) ?_
 refine Pv (T_nil (W_seq (Wr ?_)))
 iterate 2 refine Pv ?_
 refine T_nil (W_bool 23 false rfl (decide_eq_false (by omega)) ?_)
 refine W_cond_false rfl (W_skip (Wr (Pv ?_)))
 refine T_callS rfl rfl g_internal_strconv_numDigits rfl rfl rfl rfl ((numDigits3_ok S3.le hT n (by omega)).mono ?_)
 rintro e w5 ⟨rfl, hB4⟩
 have S6 := S3.call hB4
 refine ⟨_, rfl, trivial, ?_⟩
 refine Pv (Nr ?_)
 refine Pv ?_
 refine T_ari rfl rfl rfl rfl (by omega) ?_
 refine T_sliceAc 1 (1 + 3) rfl rfl rfl rfl rfl rfl rfl rfl rfl rfl (bound_of (by omega)) (bound_of (by omega)) (by omega) (by omega) (by omega) ?_
 refine Pv ?_
 refine T_callS rfl rfl g_internal_strconv_formatBase10 rfl rfl rfl rfl ((fb3_ok S6 (by rfl) n (by omega)).mono ?_)
 rintro e w8 ⟨rfl, G9, hl10, S7⟩
 refine ⟨_, rfl, trivial, ?_⟩
 refine T_nil (W_seq (Wr ?_))
 iterate 2 refine Pv ?_
 refine T_nil (W_bool 34 false rfl (decide_eq_false (by omega)) ?_)
 refine W_cond_false rfl (W_skip (Wr (Pv ?_)))
 refine T_ari rfl rfl rfl rfl (by omega) ?_
 refine T_sliceAc 1 (1 + 3) rfl rfl rfl rfl rfl rfl rfl rfl rfl rfl (bound_of (by omega)) (bound_of (by omega)) (by omega) (by omega) (by omega) ?_
 obtain ⟨G12, hl13, S11, r14⟩ := S7.stillBlk 0 rfl
 have r15 := Rd.of_blk_at (off := 1) (m := ((1 + 3) - 1)) (c0 := (24 - 1)) (size := 1) (xs := ([Go.Au.digit (n / 100), Go.Au.digit (n / 10 % 10), Go.Au.digit (n % 10)]).map bV) r14 (by rfl) (by omega) (by intro j u hj; rcases j with _ | _ | _ | _ | j <;> first | (simp at hj; done) | (simp at hj; subst hj; rfl) | exact hj)
 refine T_convG S11 r15 rfl rfl rfl rfl rfl rfl rfl rfl rfl (T_re (v' := str (dec n)) (by rw [dec3 n (by omega) (by omega)]) ?_)
 refine Pv (T_nil (W_ret ?_))
 refine ⟨_, ⟨_, _, rfl, rfl, rfl⟩, ?_⟩
 exact ⟨rfl, S11.below⟩


set_option maxRecDepth 100000 in
theorem fb4_ok {W : World} {H G : Hp} {b : Nat} {c : Array Value} {w : World} (S0 : St W H G [.blk b c 158] w) (hc : c.size = 24) (u : Nat) (hu : 1000 ≤ u ∧ u < 10000) :
  Calls Tryd.prog 130 #[.slice (some ⟨b, 1, none⟩) 4 23, .int .u64 ((u : Nat) : Int)] w fun e w' => e = .returned (.tuple #[]) ∧ ∃ G', G.le G' ∧ St W H G' [.blk b ((((c.setIfInBounds 4 (bV (Go.Au.digit (u % 10)))).setIfInBounds 3 (bV (Go.Au.digit (u / 10 % 10)))).setIfInBounds 2 (bV (Go.Au.digit (u / 100 % 10)))).setIfInBounds 1 (bV (Go.Au.digit (u / 1000 % 10)))) 158] w' := by
 refine enter2 _ Tryd.func130 rfl Tryd.ntmps130 Tryd.results130 rfl (Wr ?_)
 iterate 3 refine Pv ?_
 refine T_nil (W_seq (W_block ?_))
 refine W_loop (fun M ρ w' => ∃  (G1 : Hp), M = 0 ∧ ρ = [(0, .slice (some ⟨b, 1, none⟩) 4 23), (1, .int .u64 ((u : Nat) : Int)), (4, .int .i64 4)] ∧ G.le G1 ∧ St W H G1 [.blk b c 158] w')
  (0) [(0, .slice (some ⟨b, 1, none⟩) 4 23), (1, .int .u64 ((u : Nat) : Int)), (4, .int .i64 ((4 : Nat) : Int))] ⟨rfl, rfl, ciI, trivial⟩ ⟨G, rfl, rfl, Hp.le.refl _, S0⟩ ?_
 rintro M ρ w3 ⟨G1, rfl, rfl, hl2, S4⟩
 refine W_seq (Wr ?_)
 iterate 2 refine Pv ?_
 refine T_nil (W_bool 20 false rfl (decide_eq_false (by omega)) ?_)
 refine W_cond_false rfl (W_exit (Wr ?_))
 iterate 2 refine Pv ?_
 refine T_re (v' := .int .u32 ((u : Nat) : Int)) (congrArg (Value.int .u32) (by rw [IntKind.wrap_u32]; omega)) ?_
 refine Pv (T_nil (W_seq (Wr ?_)))
 iterate 2 refine Pv ?_
 refine T_nil (W_bool 99 true rfl (decide_eq_true (by omega)) ?_)
 refine W_cond_true rfl (Wr (Pv ?_))
 refine T_remU rfl rfl rfl rfl rfl rfl rfl (by omega) ?_
 refine Pv (Nr ?_)
 refine Pv ?_
 refine T_quoU rfl rfl rfl rfl rfl rfl rfl (by omega) (by rw [IntKind.wrap_u32]; omega) ?_
 refine Pv (Nr ?_)
 refine Pv ?_
 refine T_quoU rfl rfl rfl rfl rfl rfl rfl (by omega) (by rw [IntKind.wrap_u32]; omega) ?_
 refine Pv ?_
 refine T_re (v' := .int .u32 ((u % 10000 / 100 * 2 : Nat) : Int)) (congrArg (Value.int .u32) (by rw [IntKind.wrap_u32]; omega)) ?_
 refine Pv ?_
 refine T_remU rfl rfl rfl rfl rfl rfl rfl (by omega) ?_
 refine Pv ?_
 refine T_re (v' := .int .u32 ((u % 10000 % 100 * 2 : Nat) : Int)) (congrArg (Value.int .u32) (by rw [IntKind.wrap_u32]; omega)) ?_
 iterate 2 refine Pv ?_
 refine T_nil (W_seq (W_draw rfl (by kernel_rfl) ?_))
 have S5 := S4.drew
 iterate 2 (refine Pv ?_; refine Pv ?_; refine T_ari rfl rfl rfl rfl (by omega) ?_)
 iterate 2 refine Pv ?_
 refine T_re (v' := .int .u32 ((u % 10000 % 100 * 2 + 1 : Nat) : Int)) (congrArg (Value.int .u32) (by rw [IntKind.wrap_u32]; omega)) ?_
 refine T_indexStr (u % 10000 % 100 * 2 + 1) rfl rfl rfl rfl rfl rfl rfl (by omega) (by show _ < smalls.length; have : smalls.length = 200 := rfl; omega) ?_
 refine T_re (v' := bV (Go.Au.digit (u % 10))) (congrArg bV (smalls_lo4' u)) (Pv ?_)
 refine T_indexStr (u % 10000 % 100 * 2) rfl rfl rfl rfl rfl rfl rfl (by omega) (by show _ < smalls.length; have : smalls.length = 200 := rfl; omega) ?_
 refine T_re (v' := bV (Go.Au.digit (u / 10 % 10))) (congrArg bV (smalls_hi4' u)) (T_idx1 rfl rfl rfl rfl rfl rfl rfl rfl rfl (by omega) ?_)
 refine T_store1S 0 4 S5 (fun _ _ => trivial) rfl rfl rfl rfl rfl rfl rfl rfl rfl rfl rfl (by omega) (by first | omega | (simp; omega)) fun w6 S7 => ?_
 refine T_idx1 rfl rfl rfl rfl rfl rfl rfl rfl rfl (by omega) ?_
 refine T_store1S 0 3 S7 (fun _ _ => trivial) rfl rfl rfl rfl rfl rfl rfl rfl rfl rfl rfl (by omega) (by first | omega | (simp; omega)) fun w8 S9 => ?_
 refine T_nil (W_seq (W_draw rfl (by kernel_rfl) ?_))
 have S10 := S9.drew
 iterate 2 (refine Pv ?_; refine Pv ?_; refine T_ari rfl rfl rfl rfl (by omega) ?_)
 iterate 2 refine Pv ?_
 refine T_re (v' := .int .u32 ((u % 10000 / 100 * 2 + 1 : Nat) : Int)) (congrArg (Value.int .u32) (by rw [IntKind.wrap_u32]; omega)) ?_
 refine T_indexStr (u % 10000 / 100 * 2 + 1) rfl rfl rfl rfl rfl rfl rfl (by omega) (by show _ < smalls.length; have : smalls.length = 200 := rfl; omega) ?_
 refine T_re (v' := bV (Go.Au.digit (u / 100 % 10))) (congrArg bV (smalls_lo4 u)) (Pv ?_)
 refine T_indexStr (u % 10000 / 100 * 2) rfl rfl rfl rfl rfl rfl rfl (by omega) (by show _ < smalls.length; have : smalls.length = 200 := rfl; omega) ?_
 refine T_re (v' := bV (Go.Au.digit (u / 1000 % 10))) (congrArg bV (smalls_hi4 u)) (T_idx1 rfl rfl rfl rfl rfl rfl rfl rfl rfl (by omega) ?_)
 refine T_store1S 0 2 S10 (fun _ _ => trivial) rfl rfl rfl rfl rfl rfl rfl rfl rfl rfl rfl (by omega) (by first | omega | (simp; omega)) fun w11 S12 => ?_
 refine T_idx1 rfl rfl rfl rfl rfl rfl rfl rfl rfl (by omega) ?_
 refine T_store1S 0 1 S12 (fun _ _ => trivial) rfl rfl rfl rfl rfl rfl rfl rfl rfl rfl rfl (by omega) (by first | omega | (simp; omega)) fun w13 S14 => ?_
 refine T_nil (W_region (Pv ?_))
 refine T_ari rfl rfl rfl rfl (by omega) ?_
 refine Pv (T_nil (W_seq (Wr ?_)))
 iterate 2 refine Pv ?_
 refine T_nil (W_bool 139 false rfl (decide_eq_false (by omega)) ?_)
 refine W_cond_false rfl (W_skip (Wr ?_))
 iterate 2 refine Pv ?_
 refine T_nil (W_bool 161 false rfl (decide_eq_false (by omega)) ?_)
 refine W_cond_false rfl (W_skip ?_)
 refine ⟨_, rfl, ?_⟩
 exact ⟨rfl, _, hl2, S14⟩


theorem numDigits4_ok {H : Hp} {w : World} (hH : H.le (hw w)) (hT : Tabs H) (u : Nat) (hu : 1000 ≤ u ∧ u < 10000) : Calls Tryd.prog 129 #[.int .u64 ((u : Nat) : Int)] w fun e w' => e = .returned (.int .i64 ((4 : Nat) : Int)) ∧ Below w.heap.size w w' := by
 have h := numDigits_ok hH hT u (by omega)
 rw [if_neg (by omega)] at h
 exact h

set_option maxRecDepth 100000 in
theorem format4_ok {H : Hp} {w : World} (hH : H.le (hw w)) (hT : Tabs H) (n : Nat) (hn : 1000 ≤ n ∧ n < 10000) :
  Calls Tryd.prog 123 #[.int .i64 ((n : Nat) : Int), .int .i64 10] w fun e w' => e = .returned (str (dec n)) ∧ Below w.heap.size w w' := by
 refine enter2 _ Tryd.func123 rfl Tryd.ntmps123 Tryd.results123 rfl ?_
 have S0 := St.start w hH
 refine Wr (Pv (T_nil (W_seq (Wr ?_))))
 iterate 2 refine Pv ?_
 refine T_nil (W_bool 11 true rfl (decide_eq_true (by omega)) ?_)
 refine W_cond_true rfl (W_seq (Wr ?_))
 iterate 3 refine Pv ?_
 refine T_bool 14 true rfl (decide_eq_true (by omega)) ?_
 iterate 2 (refine Ys ?_; refine Pv ?_)
 refine Pv (T_nil ?_)
 refine W_bool 17 false rfl (decide_eq_false (by omega)) ?_
 refine W_cond_false rfl (W_skip (Wr (Ae S0 fun b1 w2 S3 => (Nr ?_))))
 iterate 2 refine Pv ?_
 refine T_re (v' := .int .u64 ((n : Nat) : Int)) (congrArg (Value.int .u64) (by rw [IntKind.wrap_u64]; omega)) ?_
 refine Pv (T_nil (W_seq (Wr ?_)))
 iterate 2 refine Pv ?_
 refine T_nil (W_bool 23 false rfl (decide_eq_false (by omega)) ?_)
 refine W_cond_false rfl (W_skip (Wr (Pv ?_)))
 refine T_callS rfl rfl g_internal_strconv_numDigits rfl rfl rfl rfl ((numDigits4_ok S3.le hT n (by omega)).mono ?_)
 rintro e w5 ⟨rfl, hB4⟩
 have S6 := S3.call hB4
 refine ⟨_, rfl, trivial, ?_⟩
 refine Pv (Nr ?_)
 refine Pv ?_
 refine T_ari rfl rfl rfl rfl (by omega) ?_
 refine T_sliceAc 1 (1 + 4) rfl rfl rfl rfl rfl rfl rfl rfl rfl rfl (bound_of (by omega)) (bound_of (by omega)) (by omega) (by omega) (by omega) ?_
 refine Pv ?_
 refine T_callS rfl rfl g_internal_strconv_formatBase10 rfl rfl rfl rfl ((fb4_ok S6 (by rfl) n (by omega)).mono ?_)
 rintro e w8 ⟨rfl, G9, hl10, S7⟩
 refine ⟨_, rfl, trivial, ?_⟩
 refine T_nil (W_seq (Wr ?_))
 iterate 2 refine Pv ?_
 refine T_nil (W_bool 34 false rfl (decide_eq_false (by omega)) ?_)
 refine W_cond_false rfl (W_skip (Wr (Pv ?_)))
 refine T_ari rfl rfl rfl rfl (by omega) ?_
 refine T_sliceAc 1 (1 + 4) rfl rfl rfl rfl rfl rfl rfl rfl rfl rfl (bound_of (by omega)) (bound_of (by omega)) (by omega) (by omega) (by omega) ?_
 obtain ⟨G12, hl13, S11, r14⟩ := S7.stillBlk 0 rfl
 have r15 := Rd.of_blk_at (off := 1) (m := ((1 + 4) - 1)) (c0 := (24 - 1)) (size := 1) (xs := ([Go.Au.digit (n / 1000 % 10), Go.Au.digit (n / 100 % 10), Go.Au.digit (n / 10 % 10), Go.Au.digit (n % 10)]).map bV) r14 (by rfl) (by omega) (by intro j u hj; rcases j with _ | _ | _ | _ | j <;> first | (simp at hj; done) | (simp at hj; subst hj; rfl) | exact hj)
 refine T_convG S11 r15 rfl rfl rfl rfl rfl rfl rfl rfl rfl (T_re (v' := str (dec n)) (by rw [dec4 n (by omega) (by omega)]; rw [show n / 1000 % 10 = n / 1000 by omega]) ?_)
 refine Pv (T_nil (W_ret ?_))
 refine ⟨_, ⟨_, _, rfl, rfl, rfl⟩, ?_⟩
 exact ⟨rfl, S11.below⟩


theorem format2_ok {H : Hp} {w : World} (hH : H.le (hw w)) (n : Nat) (hn : n < 100) :
  Calls Tryd.prog 123 #[.int .i64 ((n : Nat) : Int), .int .i64 10] w fun e w' => e = .returned (str (dec n)) ∧ Below w.heap.size w w' := by
 refine enter2 _ Tryd.func123 rfl Tryd.ntmps123 Tryd.results123 rfl ?_
 have S0 := St.start w hH
 refine Wr (Pv (T_nil (W_seq (Wr ?_))))
 iterate 2 refine Pv ?_
 refine T_nil (W_bool 11 true rfl (decide_eq_true (by omega)) ?_)
 refine W_cond_true rfl (W_seq (Wr ?_))
 iterate 3 refine Pv ?_
 refine T_bool 14 true rfl (decide_eq_true (by omega)) ?_
 iterate 2 (refine Ys ?_; refine Pv ?_)
 refine Pv (T_nil ?_)
 refine W_bool 17 true rfl (decide_eq_true (by omega)) ?_
 refine W_cond_true rfl (Wr (Pv ?_))
 refine T_callS rfl rfl g_internal_strconv_small rfl rfl rfl rfl ((small_ok S0.le n (by omega)).mono ?_)
 rintro e w2 ⟨rfl, hB1⟩
 have S3 := S0.call hB1
 refine ⟨_, rfl, trivial, ?_⟩
 refine Pv (T_nil (W_ret ?_))
 refine ⟨_, ⟨_, _, rfl, rfl, rfl⟩, ?_⟩
 exact ⟨rfl, S3.below⟩


theorem format_ok {H : Hp} {w : World} (hH : H.le (hw w)) (hT : Tabs H) (n : Nat) (hn : n < 10000) : Calls Tryd.prog 123 #[.int .i64 ((n : Nat) : Int), .int .i64 10] w fun e w' => e = .returned (str (dec n)) ∧ Below w.heap.size w w' := by
 by_cases h : n < 100
 ·exact format2_ok hH n h
 ·by_cases h' : n < 1000
  ·exact format3_ok hH hT n (by omega)
  ·exact format4_ok hH hT n (by omega)

theorem itoaI_ok {H : Hp} {w : World} (hH : H.le (hw w)) (hT : Tabs H) (n : Nat) (hn : n < 10000) :
  Calls Tryd.prog 112 #[.int .i64 ((n : Nat) : Int)] w fun e w' => e = .returned (str (dec n)) ∧ Below w.heap.size w w' := by
 refine enter1 _ Tryd.func112 rfl Tryd.ntmps112 Tryd.results112 rfl ?_
 have S0 := St.start w hH
 refine Wr (Pv (Nr ?_))
 refine Pv ?_
 refine T_callS rfl rfl g_internal_strconv_FormatInt rfl rfl rfl rfl ((format_ok S0.le hT n hn).mono ?_)
 rintro e w2 ⟨rfl, hB1⟩
 have S3 := S0.call hB1
 refine ⟨_, rfl, trivial, ?_⟩
 refine Pv (T_nil (W_ret ?_))
 refine ⟨_, ⟨_, _, rfl, rfl, rfl⟩, ?_⟩
 exact ⟨rfl, S3.below⟩


theorem itoa_ok {H : Hp} {w : World} (hH : H.le (hw w)) (hT : Tabs H) (n : Nat) (hn : n < 10000) :
  Calls Tryd.prog 94 #[.int .i64 ((n : Nat) : Int)] w fun e w' => e = .returned (str (dec n)) ∧ Below w.heap.size w w' := by
 refine enter1 _ Tryd.func94 rfl Tryd.ntmps94 Tryd.results94 rfl ?_
 have S0 := St.start w hH
 refine Wr (Pv (Nr ?_))
 refine Pv ?_
 refine T_callS rfl rfl g_internal_strconv_Itoa rfl rfl rfl rfl ((itoaI_ok S0.le hT n hn).mono ?_)
 rintro e w2 ⟨rfl, hB1⟩
 have S3 := S0.call hB1
 refine ⟨_, rfl, trivial, ?_⟩
 refine Pv (T_nil (W_ret ?_))
 refine ⟨_, ⟨_, _, rfl, rfl, rfl⟩, ?_⟩
 exact ⟨rfl, S3.below⟩

end Go.Proofs.YtmjmjjkigblbgaaDoor
