/- The statements of chapter 9, walked: leaves, signatures. -/
import Derived.Test.YtbkdncmjfhbafaaDoorMssA
import Derived.Test.YtbkdncmjfhbafaaDoorKeepN
set_option linter.unusedVariables false
set_option linter.unusedSimpArgs false
set_option maxRecDepth 8192
namespace Go.Proofs.YtbkdncmjfhbafaaDoor
open Go Go.F Go.RowKit

theorem wakes_ok {H : Hp} {w : World} (hH : H.le (hw w)) (hT : Tabs H) :
    Calls Tryd.prog 19 #[] w fun e w' => e = .returned (.bool true) ∧ Below w.heap.size w w' := by
  refine enter0 _ Tryd.func19 rfl Tryd.ntmps19 Tryd.results19 ?_
  have S0 := St.start w hH
  refine W_seq ?_
  refine W_region ?_
  refine T_pev rfl rfl rfl rfl ?_
  refine T_nil ?_
  refine W_seq ?_
  refine W_region ?_
  refine T_buildA (cells := (hV (List.replicate 16 0)).cells) rfl rfl rfl rfl rfl rfl rfl rfl rfl rfl ?_
  refine T_callS rfl rfl g_aumbry_mss_Leaves rfl rfl rfl rfl ((leaves_ok S0.le hT (0 : Int) List.length_replicate (by omega)).mono ?_)
  rintro e w6 ⟨a1, c2, hc3, rfl, ho4, hB5⟩
  have S7 := S0.own hB5 ho4
  refine ⟨_, rfl, trivial, ?_⟩
  refine T_pev rfl rfl rfl rfl ?_
  refine T_pev rfl rfl rfl rfl ?_
  refine T_re (v' := .bool true) (congrArg Value.bool (decide_eq_true rfl)) ?_
  refine T_pev rfl rfl rfl rfl ?_
  refine T_nil ?_
  refine W_ret ?_
  refine ⟨_, ⟨_, _, rfl, rfl, rfl⟩, ?_⟩
  exact ⟨rfl, S7.below⟩


theorem mssLeaves_a {H : Hp} {w : World} (hH : H.le (hw w)) (hT : Tabs H) (n : Int) {seed : List UInt8} (hs : seed.length = 16) (hn : ¬ (0 ≤ n % 7 - 2 ∧ n % 7 - 2 ≤ 4)) :
    Calls Tryd.prog 4 #[hV seed, .int .i64 n] w fun e w' => e = .returned (.bool true) ∧ Below w.heap.size w w' := by
  refine enter2 _ Tryd.func4 rfl Tryd.ntmps4 Tryd.results4 rfl ?_
  have S0 := St.start w hH
  refine W_seq ?_
  refine W_region ?_
  refine T_boxS S0 (fun _ _ => trivial) rfl rfl rfl rfl rfl rfl fun b1 w2 S3 => ?_
  refine T_pev rfl rfl rfl rfl ?_
  refine T_nil ?_
  refine W_seq ?_
  refine W_region ?_
  refine T_pev rfl rfl rfl rfl ?_
  refine T_callS rfl rfl g_aumbry_aumbrykeep_Within rfl rfl rfl rfl ((withinN_ok S3.le n (7 : Int) (by omega)).mono ?_)
  rintro e w5 ⟨rfl, hB4⟩
  have S6 := S3.call hB4
  refine ⟨_, rfl, trivial, ?_⟩
  refine T_ari rfl rfl rfl rfl (by omega) ?_
  refine T_pev rfl rfl rfl rfl ?_
  refine T_nil ?_
  refine W_seq ?_
  refine W_region ?_
  refine T_loadFS 0 S6 rfl rfl rfl rfl rfl rfl rfl rfl rfl (hVs hs) ?_
  refine T_pev rfl rfl rfl rfl ?_
  refine T_callS rfl rfl g_aumbry_mss_Leaves rfl rfl rfl rfl ((leavesNo_ok S6.le hT ((n % (7 : Int)) - (2 : Int)) hs (by omega)).mono ?_)
  rintro e w8 ⟨rfl, hB7⟩
  have S9 := S6.call hB7
  refine ⟨_, rfl, trivial, ?_⟩
  refine T_pev rfl rfl rfl rfl ?_
  refine T_nil ?_
  refine W_seq ?_
  refine W_region ?_
  refine T_loadFS 0 S9 rfl rfl rfl rfl rfl rfl rfl rfl rfl (hVs hs) ?_
  refine T_pev rfl rfl rfl rfl ?_
  refine T_callS rfl rfl g_aumbry_mss_Print rfl rfl rfl rfl ((printNo_ok S9.le hT ((n % (7 : Int)) - (2 : Int)) hs (by omega)).mono ?_)
  rintro e w11 ⟨rfl, hB10⟩
  have S12 := S9.call hB10
  refine ⟨_, rfl, trivial, ?_⟩
  refine T_pev rfl rfl rfl rfl ?_
  refine T_pev rfl rfl rfl rfl ?_
  refine T_pev rfl rfl rfl rfl ?_
  refine T_allocS S12 (fun _ _ => trivial) rfl rfl rfl rfl rfl rfl rfl fun b13 w14 S15 => ?_
  refine T_storeFS 0 S15 (fun _ _ => trivial) rfl rfl rfl rfl rfl rfl rfl rfl rfl (hVs List.length_replicate) (hVs List.length_replicate) (one_hA _) fun w16 S17 => ?_
  refine T_pev rfl rfl rfl rfl ?_
  refine T_nil ?_
  refine W_seq ?_
  refine W_seq ?_
  refine W_region ?_
  refine T_pev rfl rfl rfl rfl ?_
  refine T_pev rfl rfl rfl rfl ?_
  refine T_pev rfl rfl rfl rfl ?_
  refine T_part (t := 22) rfl (List.cons_ne_nil _ _) (fun h18' => ?_) (fun h18' => ?_)
  · have h18 := of_decide_eq_true h18'
    refine T_no rfl rfl rfl rfl rfl rfl ?_
    refine T_no rfl rfl rfl rfl rfl rfl ?_
    refine T_pev rfl rfl rfl rfl ?_
    refine T_nil ?_
    refine W_cond_true rfl ?_
    refine W_seq ?_
    refine W_region ?_
    refine T_pev rfl rfl rfl rfl ?_
    refine T_pev rfl rfl rfl rfl ?_
    refine T_pev rfl rfl rfl rfl ?_
    refine T_pev rfl rfl rfl rfl ?_
    refine T_bool 29 true rfl (decide_eq_true (by first | rfl | omega)) ?_
    refine T_yes rfl rfl rfl ?_ rfl
    refine T_pev rfl rfl rfl rfl ?_
    refine T_yes rfl rfl rfl ?_ rfl
    refine T_pev rfl rfl rfl rfl ?_
    refine T_pev rfl rfl rfl rfl ?_
    refine T_pev rfl rfl rfl rfl ?_
    refine T_bool 33 true rfl (decide_eq_true (by first | rfl | omega)) ?_
    refine T_yes rfl rfl rfl ?_ rfl
    refine T_loadFS 0 S17 rfl rfl rfl rfl rfl rfl rfl rfl rfl (hVs List.length_replicate) ?_
    refine T_yes rfl rfl rfl ?_ rfl
    refine T_buildA (cells := (hV (List.replicate 32 0)).cells) rfl rfl rfl rfl rfl rfl rfl rfl rfl rfl ?_
    refine T_yes rfl rfl rfl ?_ rfl
    refine T_eqB (xs := (List.replicate 32 0)) (ys := (List.replicate 32 0)) rfl rfl rfl rfl rfl rfl rfl rfl rfl rfl rfl List.length_replicate List.length_replicate ?_
    refine T_pev rfl rfl rfl rfl ?_
    refine T_pev rfl rfl rfl rfl ?_
    refine T_bool 38 true rfl (decide_eq_true (by first | rfl | omega)) ?_
    refine T_yes rfl rfl rfl ?_ rfl
    refine T_callS rfl rfl g_aumbry_aumbrylaw09_wakes rfl rfl rfl rfl ((wakes_ok S17.le hT).mono ?_)
    rintro e w20 ⟨rfl, hB19⟩
    have S21 := S17.call hB19
    refine ⟨_, rfl, trivial, ?_⟩
    refine T_pev rfl rfl rfl rfl ?_
    refine T_pev rfl rfl rfl rfl ?_
    refine T_nil ?_
    refine W_ret ?_
    refine ⟨_, ⟨_, _, rfl, rfl, rfl⟩, ?_⟩
    exact ⟨rfl, S21.below⟩
  have h18 := of_decide_eq_false h18'
  refine T_yes rfl rfl rfl ?_ rfl
  refine T_pev rfl rfl rfl rfl ?_
  refine T_yes rfl rfl rfl ?_ rfl
  refine T_pev rfl rfl rfl rfl ?_
  refine T_pev rfl rfl rfl rfl ?_
  refine T_nil ?_
  refine W_bool 25 true rfl (decide_eq_true (by omega)) ?_
  refine W_cond_true rfl ?_
  refine W_seq ?_
  refine W_region ?_
  refine T_pev rfl rfl rfl rfl ?_
  refine T_pev rfl rfl rfl rfl ?_
  refine T_pev rfl rfl rfl rfl ?_
  refine T_pev rfl rfl rfl rfl ?_
  refine T_bool 29 true rfl (decide_eq_true (by first | rfl | omega)) ?_
  refine T_yes rfl rfl rfl ?_ rfl
  refine T_pev rfl rfl rfl rfl ?_
  refine T_yes rfl rfl rfl ?_ rfl
  refine T_pev rfl rfl rfl rfl ?_
  refine T_pev rfl rfl rfl rfl ?_
  refine T_pev rfl rfl rfl rfl ?_
  refine T_bool 33 true rfl (decide_eq_true (by first | rfl | omega)) ?_
  refine T_yes rfl rfl rfl ?_ rfl
  refine T_loadFS 0 S17 rfl rfl rfl rfl rfl rfl rfl rfl rfl (hVs List.length_replicate) ?_
  refine T_yes rfl rfl rfl ?_ rfl
  refine T_buildA (cells := (hV (List.replicate 32 0)).cells) rfl rfl rfl rfl rfl rfl rfl rfl rfl rfl ?_
  refine T_yes rfl rfl rfl ?_ rfl
  refine T_eqB (xs := (List.replicate 32 0)) (ys := (List.replicate 32 0)) rfl rfl rfl rfl rfl rfl rfl rfl rfl rfl rfl List.length_replicate List.length_replicate ?_
  refine T_pev rfl rfl rfl rfl ?_
  refine T_pev rfl rfl rfl rfl ?_
  refine T_bool 38 true rfl (decide_eq_true (by first | rfl | omega)) ?_
  refine T_yes rfl rfl rfl ?_ rfl
  refine T_callS rfl rfl g_aumbry_aumbrylaw09_wakes rfl rfl rfl rfl ((wakes_ok S17.le hT).mono ?_)
  rintro e w23 ⟨rfl, hB22⟩
  have S24 := S17.call hB22
  refine ⟨_, rfl, trivial, ?_⟩
  refine T_pev rfl rfl rfl rfl ?_
  refine T_pev rfl rfl rfl rfl ?_
  refine T_nil ?_
  refine W_ret ?_
  refine ⟨_, ⟨_, _, rfl, rfl, rfl⟩, ?_⟩
  exact ⟨rfl, S24.below⟩


theorem mssLeaves_b {H : Hp} {w : World} (hH : H.le (hw w)) (hT : Tabs H) (n : Int) {seed : List UInt8} (hs : seed.length = 16) (hn : 2 < n % 7 - 2 ∧ n % 7 - 2 ≤ 4) :
    Calls Tryd.prog 4 #[hV seed, .int .i64 n] w fun e w' => e = .returned (.bool true) ∧ Below w.heap.size w w' := by
  refine enter2 _ Tryd.func4 rfl Tryd.ntmps4 Tryd.results4 rfl ?_
  have S0 := St.start w hH
  refine W_seq ?_
  refine W_region ?_
  refine T_boxS S0 (fun _ _ => trivial) rfl rfl rfl rfl rfl rfl fun b1 w2 S3 => ?_
  refine T_pev rfl rfl rfl rfl ?_
  refine T_nil ?_
  refine W_seq ?_
  refine W_region ?_
  refine T_pev rfl rfl rfl rfl ?_
  refine T_callS rfl rfl g_aumbry_aumbrykeep_Within rfl rfl rfl rfl ((withinN_ok S3.le n (7 : Int) (by omega)).mono ?_)
  rintro e w5 ⟨rfl, hB4⟩
  have S6 := S3.call hB4
  refine ⟨_, rfl, trivial, ?_⟩
  refine T_ari rfl rfl rfl rfl (by omega) ?_
  refine T_pev rfl rfl rfl rfl ?_
  refine T_nil ?_
  refine W_seq ?_
  refine W_region ?_
  refine T_loadFS 0 S6 rfl rfl rfl rfl rfl rfl rfl rfl rfl (hVs hs) ?_
  refine T_pev rfl rfl rfl rfl ?_
  refine T_callS rfl rfl g_aumbry_mss_Leaves rfl rfl rfl rfl ((leaves_ok S6.le hT ((n % (7 : Int)) - (2 : Int)) hs (by omega)).mono ?_)
  rintro e w12 ⟨a7, c8, hc9, rfl, ho10, hB11⟩
  have S13 := S6.own hB11 ho10
  refine ⟨_, rfl, trivial, ?_⟩
  refine T_pev rfl rfl rfl rfl ?_
  refine T_nil ?_
  refine W_seq ?_
  refine W_region ?_
  refine T_loadFS 1 S13 rfl rfl rfl rfl rfl rfl rfl rfl rfl (hVs hs) ?_
  refine T_pev rfl rfl rfl rfl ?_
  refine T_callS rfl rfl g_aumbry_mss_Print rfl rfl rfl rfl ((print_ok S13.le hT ((n % (7 : Int)) - (2 : Int)) hs (by omega)).mono ?_)
  rintro e w15 ⟨rfl, hB14⟩
  have S16 := S13.call hB14
  refine ⟨_, rfl, trivial, ?_⟩
  refine T_pev rfl rfl rfl rfl ?_
  refine T_pev rfl rfl rfl rfl ?_
  refine T_pev rfl rfl rfl rfl ?_
  refine T_allocS S16 (fun _ _ => trivial) rfl rfl rfl rfl rfl rfl rfl fun b17 w18 S19 => ?_
  refine T_storeFS 0 S19 (fun _ _ => trivial) rfl rfl rfl rfl rfl rfl rfl rfl rfl (hVs (Go.Au.mprint_len _ _)) (hVs (Go.Au.mprint_len _ _)) (one_hA _) fun w20 S21 => ?_
  refine T_pev rfl rfl rfl rfl ?_
  refine T_nil ?_
  refine W_seq ?_
  refine W_seq ?_
  refine W_region ?_
  refine T_pev rfl rfl rfl rfl ?_
  refine T_pev rfl rfl rfl rfl ?_
  refine T_pev rfl rfl rfl rfl ?_
  refine T_bool 22 false rfl (decide_eq_false (by omega)) ?_
  refine T_yes rfl rfl rfl ?_ rfl
  refine T_pev rfl rfl rfl rfl ?_
  refine T_yes rfl rfl rfl ?_ rfl
  refine T_pev rfl rfl rfl rfl ?_
  refine T_pev rfl rfl rfl rfl ?_
  refine T_nil ?_
  refine W_bool 25 false rfl (decide_eq_false (by omega)) ?_
  refine W_cond_false rfl ?_
  refine W_skip ?_
  refine W_seq ?_
  refine W_seq ?_
  refine W_region ?_
  refine T_pev rfl rfl rfl rfl ?_
  refine T_pev rfl rfl rfl rfl ?_
  refine T_nil ?_
  refine W_bool 42 true rfl (decide_eq_true (by omega)) ?_
  refine W_cond_true rfl ?_
  refine W_seq ?_
  refine W_region ?_
  refine T_pev rfl rfl rfl rfl ?_
  refine T_pev rfl rfl rfl rfl ?_
  refine T_pev rfl rfl rfl rfl ?_
  refine T_pev rfl rfl rfl rfl ?_
  refine T_re (v' := .int .u64 (n % 7 - 2)) (congrArg (Value.int .u64) (by rw [IntKind.wrap_u64]; omega)) ?_
  refine T_shl rfl rfl rfl rfl rfl rfl (by omega) ?_
  refine T_re (v' := .int .i64 ((2 ^ (n % 7 - 2).toNat : Nat) : Int)) (congrArg (Value.int .i64) (shlI (by omega) (by omega))) ?_
  refine T_pev rfl rfl rfl rfl ?_
  refine T_pev rfl rfl rfl rfl ?_
  refine T_bool 49 true rfl (decide_eq_true (by first | rfl | omega)) ?_
  refine T_yes rfl rfl rfl ?_ rfl
  refine T_pev rfl rfl rfl rfl ?_
  refine T_yes rfl rfl rfl ?_ rfl
  refine T_pev rfl rfl rfl rfl ?_
  refine T_pev rfl rfl rfl rfl ?_
  refine T_pev rfl rfl rfl rfl ?_
  refine T_bool 53 true rfl (decide_eq_true (by first | rfl | omega)) ?_
  refine T_yes rfl rfl rfl ?_ rfl
  refine T_callS rfl rfl g_aumbry_aumbrylaw09_wakes rfl rfl rfl rfl ((wakes_ok S21.le hT).mono ?_)
  rintro e w23 ⟨rfl, hB22⟩
  have S24 := S21.call hB22
  refine ⟨_, rfl, trivial, ?_⟩
  refine T_pev rfl rfl rfl rfl ?_
  refine T_pev rfl rfl rfl rfl ?_
  refine T_nil ?_
  refine W_ret ?_
  refine ⟨_, ⟨_, _, rfl, rfl, rfl⟩, ?_⟩
  exact ⟨rfl, S24.below⟩


theorem mssLeaves_c {H : Hp} {w : World} (hH : H.le (hw w)) (hT : Tabs H) (n : Int) {seed : List UInt8} (hs : seed.length = 16) (hn : 0 ≤ n % 7 - 2 ∧ n % 7 - 2 ≤ 2) :
    Calls Tryd.prog 4 #[hV seed, .int .i64 n] w fun e w' => e = .returned (.bool true) ∧ Below w.heap.size w w' := by
  have hml := Go.Au.mleaves_len seed (n % 7 - 2).toNat
  have hp16 := Go.Au.pow16 (h := (n % 7 - 2)) (by omega) (by omega)
  refine enter2 _ Tryd.func4 rfl Tryd.ntmps4 Tryd.results4 rfl ?_
  have S0 := St.start w hH
  refine W_seq ?_
  refine W_region ?_
  refine T_boxS S0 (fun _ _ => trivial) rfl rfl rfl rfl rfl rfl fun b1 w2 S3 => ?_
  refine T_pev rfl rfl rfl rfl ?_
  refine T_nil ?_
  refine W_seq ?_
  refine W_region ?_
  refine T_pev rfl rfl rfl rfl ?_
  refine T_callS rfl rfl g_aumbry_aumbrykeep_Within rfl rfl rfl rfl ((withinN_ok S3.le n (7 : Int) (by omega)).mono ?_)
  rintro e w5 ⟨rfl, hB4⟩
  have S6 := S3.call hB4
  refine ⟨_, rfl, trivial, ?_⟩
  refine T_ari rfl rfl rfl rfl (by omega) ?_
  refine T_pev rfl rfl rfl rfl ?_
  refine T_nil ?_
  refine W_seq ?_
  refine W_region ?_
  refine T_loadFS 0 S6 rfl rfl rfl rfl rfl rfl rfl rfl rfl (hVs hs) ?_
  refine T_pev rfl rfl rfl rfl ?_
  refine T_callS rfl rfl g_aumbry_mss_Leaves rfl rfl rfl rfl ((leaves_ok S6.le hT ((n % (7 : Int)) - (2 : Int)) hs (by omega)).mono ?_)
  rintro e w12 ⟨a7, c8, hc9, rfl, ho10, hB11⟩
  have S13 := S6.own hB11 ho10
  refine ⟨_, rfl, trivial, ?_⟩
  refine T_pev rfl rfl rfl rfl ?_
  refine T_nil ?_
  refine W_seq ?_
  refine W_region ?_
  refine T_loadFS 1 S13 rfl rfl rfl rfl rfl rfl rfl rfl rfl (hVs hs) ?_
  refine T_pev rfl rfl rfl rfl ?_
  refine T_callS rfl rfl g_aumbry_mss_Print rfl rfl rfl rfl ((print_ok S13.le hT ((n % (7 : Int)) - (2 : Int)) hs (by omega)).mono ?_)
  rintro e w15 ⟨rfl, hB14⟩
  have S16 := S13.call hB14
  refine ⟨_, rfl, trivial, ?_⟩
  refine T_pev rfl rfl rfl rfl ?_
  refine T_pev rfl rfl rfl rfl ?_
  refine T_pev rfl rfl rfl rfl ?_
  refine T_allocS S16 (fun _ _ => trivial) rfl rfl rfl rfl rfl rfl rfl fun b17 w18 S19 => ?_
  refine T_storeFS 0 S19 (fun _ _ => trivial) rfl rfl rfl rfl rfl rfl rfl rfl rfl (hVs (Go.Au.mprint_len _ _)) (hVs (Go.Au.mprint_len _ _)) (one_hA _) fun w20 S21 => ?_
  refine T_pev rfl rfl rfl rfl ?_
  refine T_nil ?_
  refine W_seq ?_
  refine W_seq ?_
  refine W_region ?_
  refine T_pev rfl rfl rfl rfl ?_
  refine T_pev rfl rfl rfl rfl ?_
  refine T_pev rfl rfl rfl rfl ?_
  refine T_bool 22 false rfl (decide_eq_false (by omega)) ?_
  refine T_yes rfl rfl rfl ?_ rfl
  refine T_pev rfl rfl rfl rfl ?_
  refine T_yes rfl rfl rfl ?_ rfl
  refine T_pev rfl rfl rfl rfl ?_
  refine T_pev rfl rfl rfl rfl ?_
  refine T_nil ?_
  refine W_bool 25 false rfl (decide_eq_false (by omega)) ?_
  refine W_cond_false rfl ?_
  refine W_skip ?_
  refine W_seq ?_
  refine W_seq ?_
  refine W_region ?_
  refine T_pev rfl rfl rfl rfl ?_
  refine T_pev rfl rfl rfl rfl ?_
  refine T_nil ?_
  refine W_bool 42 false rfl (decide_eq_false (by omega)) ?_
  refine W_cond_false rfl ?_
  refine W_skip ?_
  refine W_seq ?_
  obtain ⟨G23, hl24, S22, r25⟩ := S21.stillBlk 0 rfl
  refine W_plan (planF Tryd.prog G23 [66]) rfl (by kernel_rfl) S22.le ?_
  have S26 := S22.drew
  refine T_pev rfl rfl rfl rfl ?_
  refine T_loadFS 1 S26 rfl rfl rfl rfl rfl rfl rfl rfl rfl (hVs hs) ?_
  refine T_pev rfl rfl rfl rfl ?_
  refine T_callS rfl rfl g_aumbry_aumbryref07_Leaves rfl rfl rfl rfl ((leavesR_ok S26.le ((n % (7 : Int)) - (2 : Int)) hs (by omega)).mono ?_)
  rintro e w32 ⟨a27, c28, hc29, rfl, ho30, hB31⟩
  have S33 := S26.own hB31 ho30
  refine ⟨_, rfl, (((Hp.le.refl _)).trans S33.le), ?_⟩
  obtain ⟨G35, hl36, S34, r37⟩ := S33.stillRow 1 rfl
  have r38 := RdH.mk (Go.Au.mleaves_all _ _) (by decide) r37
  obtain ⟨G40, hl41, S39, r42⟩ := S34.stillRow 0 rfl
  have r43 := RdH.mk (Go.Au.mleaves_all _ _) (by decide) r42
  refine T_callS rfl rfl g_aumbry_aumbrykeep_Same_aumbry_api_Hash rfl rfl rfl rfl ((sameH_ok S39.le (r38.mono hl41) r43 (by first | omega | (simp; done) | (simp only [List.length_take, List.length_drop]; omega))).mono ?_)
  rintro e w45 ⟨rfl, hB44⟩
  have S46 := S39.call hB44
  refine ⟨_, rfl, (((hl36.trans hl41)).trans S46.le), ?_⟩
  refine T_pev rfl rfl rfl rfl ?_
  refine T_bool 61 true rfl (decide_eq_true (by first | rfl | omega)) ?_
  refine T_yes rfl rfl rfl ?_ rfl
  refine T_pev rfl rfl rfl rfl ?_
  refine T_yes rfl rfl rfl ?_ rfl
  refine T_pev rfl rfl rfl rfl ?_
  refine T_pev rfl rfl rfl rfl ?_
  refine T_pev rfl rfl rfl rfl ?_
  refine T_bool 65 true rfl (decide_eq_true (by first | rfl | omega)) ?_
  refine T_yes rfl rfl rfl ?_ rfl
  refine T_loadGAP _ (fun _ h => h) (still_cells r25) rfl rfl rfl rfl rfl rfl rfl rfl (hVs (Go.Au.mprint_len _ _)) ?_
  refine T_yes rfl rfl rfl ?_ rfl
  refine T_loadFS 0 S46 rfl rfl rfl rfl rfl rfl rfl rfl rfl (hVs hs) ?_
  refine T_yes rfl rfl rfl ?_ rfl
  refine T_pev rfl rfl rfl rfl ?_
  refine T_yes rfl rfl rfl ?_ rfl
  refine T_callS rfl rfl g_aumbry_aumbryref07_Print rfl rfl rfl rfl ((printR_ok S46.le ((n % (7 : Int)) - (2 : Int)) hs (by omega)).mono ?_)
  rintro e w48 ⟨rfl, hB47⟩
  have S49 := S46.call hB47
  refine ⟨_, rfl, (((hl36.trans hl41)).trans S49.le), ?_⟩
  refine T_yes rfl rfl rfl ?_ rfl
  refine T_eqB (xs := Go.Au.mprint seed ((n % (7 : Int)) - (2 : Int))) (ys := Go.Au.mprint seed ((n % (7 : Int)) - (2 : Int))) rfl rfl rfl rfl rfl rfl rfl rfl rfl rfl rfl (Go.Au.mprint_len _ _) (Go.Au.mprint_len _ _) ?_
  refine T_pev rfl rfl rfl rfl ?_
  refine T_pev rfl rfl rfl rfl ?_
  refine T_bool 72 true rfl (decide_eq_true (by first | rfl | omega)) ?_
  refine T_yes rfl rfl rfl ?_ rfl
  refine T_callS rfl rfl g_aumbry_aumbrylaw09_wakes rfl rfl rfl rfl ((wakes_ok S49.le (hT.mono (hl24.trans (hl36.trans hl41)))).mono ?_)
  rintro e w51 ⟨rfl, hB50⟩
  have S52 := S49.call hB50
  refine ⟨_, rfl, (((hl36.trans hl41)).trans S52.le), ?_⟩
  refine T_pev rfl rfl rfl rfl ?_
  refine T_pev rfl rfl rfl rfl ?_
  refine T_nil ?_
  refine W_ret ?_
  refine ⟨_, ⟨_, _, rfl, rfl, rfl⟩, ?_⟩
  exact ⟨rfl, S52.below⟩


theorem mssLeaves_ok {H : Hp} {w : World} (hH : H.le (hw w)) (hT : Tabs H) (n : Int) {seed : List UInt8} (hs : seed.length = 16) :
    Calls Tryd.prog 4 #[hV seed, .int .i64 n] w fun e w' => e = .returned (.bool true) ∧ Below w.heap.size w w' := by
  by_cases h1 : 0 ≤ n % 7 - 2 ∧ n % 7 - 2 ≤ 4
  · by_cases h2 : n % 7 - 2 ≤ 2
    · exact mssLeaves_c hH hT n hs ⟨h1.1, h2⟩
    · exact mssLeaves_b hH hT n hs ⟨by omega, h1.2⟩
  · exact mssLeaves_a hH hT n hs h1

theorem mssSigns_n {H : Hp} {w : World} (hH : H.le (hw w)) (hT : Tabs H) (h leaf : Int) {seed : List UInt8} (hs : seed.length = 16) {m : List UInt8} {aa3 : Option Addr} {nn3 cc3 : Nat} (hv : Rd H (.slice aa3 nn3 cc3) nn3 1 (m.map bV)) (hr : ¬ (0 ≤ leaf ∧ leaf < ((2 ^ (h % 3).toNat : Nat) : Int))) :
    Calls Tryd.prog 5 #[hV seed, .int .i64 h, .int .i64 leaf, .slice aa3 nn3 cc3] w fun e w' => e = .returned (.bool true) ∧ Below w.heap.size w w' := by
  obtain rfl : nn3 = m.length := hv.lenB
  have hvcap : m.length ≤ cc3 := hv.capOf
  have hm60 : (m.take 60).length ≤ 60 := by rw [List.length_take]; omega
  have hp16 := Go.Au.pow16 (h := (h % 3)) (by omega) (by omega)
  have hll := Go.Au.lg_mleaves seed (h % 3).toNat
  have hsl := Go.Au.sign_len seed leaf (m.take 60) 67
  have hbl := Go.Au.beside_len (Go.Au.rowP (Go.Au.mleaves seed (h % 3).toNat)) leaf.toNat (Go.Au.lg (Go.Au.mleaves seed (h % 3).toNat).length)
  have ht9 : (h % 3).toNat ≤ 4 := by omega
  refine enter4 _ Tryd.func5 rfl Tryd.ntmps5 Tryd.results5 rfl ?_
  have S0 := St.start w hH
  refine W_seq ?_
  refine W_region ?_
  refine T_boxS S0 (fun _ _ => trivial) rfl rfl rfl rfl rfl rfl fun b1 w2 S3 => ?_
  refine T_pev rfl rfl rfl rfl ?_
  refine T_nil ?_
  refine W_seq ?_
  refine W_region ?_
  refine T_pev rfl rfl rfl rfl ?_
  refine T_callS rfl rfl g_aumbry_aumbrykeep_Within rfl rfl rfl rfl ((withinN_ok S3.le h (3 : Int) (by omega)).mono ?_)
  rintro e w5 ⟨rfl, hB4⟩
  have S6 := S3.call hB4
  refine ⟨_, rfl, trivial, ?_⟩
  refine T_pev rfl rfl rfl rfl ?_
  refine T_nil ?_
  refine W_seq ?_
  refine W_region ?_
  refine T_pev rfl rfl rfl rfl ?_
  refine T_callS rfl rfl g_aumbry_aumbrykeep_Cut_byte rfl rfl rfl rfl ((cutB_ok S6.le hv 60).mono ?_)
  rintro e w12 ⟨a7, c8, hc9, rfl, hr10, hB11⟩
  have S13 := S6.call hB11
  refine ⟨_, rfl, trivial, ?_⟩
  refine T_pev rfl rfl rfl rfl ?_
  refine T_nil ?_
  refine W_seq ?_
  refine W_region ?_
  refine T_loadFS 0 S13 rfl rfl rfl rfl rfl rfl rfl rfl rfl (hVs hs) ?_
  refine T_pev rfl rfl rfl rfl ?_
  refine T_pev rfl rfl rfl rfl ?_
  refine T_pev rfl rfl rfl rfl ?_
  refine T_callS rfl rfl g_aumbry_mss_Sign rfl rfl rfl rfl ((mssSignNo_ok S13.le hT (h % (3 : Int)) leaf hs hr10 (by omega) hr).mono ?_)
  rintro e w15 ⟨rfl, hB14⟩
  have S16 := S13.call hB14
  refine ⟨_, rfl, trivial, ?_⟩
  refine T_pev rfl rfl rfl rfl ?_
  refine T_pev rfl rfl rfl rfl ?_
  refine T_pev rfl rfl rfl rfl ?_
  refine T_allocS S16 (fun _ _ => trivial) rfl rfl rfl rfl rfl rfl rfl fun b17 w18 S19 => ?_
  refine T_storeFS 0 S19 (fun _ _ => trivial) rfl rfl rfl rfl rfl rfl rfl rfl rfl (by first | rfl | simp [hVs, *]) (by first | rfl | simp [hVs, *]) (one_all rfl) fun w20 S21 => ?_
  refine T_pev rfl rfl rfl rfl ?_
  refine T_nil ?_
  refine W_seq ?_
  refine W_seq ?_
  refine W_region ?_
  refine T_pev rfl rfl rfl rfl ?_
  refine T_pev rfl rfl rfl rfl ?_
  refine T_pev rfl rfl rfl rfl ?_
  refine T_part (t := 25) rfl (List.cons_ne_nil _ _) (fun h22' => ?_) (fun h22' => ?_)
  · have h22 := of_decide_eq_true h22'
    refine T_no rfl rfl rfl rfl rfl rfl ?_
    refine T_no rfl rfl rfl rfl rfl rfl ?_
    refine T_no rfl rfl rfl rfl rfl rfl ?_
    refine T_no rfl rfl rfl rfl rfl rfl ?_
    refine T_no rfl rfl rfl rfl rfl rfl ?_
    refine T_pev rfl rfl rfl rfl ?_
    refine T_nil ?_
    refine W_cond_true rfl ?_
    refine W_seq ?_
    refine W_region ?_
    refine T_pev rfl rfl rfl rfl ?_
    refine T_pev rfl rfl rfl rfl ?_
    refine T_pev rfl rfl rfl rfl ?_
    refine T_bool 34 true rfl (decide_eq_true (by first | rfl | omega)) ?_
    refine T_yes rfl rfl rfl ?_ rfl
    refine T_loadFS 0 S21 rfl rfl rfl rfl rfl rfl rfl rfl rfl (by first | rfl | simp [hVs, *]) ?_
    refine T_yes rfl rfl rfl ?_ rfl
    refine T_buildS (cells := #[.int .i64 0, .int .i64 0, .slice none 0 0, .slice none 0 0]) rfl rfl rfl rfl rfl rfl rfl rfl rfl rfl ?_
    refine T_yes rfl rfl rfl ?_ rfl
    refine T_callS rfl rfl g_aumbry_aumbrykeep_Sig rfl rfl rfl rfl ((keepSig_ok S21.le (0 : Int) (0 : Int) (nilH _) (nilH _) (nilH _) (nilH _) (Nat.zero_le 1000000) (Nat.zero_le 1000000)).mono ?_)
    rintro e w24 ⟨rfl, hB23⟩
    have S25 := S21.call hB23
    refine ⟨_, rfl, trivial, ?_⟩
    refine T_pev rfl rfl rfl rfl ?_
    refine T_pev rfl rfl rfl rfl ?_
    refine T_yes rfl rfl rfl ?_ rfl
    refine T_callS rfl rfl g_aumbry_aumbrylaw09_wakes rfl rfl rfl rfl ((wakes_ok S25.le hT).mono ?_)
    rintro e w27 ⟨rfl, hB26⟩
    have S28 := S25.call hB26
    refine ⟨_, rfl, trivial, ?_⟩
    refine T_pev rfl rfl rfl rfl ?_
    refine T_pev rfl rfl rfl rfl ?_
    refine T_nil ?_
    refine W_ret ?_
    refine ⟨_, ⟨_, _, rfl, rfl, rfl⟩, ?_⟩
    exact ⟨rfl, S28.below⟩
  have h22 := of_decide_eq_false h22'
  refine T_yes rfl rfl rfl ?_ rfl
  refine T_pev rfl rfl rfl rfl ?_
  refine T_yes rfl rfl rfl ?_ rfl
  refine T_pev rfl rfl rfl rfl ?_
  refine T_yes rfl rfl rfl ?_ rfl
  refine T_pev rfl rfl rfl rfl ?_
  refine T_re (v' := .int .u64 (h % 3)) (congrArg (Value.int .u64) (by rw [IntKind.wrap_u64]; omega)) ?_
  refine T_yes rfl rfl rfl ?_ rfl
  refine T_shl rfl rfl rfl rfl rfl rfl (by omega) ?_
  refine T_re (v' := .int .i64 ((2 ^ (h % 3).toNat : Nat) : Int)) (congrArg (Value.int .i64) (shlI (by omega) (by omega))) ?_
  refine T_yes rfl rfl rfl ?_ rfl
  refine T_pev rfl rfl rfl rfl ?_
  refine T_pev rfl rfl rfl rfl ?_
  refine T_nil ?_
  refine W_bool 31 true rfl (decide_eq_true (by omega)) ?_
  refine W_cond_true rfl ?_
  refine W_seq ?_
  refine W_region ?_
  refine T_pev rfl rfl rfl rfl ?_
  refine T_pev rfl rfl rfl rfl ?_
  refine T_pev rfl rfl rfl rfl ?_
  refine T_bool 34 true rfl (decide_eq_true (by first | rfl | omega)) ?_
  refine T_yes rfl rfl rfl ?_ rfl
  refine T_loadFS 0 S21 rfl rfl rfl rfl rfl rfl rfl rfl rfl (by first | rfl | simp [hVs, *]) ?_
  refine T_yes rfl rfl rfl ?_ rfl
  refine T_buildS (cells := #[.int .i64 0, .int .i64 0, .slice none 0 0, .slice none 0 0]) rfl rfl rfl rfl rfl rfl rfl rfl rfl rfl ?_
  refine T_yes rfl rfl rfl ?_ rfl
  refine T_callS rfl rfl g_aumbry_aumbrykeep_Sig rfl rfl rfl rfl ((keepSig_ok S21.le (0 : Int) (0 : Int) (nilH _) (nilH _) (nilH _) (nilH _) (Nat.zero_le 1000000) (Nat.zero_le 1000000)).mono ?_)
  rintro e w30 ⟨rfl, hB29⟩
  have S31 := S21.call hB29
  refine ⟨_, rfl, trivial, ?_⟩
  refine T_pev rfl rfl rfl rfl ?_
  refine T_pev rfl rfl rfl rfl ?_
  refine T_yes rfl rfl rfl ?_ rfl
  refine T_callS rfl rfl g_aumbry_aumbrylaw09_wakes rfl rfl rfl rfl ((wakes_ok S31.le hT).mono ?_)
  rintro e w33 ⟨rfl, hB32⟩
  have S34 := S31.call hB32
  refine ⟨_, rfl, trivial, ?_⟩
  refine T_pev rfl rfl rfl rfl ?_
  refine T_pev rfl rfl rfl rfl ?_
  refine T_nil ?_
  refine W_ret ?_
  refine ⟨_, ⟨_, _, rfl, rfl, rfl⟩, ?_⟩
  exact ⟨rfl, S34.below⟩


theorem mssSigns_y {H : Hp} {w : World} (hH : H.le (hw w)) (hT : Tabs H) (h leaf : Int) {seed : List UInt8} (hs : seed.length = 16) {m : List UInt8} {aa3 : Option Addr} {nn3 cc3 : Nat} (hv : Rd H (.slice aa3 nn3 cc3) nn3 1 (m.map bV)) (hr : 0 ≤ leaf ∧ leaf < ((2 ^ (h % 3).toNat : Nat) : Int)) :
    Calls Tryd.prog 5 #[hV seed, .int .i64 h, .int .i64 leaf, .slice aa3 nn3 cc3] w fun e w' => e = .returned (.bool true) ∧ Below w.heap.size w w' := by
  obtain rfl : nn3 = m.length := hv.lenB
  have hvcap : m.length ≤ cc3 := hv.capOf
  have hm60 : (m.take 60).length ≤ 60 := by rw [List.length_take]; omega
  have hp16 := Go.Au.pow16 (h := (h % 3)) (by omega) (by omega)
  have hll := Go.Au.lg_mleaves seed (h % 3).toNat
  have hsl := Go.Au.sign_len seed leaf (m.take 60) 67
  have hbl := Go.Au.beside_len (Go.Au.rowP (Go.Au.mleaves seed (h % 3).toNat)) leaf.toNat (Go.Au.lg (Go.Au.mleaves seed (h % 3).toNat).length)
  have ht9 : (h % 3).toNat ≤ 4 := by omega
  refine enter4 _ Tryd.func5 rfl Tryd.ntmps5 Tryd.results5 rfl ?_
  have S0 := St.start w hH
  refine W_seq ?_
  refine W_region ?_
  refine T_boxS S0 (fun _ _ => trivial) rfl rfl rfl rfl rfl rfl fun b1 w2 S3 => ?_
  refine T_pev rfl rfl rfl rfl ?_
  refine T_nil ?_
  refine W_seq ?_
  refine W_region ?_
  refine T_pev rfl rfl rfl rfl ?_
  refine T_callS rfl rfl g_aumbry_aumbrykeep_Within rfl rfl rfl rfl ((withinN_ok S3.le h (3 : Int) (by omega)).mono ?_)
  rintro e w5 ⟨rfl, hB4⟩
  have S6 := S3.call hB4
  refine ⟨_, rfl, trivial, ?_⟩
  refine T_pev rfl rfl rfl rfl ?_
  refine T_nil ?_
  refine W_seq ?_
  refine W_region ?_
  refine T_pev rfl rfl rfl rfl ?_
  refine T_callS rfl rfl g_aumbry_aumbrykeep_Cut_byte rfl rfl rfl rfl ((cutB_ok S6.le hv 60).mono ?_)
  rintro e w12 ⟨a7, c8, hc9, rfl, hr10, hB11⟩
  have S13 := S6.call hB11
  refine ⟨_, rfl, trivial, ?_⟩
  refine T_pev rfl rfl rfl rfl ?_
  refine T_nil ?_
  refine W_seq ?_
  refine W_region ?_
  refine T_loadFS 0 S13 rfl rfl rfl rfl rfl rfl rfl rfl rfl (hVs hs) ?_
  refine T_pev rfl rfl rfl rfl ?_
  refine T_pev rfl rfl rfl rfl ?_
  refine T_pev rfl rfl rfl rfl ?_
  refine T_callS rfl rfl g_aumbry_mss_Sign rfl rfl rfl rfl ((mssSign_ok S13.le hT (h % (3 : Int)) leaf hs hr10 (by omega) hr (by omega)).mono ?_)
  rintro e w21 ⟨a14, c15, a16, c17, rfl, r18, r19, hB20⟩
  obtain ⟨G23, eG25⟩ : ∃ G, G = F.ext H w12.heap.size w21 := ⟨_, rfl⟩
  obtain ⟨hl24, S22⟩ := S13.ext hB20
  rw [← eG25] at hl24 S22 r18 r19
  refine ⟨_, rfl, trivial, ?_⟩
  refine T_pev rfl rfl rfl rfl ?_
  refine T_pev rfl rfl rfl rfl ?_
  refine T_pev rfl rfl rfl rfl ?_
  refine T_allocS S22 (fun _ _ => trivial) rfl rfl rfl rfl rfl rfl rfl fun b26 w27 S28 => ?_
  refine T_storeFS 0 S28 (fun _ _ => trivial) rfl rfl rfl rfl rfl rfl rfl rfl rfl (by first | rfl | simp [hVs, *]) (by first | rfl | simp [hVs, *]) (one_all rfl) fun w29 S30 => ?_
  refine T_pev rfl rfl rfl rfl ?_
  refine T_nil ?_
  refine W_seq ?_
  refine W_seq ?_
  refine W_region ?_
  refine T_pev rfl rfl rfl rfl ?_
  refine T_pev rfl rfl rfl rfl ?_
  refine T_pev rfl rfl rfl rfl ?_
  refine T_bool 25 false rfl (decide_eq_false (by omega)) ?_
  refine T_yes rfl rfl rfl ?_ rfl
  refine T_pev rfl rfl rfl rfl ?_
  refine T_yes rfl rfl rfl ?_ rfl
  refine T_pev rfl rfl rfl rfl ?_
  refine T_yes rfl rfl rfl ?_ rfl
  refine T_pev rfl rfl rfl rfl ?_
  refine T_re (v' := .int .u64 (h % 3)) (congrArg (Value.int .u64) (by rw [IntKind.wrap_u64]; omega)) ?_
  refine T_yes rfl rfl rfl ?_ rfl
  refine T_shl rfl rfl rfl rfl rfl rfl (by omega) ?_
  refine T_re (v' := .int .i64 ((2 ^ (h % 3).toNat : Nat) : Int)) (congrArg (Value.int .i64) (shlI (by omega) (by omega))) ?_
  refine T_yes rfl rfl rfl ?_ rfl
  refine T_pev rfl rfl rfl rfl ?_
  refine T_pev rfl rfl rfl rfl ?_
  refine T_nil ?_
  refine W_bool 31 false rfl (decide_eq_false (by omega)) ?_
  refine W_cond_false rfl ?_
  refine W_skip ?_
  refine W_seq ?_
  obtain ⟨G32, hl33, S31, r34⟩ := S30.stillBlk 0 rfl
  refine W_plan (planF Tryd.prog G32 [45]) rfl (by kernel_rfl) S31.le ?_
  have S35 := S31.drew
  refine T_pev rfl rfl rfl rfl ?_
  refine T_pev rfl rfl rfl rfl ?_
  refine T_pev rfl rfl rfl rfl ?_
  refine T_bool 44 true rfl (decide_eq_true (by first | rfl | omega)) ?_
  refine T_yes rfl rfl rfl ?_ rfl
  refine T_loadGAP _ (fun _ h => h) (still_cells r34) rfl rfl rfl rfl rfl rfl rfl rfl (by first | rfl | simp [hVs, *]) ?_
  refine T_yes rfl rfl rfl ?_ rfl
  refine T_loadFS 0 S35 rfl rfl rfl rfl rfl rfl rfl rfl rfl (hVs hs) ?_
  refine T_yes rfl rfl rfl ?_ rfl
  refine T_pev rfl rfl rfl rfl ?_
  refine T_yes rfl rfl rfl ?_ rfl
  refine T_pev rfl rfl rfl rfl ?_
  refine T_yes rfl rfl rfl ?_ rfl
  refine T_pev rfl rfl rfl rfl ?_
  refine T_yes rfl rfl rfl ?_ rfl
  refine T_callS rfl rfl g_aumbry_aumbryref07_Sign rfl rfl rfl rfl ((mssSignR_ok S35.le (h % (3 : Int)) leaf hs (hr10.mono (hl24.trans hl33)) (by omega) hr (by omega)).mono ?_)
  rintro e w43 ⟨a36, c37, a38, c39, rfl, r40, r41, hB42⟩
  obtain ⟨G45, eG47⟩ : ∃ G, G = F.ext G32 w29.drew.heap.size w43 := ⟨_, rfl⟩
  obtain ⟨hl46, S44⟩ := S35.ext hB42
  rw [← eG47] at hl46 S44 r40 r41
  refine ⟨_, rfl, ((hl46).trans S44.le), ?_⟩
  refine T_yes rfl rfl rfl ?_ rfl
  refine T_callS rfl rfl g_aumbry_aumbrykeep_Sig rfl rfl rfl rfl ((keepSig_ok S44.le (h % (3 : Int)) leaf (r18.mono (hl33.trans hl46)) (r19.mono (hl33.trans hl46)) r40 r41 (by omega) (by omega)).mono ?_)
  rintro e w49 ⟨rfl, hB48⟩
  have S50 := S44.call hB48
  refine ⟨_, rfl, ((hl46).trans S50.le), ?_⟩
  refine T_pev rfl rfl rfl rfl ?_
  refine T_pev rfl rfl rfl rfl ?_
  refine T_yes rfl rfl rfl ?_ rfl
  refine T_callS rfl rfl g_aumbry_aumbrylaw09_wakes rfl rfl rfl rfl ((wakes_ok S50.le (hT.mono (hl24.trans (hl33.trans hl46)))).mono ?_)
  rintro e w52 ⟨rfl, hB51⟩
  have S53 := S50.call hB51
  refine ⟨_, rfl, ((hl46).trans S53.le), ?_⟩
  refine T_pev rfl rfl rfl rfl ?_
  refine T_pev rfl rfl rfl rfl ?_
  refine T_nil ?_
  refine W_ret ?_
  refine ⟨_, ⟨_, _, rfl, rfl, rfl⟩, ?_⟩
  exact ⟨rfl, S53.below⟩


theorem mssSigns_ok {H : Hp} {w : World} (hH : H.le (hw w)) (hT : Tabs H) (h leaf : Int) {seed : List UInt8} (hs : seed.length = 16) {m : List UInt8} {aa3 : Option Addr} {nn3 cc3 : Nat} (hv : Rd H (.slice aa3 nn3 cc3) nn3 1 (m.map bV)) :
    Calls Tryd.prog 5 #[hV seed, .int .i64 h, .int .i64 leaf, .slice aa3 nn3 cc3] w fun e w' => e = .returned (.bool true) ∧ Below w.heap.size w w' := by
  by_cases hr : 0 ≤ leaf ∧ leaf < ((2 ^ (h % 3).toNat : Nat) : Int)
  · exact mssSigns_y hH hT h leaf hs hv hr
  · exact mssSigns_n hH hT h leaf hs hv hr
end Go.Proofs.YtbkdncmjfhbafaaDoor
