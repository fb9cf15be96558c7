/- The statements of chapter 8, walked. -/
import Derived.Test.YthfdnnjlnipikaaDoorWotsB
import Derived.Test.YthfdnnjlnipikaaDoorKeepN
set_option linter.unusedVariables false
set_option linter.unusedSimpArgs false
namespace Go.Proofs.YthfdnnjlnipikaaDoor
open Go Go.F Go.RowKit

theorem wakes_ok {H : Hp} {w : World} (hH : H.le (hw w)) (hT : Tabs H) :
    Calls Tryd.prog 14 #[] w fun e w' => e = .returned (.bool true) ∧ Below w.heap.size w w' := by
  refine enter0 _ Tryd.func14 rfl Tryd.ntmps14 Tryd.results14 ?_
  have S0 := St.start w hH
  refine W_seq ?_
  refine W_region ?_
  refine T_pev rfl rfl rfl rfl ?_
  refine T_nil ?_
  refine W_seq ?_
  refine W_region ?_
  refine T_callS rfl rfl g_aumbry_wots_Digits rfl rfl rfl rfl ((digits_w_ok S0.le hT (nilB _) (by decide)).mono ?_)
  rintro e w6 ⟨a1, c2, hc3, rfl, ho4, hB5⟩
  have S7 := S0.own hB5 ho4
  refine ⟨_, rfl, trivial, ?_⟩
  refine T_pev rfl rfl rfl rfl ?_
  refine T_pev rfl rfl rfl rfl ?_
  refine T_pev rfl rfl rfl rfl ?_
  refine T_nil ?_
  refine W_ret ?_
  refine ⟨_, ⟨_, _, rfl, rfl, rfl⟩, ?_⟩
  exact ⟨rfl, S7.below⟩


theorem wotsAlong_ok {H : Hp} {w : World} (hH : H.le (hw w)) (hT : Tabs H) {h : List UInt8} (a b : Int) (hh : h.length = 32) :
    Calls Tryd.prog 4 #[hV h, .int .i64 a, .int .i64 b] w fun e w' => e = .returned (.bool true) ∧ Below w.heap.size w w' := by
  have hb1 := Int.emod_nonneg b (show 16 - a % 16 ≠ 0 by omega)
  have hb2 := Int.emod_lt_of_pos b (show 0 < 16 - a % 16 by omega)
  refine enter3 _ Tryd.func4 rfl Tryd.ntmps4 Tryd.results4 rfl ?_
  have S0 := St.start w hH
  refine W_seq ?_
  refine W_region ?_
  refine T_boxS S0 (fun _ _ => trivial) rfl rfl rfl rfl rfl rfl fun b1 w2 S3 => ?_
  refine T_pev rfl rfl rfl rfl ?_
  refine T_nil ?_
  refine W_seq ?_
  refine W_region ?_
  refine T_pev rfl rfl rfl rfl ?_
  refine T_callS rfl rfl g_aumbry_aumbrykeep_Within rfl rfl rfl rfl ((withinN_ok S3.le a (16 : Int) (by omega)).mono ?_)
  rintro e w5 ⟨rfl, hB4⟩
  have S6 := S3.call hB4
  refine ⟨_, rfl, trivial, ?_⟩
  refine T_pev rfl rfl rfl rfl ?_
  refine T_nil ?_
  refine W_seq ?_
  refine W_region ?_
  refine T_pev rfl rfl rfl rfl ?_
  refine T_pev rfl rfl rfl rfl ?_
  refine T_ari rfl rfl rfl rfl (by omega) ?_
  refine T_callS rfl rfl g_aumbry_aumbrykeep_Within rfl rfl rfl rfl ((withinN_ok S6.le b ((16 : Int) - (a % (16 : Int))) (by omega)).mono ?_)
  rintro e w8 ⟨rfl, hB7⟩
  have S9 := S6.call hB7
  refine ⟨_, rfl, trivial, ?_⟩
  refine T_pev rfl rfl rfl rfl ?_
  refine T_nil ?_
  refine W_seq ?_
  refine W_region ?_
  refine T_loadFS 0 S9 rfl rfl rfl rfl rfl rfl rfl rfl rfl (hVs hh) ?_
  refine T_allocS S9 (fun _ _ => trivial) rfl rfl rfl rfl rfl rfl rfl fun b10 w11 S12 => ?_
  refine T_storeFS 0 S12 (fun _ _ => trivial) rfl rfl rfl rfl rfl rfl rfl rfl rfl (hVs hh) (hVs hh) (one_hA _) fun w13 S14 => ?_
  refine T_nil ?_
  refine W_seq ?_
  refine W_seq ?_
  refine W_region ?_
  refine T_pev rfl rfl rfl rfl ?_
  refine T_nil ?_
  refine W_block ?_
  refine W_loop (fun M ρ w' => ∃ (k : Nat) (G15 : Hp), M = (a % 16).toNat - k ∧ k ≤ (a % 16).toNat ∧ ρ = [(1, .int .i64 (a % (16 : Int))), (2, .int .i64 (b % ((16 : Int) - (a % (16 : Int))))), (3, .pointer (some ⟨b1, 0, none⟩)), (7, .pointer (some ⟨b10, 0, none⟩)), (8, .int .i64 (k : Int))] ∧ H.le G15 ∧ St w H G15 [.blk b10 (hV (Go.Au.steps k h) : Value).cells 30, .blk b1 (hV h : Value).cells 30] w')
    ((a % 16).toNat - 0) [(1, .int .i64 (a % (16 : Int))), (2, .int .i64 (b % ((16 : Int) - (a % (16 : Int))))), (3, .pointer (some ⟨b1, 0, none⟩)), (7, .pointer (some ⟨b10, 0, none⟩)), (8, .int .i64 ((0 : Nat) : Int))] ⟨(congrArg (fun z => some (Value.int .i64 z)) (by omega)), (congrArg (fun z => some (Value.int .i64 z)) (by omega)), rfl, rfl, (congrArg (fun z => some (Value.int .i64 z)) (by omega)), trivial⟩ ⟨0, H, rfl, (by omega), rfl, Hp.le.refl _, S14⟩ ?_
  rintro M ρ w17 ⟨k, G15, rfl, hp19, rfl, hl16, S18⟩
  refine W_seq ?_
  refine W_seq ?_
  refine W_region ?_
  refine T_pev rfl rfl rfl rfl ?_
  refine T_pev rfl rfl rfl rfl ?_
  refine T_pev rfl rfl rfl rfl ?_
  refine T_nil ?_
  refine W_cond_dec rfl (fun h20 => ?_) (fun h20 => ?_)
  · refine W_skip ?_
    refine W_seq ?_
    refine W_block ?_
    refine W_region ?_
    refine T_loadFS 0 S18 rfl rfl rfl rfl rfl rfl rfl rfl rfl (hVs (Go.Au.steps_len _ hh)) ?_
    refine T_callS rfl rfl g_aumbry_wots_Step rfl rfl rfl rfl ((step_ok S18.le (hT.mono hl16) (Go.Au.steps_len _ hh)).mono ?_)
    rintro e w22 ⟨rfl, hB21⟩
    have S23 := S18.call hB21
    refine ⟨_, rfl, trivial, ?_⟩
    refine T_storeFS 0 S23 (fun _ _ => trivial) rfl rfl rfl rfl rfl rfl rfl rfl rfl (hVs (Go.Au.step_len _)) ((hVs (Go.Au.step_len _)).trans (hVs (Go.Au.steps_len _ hh)).symm) (one_hA _) fun w24 S25 => ?_
    refine T_nil ?_
    refine W_region ?_
    refine T_pev rfl rfl rfl rfl ?_
    refine T_ari rfl rfl rfl rfl (by omega) ?_
    refine T_pev rfl rfl rfl rfl ?_
    refine T_nil ?_
    exact ⟨(a % 16).toNat - (k + 1), [(1, .int .i64 (a % (16 : Int))), (2, .int .i64 (b % ((16 : Int) - (a % (16 : Int))))), (3, .pointer (some ⟨b1, 0, none⟩)), (7, .pointer (some ⟨b10, 0, none⟩)), (8, .int .i64 ((k + 1 : Nat) : Int))], by omega, ⟨(congrArg (fun z => some (Value.int .i64 z)) (by omega)), (congrArg (fun z => some (Value.int .i64 z)) (by omega)), rfl, rfl, (congrArg (fun z => some (Value.int .i64 z)) (by omega)), trivial⟩, k + 1, G15, rfl, (by omega), rfl, hl16, S25⟩
  refine W_exit ?_
  refine W_seq ?_
  obtain ⟨G27, hl28, S26, r29⟩ := S18.stillBlk 0 rfl
  obtain ⟨G31, hl32, S30, r33⟩ := S26.stillBlk 0 rfl
  refine W_plan (planF Tryd.prog G31 [26, 32, 42, 48]) rfl (by kernel_rfl) S30.le ?_
  have S34 := S30.drew
  refine T_loadGA _ S34 (still_cells r33) rfl rfl rfl rfl rfl rfl rfl rfl (hVs hh) ?_
  refine T_pev rfl rfl rfl rfl ?_
  refine T_callS rfl rfl g_aumbry_wots_Along rfl rfl rfl rfl ((along_ok S34.le (hT.mono (hl16.trans (hl28.trans hl32))) (a % (16 : Int)) hh).mono ?_)
  rintro e w36 ⟨rfl, hB35⟩
  have S37 := S34.call hB35
  refine ⟨_, rfl, (((Hp.le.refl _)).trans S37.le), ?_⟩
  refine T_loadGAP _ (fun _ h => h) (still_cells (hl32 _ _ r29)) rfl rfl rfl rfl rfl rfl rfl rfl (hVs (Go.Au.steps_len _ hh)) ?_
  refine T_eqB (xs := Go.Au.steps (max (0 : Int) (min (a % (16 : Int)) 15)).toNat h) (ys := (Go.Au.steps k h)) rfl rfl rfl rfl rfl rfl rfl rfl rfl rfl rfl (Go.Au.steps_len _ hh) (Go.Au.steps_len _ hh) ?_
  refine T_pev rfl rfl rfl rfl ?_
  refine T_bool 28 true rfl (decide_eq_true (congrArg (fun q => Go.Au.steps q h) (by omega))) ?_
  refine T_yes rfl rfl rfl ?_ rfl
  refine T_loadGA _ S37 (still_cells (hl32 _ _ r29)) rfl rfl rfl rfl rfl rfl rfl rfl (hVs (Go.Au.steps_len _ hh)) ?_
  refine T_yes rfl rfl rfl ?_ rfl
  refine T_pev rfl rfl rfl rfl ?_
  refine T_yes rfl rfl rfl ?_ rfl
  refine T_callS rfl rfl g_aumbry_wots_Along rfl rfl rfl rfl ((along_ok S37.le (hT.mono (hl16.trans (hl28.trans hl32))) (b % ((16 : Int) - (a % (16 : Int)))) (Go.Au.steps_len _ hh)).mono ?_)
  rintro e w39 ⟨rfl, hB38⟩
  have S40 := S37.call hB38
  refine ⟨_, rfl, (((Hp.le.refl _)).trans S40.le), ?_⟩
  refine T_yes rfl rfl rfl ?_ rfl
  refine T_loadGAP _ (fun _ h => h) (still_cells r33) rfl rfl rfl rfl rfl rfl rfl rfl (hVs hh) ?_
  refine T_yes rfl rfl rfl ?_ rfl
  refine T_pev rfl rfl rfl rfl ?_
  refine T_yes rfl rfl rfl ?_ rfl
  refine T_pev rfl rfl rfl rfl ?_
  refine T_yes rfl rfl rfl ?_ rfl
  refine T_ari rfl rfl rfl rfl (by omega) ?_
  refine T_yes rfl rfl rfl ?_ rfl
  refine T_callS rfl rfl g_aumbry_wots_Along rfl rfl rfl rfl ((along_ok S40.le (hT.mono (hl16.trans (hl28.trans hl32))) ((a % (16 : Int)) + (b % ((16 : Int) - (a % (16 : Int))))) hh).mono ?_)
  rintro e w42 ⟨rfl, hB41⟩
  have S43 := S40.call hB41
  refine ⟨_, rfl, (((Hp.le.refl _)).trans S43.le), ?_⟩
  refine T_yes rfl rfl rfl ?_ rfl
  refine T_eqB (xs := Go.Au.steps (max (0 : Int) (min (b % ((16 : Int) - (a % (16 : Int)))) 15)).toNat (Go.Au.steps k h)) (ys := Go.Au.steps (max (0 : Int) (min ((a % (16 : Int)) + (b % ((16 : Int) - (a % (16 : Int))))) 15)).toNat h) rfl rfl rfl rfl rfl rfl rfl rfl rfl rfl rfl (Go.Au.steps_len _ (Go.Au.steps_len _ hh)) (Go.Au.steps_len _ hh) ?_
  refine T_pev rfl rfl rfl rfl ?_
  refine T_pev rfl rfl rfl rfl ?_
  refine T_bool 39 true rfl (decide_eq_true (by rw [Go.Au.steps_add]; exact congrArg (fun q => Go.Au.steps q h) (by omega))) ?_
  refine T_yes rfl rfl rfl ?_ rfl
  refine T_loadGA _ S43 (still_cells r33) rfl rfl rfl rfl rfl rfl rfl rfl (hVs hh) ?_
  refine T_yes rfl rfl rfl ?_ rfl
  refine T_callS rfl rfl g_aumbry_wots_Along rfl rfl rfl rfl ((along_ok S43.le (hT.mono (hl16.trans (hl28.trans hl32))) (-1) hh).mono ?_)
  rintro e w45 ⟨rfl, hB44⟩
  have S46 := S43.call hB44
  refine ⟨_, rfl, (((Hp.le.refl _)).trans S46.le), ?_⟩
  refine T_yes rfl rfl rfl ?_ rfl
  refine T_loadGAP _ (fun _ h => h) (still_cells r33) rfl rfl rfl rfl rfl rfl rfl rfl (hVs hh) ?_
  refine T_yes rfl rfl rfl ?_ rfl
  refine T_eqB (xs := Go.Au.steps (max (0 : Int) (min (-1) 15)).toNat h) (ys := h) rfl rfl rfl rfl rfl rfl rfl rfl rfl rfl rfl (Go.Au.steps_len _ hh) hh ?_
  refine T_pev rfl rfl rfl rfl ?_
  refine T_pev rfl rfl rfl rfl ?_
  refine T_bool 45 true rfl (decide_eq_true rfl) ?_
  refine T_yes rfl rfl rfl ?_ rfl
  refine T_loadGA _ S46 (still_cells r33) rfl rfl rfl rfl rfl rfl rfl rfl (hVs hh) ?_
  refine T_yes rfl rfl rfl ?_ rfl
  refine T_callS rfl rfl g_aumbry_wots_Along rfl rfl rfl rfl ((along_ok S46.le (hT.mono (hl16.trans (hl28.trans hl32))) (16 : Int) hh).mono ?_)
  rintro e w48 ⟨rfl, hB47⟩
  have S49 := S46.call hB47
  refine ⟨_, rfl, (((Hp.le.refl _)).trans S49.le), ?_⟩
  refine T_yes rfl rfl rfl ?_ rfl
  refine T_loadGAP _ (fun _ h => h) (still_cells r33) rfl rfl rfl rfl rfl rfl rfl rfl (hVs hh) ?_
  refine T_yes rfl rfl rfl ?_ rfl
  refine T_callS rfl rfl g_aumbry_wots_Along rfl rfl rfl rfl ((along_ok S49.le (hT.mono (hl16.trans (hl28.trans hl32))) (15 : Int) hh).mono ?_)
  rintro e w51 ⟨rfl, hB50⟩
  have S52 := S49.call hB50
  refine ⟨_, rfl, (((Hp.le.refl _)).trans S52.le), ?_⟩
  refine T_yes rfl rfl rfl ?_ rfl
  refine T_eqB (xs := Go.Au.steps (max (0 : Int) (min (16 : Int) 15)).toNat h) (ys := Go.Au.steps (max (0 : Int) (min (15 : Int) 15)).toNat h) rfl rfl rfl rfl rfl rfl rfl rfl rfl rfl rfl (Go.Au.steps_len _ hh) (Go.Au.steps_len _ hh) ?_
  refine T_pev rfl rfl rfl rfl ?_
  refine T_pev rfl rfl rfl rfl ?_
  refine T_bool 52 true rfl (decide_eq_true rfl) ?_
  refine T_yes rfl rfl rfl ?_ rfl
  refine T_callS rfl rfl g_aumbry_aumbrylaw08_wakes rfl rfl rfl rfl ((wakes_ok S52.le (hT.mono (hl16.trans (hl28.trans hl32)))).mono ?_)
  rintro e w54 ⟨rfl, hB53⟩
  have S55 := S52.call hB53
  refine ⟨_, rfl, (((Hp.le.refl _)).trans S55.le), ?_⟩
  refine T_pev rfl rfl rfl rfl ?_
  refine T_pev rfl rfl rfl rfl ?_
  refine T_nil ?_
  refine W_ret ?_
  refine ⟨_, ⟨_, _, rfl, rfl, rfl⟩, ?_⟩
  exact ⟨rfl, S55.below⟩


theorem wotsSteps_ok {H : Hp} {w : World} (hH : H.le (hw w)) (hT : Tabs H) {seed h : List UInt8} (leaf chain n : Int) (hs : seed.length = 16) (hh : h.length = 32) (hl : leaf ≤ 9223372036854775807) (hc : chain ≤ 9223372036854775807) :
    Calls Tryd.prog 5 #[hV seed, .int .i64 leaf, .int .i64 chain, .int .i64 n, hV h] w fun e w' => e = .returned (.bool true) ∧ Below w.heap.size w w' := by
  refine enter5 _ Tryd.func5 rfl Tryd.ntmps5 Tryd.results5 rfl ?_
  have S0 := St.start w hH
  refine W_seq ?_
  refine W_region ?_
  refine T_boxS S0 (fun _ _ => trivial) rfl rfl rfl rfl rfl rfl fun b1 w2 S3 => ?_
  refine T_boxS S3 (fun _ _ => trivial) rfl rfl rfl rfl rfl rfl fun b4 w5 S6 => ?_
  refine T_pev rfl rfl rfl rfl ?_
  refine T_nil ?_
  refine W_seq ?_
  obtain ⟨G8, hl9, S7, r10⟩ := S6.stillBlk 1 rfl
  obtain ⟨G12, hl13, S11, r14⟩ := S7.stillBlk 0 rfl
  refine W_plan (planF Tryd.prog G12 [15, 23, 31]) rfl (by kernel_rfl) S11.le ?_
  have S15 := S11.drew
  refine T_loadGA _ S15 (still_cells (hl13 _ _ r10)) rfl rfl rfl rfl rfl rfl rfl rfl (hVs hs) ?_
  refine T_pev rfl rfl rfl rfl ?_
  refine T_pev rfl rfl rfl rfl ?_
  refine T_callS rfl rfl g_aumbry_wots_Start rfl rfl rfl rfl ((start_ok S15.le (hT.mono (hl9.trans hl13)) leaf chain hs (by omega) (by omega)).mono ?_)
  rintro e w17 ⟨rfl, hB16⟩
  have S18 := S15.call hB16
  refine ⟨_, rfl, (((Hp.le.refl _)).trans S18.le), ?_⟩
  refine T_loadGAP _ (fun _ h => h) (still_cells (hl13 _ _ r10)) rfl rfl rfl rfl rfl rfl rfl rfl (hVs hs) ?_
  refine T_pev rfl rfl rfl rfl ?_
  refine T_pev rfl rfl rfl rfl ?_
  refine T_callS rfl rfl g_aumbry_aumbryref07_Start rfl rfl rfl rfl ((startR_ok S18.le leaf chain hs (by omega) (by omega)).mono ?_)
  rintro e w20 ⟨rfl, hB19⟩
  have S21 := S18.call hB19
  refine ⟨_, rfl, (((Hp.le.refl _)).trans S21.le), ?_⟩
  refine T_eqB (xs := Go.Au.start seed leaf chain) (ys := Go.Au.start seed leaf chain) rfl rfl rfl rfl rfl rfl rfl rfl rfl rfl rfl (Go.Au.start_len _ _ _) (Go.Au.start_len _ _ _) ?_
  refine T_pev rfl rfl rfl rfl ?_
  refine T_bool 20 true rfl (decide_eq_true (by first | rfl | omega)) ?_
  refine T_yes rfl rfl rfl ?_ rfl
  refine T_loadGA _ S21 (still_cells r14) rfl rfl rfl rfl rfl rfl rfl rfl (hVs hh) ?_
  refine T_yes rfl rfl rfl ?_ rfl
  refine T_callS rfl rfl g_aumbry_wots_Step rfl rfl rfl rfl ((step_ok S21.le (hT.mono (hl9.trans hl13)) hh).mono ?_)
  rintro e w23 ⟨rfl, hB22⟩
  have S24 := S21.call hB22
  refine ⟨_, rfl, (((Hp.le.refl _)).trans S24.le), ?_⟩
  refine T_yes rfl rfl rfl ?_ rfl
  refine T_loadGAP _ (fun _ h => h) (still_cells r14) rfl rfl rfl rfl rfl rfl rfl rfl (hVs hh) ?_
  refine T_yes rfl rfl rfl ?_ rfl
  refine T_callS rfl rfl g_aumbry_aumbryref07_Step rfl rfl rfl rfl ((stepR_ok S24.le hh).mono ?_)
  rintro e w26 ⟨rfl, hB25⟩
  have S27 := S24.call hB25
  refine ⟨_, rfl, (((Hp.le.refl _)).trans S27.le), ?_⟩
  refine T_yes rfl rfl rfl ?_ rfl
  refine T_eqB (xs := Go.Au.step h) (ys := Go.Au.step h) rfl rfl rfl rfl rfl rfl rfl rfl rfl rfl rfl (Go.Au.step_len _) (Go.Au.step_len _) ?_
  refine T_pev rfl rfl rfl rfl ?_
  refine T_pev rfl rfl rfl rfl ?_
  refine T_bool 27 true rfl (decide_eq_true (by first | rfl | omega)) ?_
  refine T_yes rfl rfl rfl ?_ rfl
  refine T_loadGA _ S27 (still_cells r14) rfl rfl rfl rfl rfl rfl rfl rfl (hVs hh) ?_
  refine T_yes rfl rfl rfl ?_ rfl
  refine T_pev rfl rfl rfl rfl ?_
  refine T_yes rfl rfl rfl ?_ rfl
  refine T_callS rfl rfl g_aumbry_wots_Along rfl rfl rfl rfl ((along_ok S27.le (hT.mono (hl9.trans hl13)) n hh).mono ?_)
  rintro e w29 ⟨rfl, hB28⟩
  have S30 := S27.call hB28
  refine ⟨_, rfl, (((Hp.le.refl _)).trans S30.le), ?_⟩
  refine T_yes rfl rfl rfl ?_ rfl
  refine T_loadGAP _ (fun _ h => h) (still_cells r14) rfl rfl rfl rfl rfl rfl rfl rfl (hVs hh) ?_
  refine T_yes rfl rfl rfl ?_ rfl
  refine T_pev rfl rfl rfl rfl ?_
  refine T_yes rfl rfl rfl ?_ rfl
  refine T_callS rfl rfl g_aumbry_aumbryref07_Along rfl rfl rfl rfl ((alongR_ok S30.le n hh).mono ?_)
  rintro e w32 ⟨rfl, hB31⟩
  have S33 := S30.call hB31
  refine ⟨_, rfl, (((Hp.le.refl _)).trans S33.le), ?_⟩
  refine T_yes rfl rfl rfl ?_ rfl
  refine T_eqB (xs := Go.Au.steps (max (0 : Int) (min n 15)).toNat h) (ys := Go.Au.steps (max (0 : Int) (min n 15)).toNat h) rfl rfl rfl rfl rfl rfl rfl rfl rfl rfl rfl (Go.Au.steps_len _ hh) (Go.Au.steps_len _ hh) ?_
  refine T_pev rfl rfl rfl rfl ?_
  refine T_pev rfl rfl rfl rfl ?_
  refine T_bool 36 true rfl (decide_eq_true (by first | rfl | omega)) ?_
  refine T_yes rfl rfl rfl ?_ rfl
  refine T_callS rfl rfl g_aumbry_aumbrylaw08_wakes rfl rfl rfl rfl ((wakes_ok S33.le (hT.mono (hl9.trans hl13))).mono ?_)
  rintro e w35 ⟨rfl, hB34⟩
  have S36 := S33.call hB34
  refine ⟨_, rfl, (((Hp.le.refl _)).trans S36.le), ?_⟩
  refine T_pev rfl rfl rfl rfl ?_
  refine T_pev rfl rfl rfl rfl ?_
  refine T_nil ?_
  refine W_ret ?_
  refine ⟨_, ⟨_, _, rfl, rfl, rfl⟩, ?_⟩
  exact ⟨rfl, S36.below⟩


theorem wotsSigns_ok {H : Hp} {w : World} (hH : H.le (hw w)) (hT : Tabs H) {seed : List UInt8} (leaf : Int) (hs : seed.length = 16) (hl : leaf ≤ 9223372036854775807) {m : List UInt8} {aa2 : Option Addr} {nn2 cc2 : Nat} (hv : Rd H (.slice aa2 nn2 cc2) nn2 1 (m.map bV)) :
    Calls Tryd.prog 7 #[hV seed, .int .i64 leaf, .slice aa2 nn2 cc2] w fun e w' => e = .returned (.bool true) ∧ Below w.heap.size w w' := by
  obtain rfl : nn2 = m.length := hv.lenB
  have hvcap : m.length ≤ cc2 := hv.capOf
  have hm60 : (m.take 60).length < 1000 := by rw [List.length_take]; omega
  have hsl := Go.Au.sign_len seed leaf (m.take 60) 67
  refine enter3 _ Tryd.func7 rfl Tryd.ntmps7 Tryd.results7 rfl ?_
  have S0 := St.start w hH
  refine W_seq ?_
  refine W_region ?_
  refine T_boxS S0 (fun _ _ => trivial) rfl rfl rfl rfl rfl rfl fun b1 w2 S3 => ?_
  refine T_pev rfl rfl rfl rfl ?_
  refine T_nil ?_
  refine W_seq ?_
  refine W_region ?_
  refine T_pev rfl rfl rfl rfl ?_
  refine T_callS rfl rfl g_aumbry_aumbrykeep_Cut_byte rfl rfl rfl rfl ((cutB_ok S3.le hv 60).mono ?_)
  rintro e w9 ⟨a4, c5, hc6, rfl, hr7, hB8⟩
  have S10 := S3.call hB8
  refine ⟨_, rfl, trivial, ?_⟩
  refine T_pev rfl rfl rfl rfl ?_
  refine T_nil ?_
  refine W_seq ?_
  obtain ⟨G12, hl13, S11, r14⟩ := S10.stillBlk 0 rfl
  refine W_plan (planF Tryd.prog G12 [12, 21]) rfl (by kernel_rfl) S11.le ?_
  have S15 := S11.drew
  refine T_loadGA _ S15 (still_cells r14) rfl rfl rfl rfl rfl rfl rfl rfl (hVs hs) ?_
  refine T_pev rfl rfl rfl rfl ?_
  refine T_callS rfl rfl g_aumbry_wots_Public rfl rfl rfl rfl ((pub_ok S15.le (hT.mono hl13) leaf hs (by omega)).mono ?_)
  rintro e w17 ⟨rfl, hB16⟩
  have S18 := S15.call hB16
  refine ⟨_, rfl, (((Hp.le.refl _)).trans S18.le), ?_⟩
  refine T_loadGAP _ (fun _ h => h) (still_cells r14) rfl rfl rfl rfl rfl rfl rfl rfl (hVs hs) ?_
  refine T_pev rfl rfl rfl rfl ?_
  refine T_callS rfl rfl g_aumbry_aumbryref07_Public rfl rfl rfl rfl ((pubR_ok S18.le leaf hs (by omega)).mono ?_)
  rintro e w20 ⟨rfl, hB19⟩
  have S21 := S18.call hB19
  refine ⟨_, rfl, (((Hp.le.refl _)).trans S21.le), ?_⟩
  refine T_eqB (xs := Go.Au.pub seed leaf) (ys := Go.Au.pub seed leaf) rfl rfl rfl rfl rfl rfl rfl rfl rfl rfl rfl (Go.Au.pub_len _ _) (Go.Au.pub_len _ _) ?_
  refine T_pev rfl rfl rfl rfl ?_
  refine T_bool 16 true rfl (decide_eq_true (by first | rfl | omega)) ?_
  refine T_yes rfl rfl rfl ?_ rfl
  refine T_loadGA _ S21 (still_cells r14) rfl rfl rfl rfl rfl rfl rfl rfl (hVs hs) ?_
  refine T_yes rfl rfl rfl ?_ rfl
  refine T_pev rfl rfl rfl rfl ?_
  refine T_yes rfl rfl rfl ?_ rfl
  refine T_pev rfl rfl rfl rfl ?_
  refine T_yes rfl rfl rfl ?_ rfl
  refine T_callS rfl rfl g_aumbry_wots_Sign rfl rfl rfl rfl ((sign_ok S21.le (hT.mono hl13) leaf hs (by omega) (hr7.mono hl13) (by omega)).mono ?_)
  rintro e w27 ⟨a22, c23, hc24, rfl, ho25, hB26⟩
  have S28 := S21.own hB26 ho25
  refine ⟨_, rfl, (((Hp.le.refl _)).trans S28.le), ?_⟩
  refine T_yes rfl rfl rfl ?_ rfl
  refine T_loadGAP _ (fun _ h => h) (still_cells r14) rfl rfl rfl rfl rfl rfl rfl rfl (hVs hs) ?_
  refine T_yes rfl rfl rfl ?_ rfl
  refine T_pev rfl rfl rfl rfl ?_
  refine T_yes rfl rfl rfl ?_ rfl
  refine T_pev rfl rfl rfl rfl ?_
  refine T_yes rfl rfl rfl ?_ rfl
  refine T_callS rfl rfl g_aumbry_aumbryref07_SignOne rfl rfl rfl rfl ((signR_ok S28.le leaf hs (by omega) (hr7.mono hl13) (by omega)).mono ?_)
  rintro e w34 ⟨a29, c30, hc31, rfl, ho32, hB33⟩
  have S35 := S28.own hB33 ho32
  refine ⟨_, rfl, (((Hp.le.refl _)).trans S35.le), ?_⟩
  refine T_yes rfl rfl rfl ?_ rfl
  obtain ⟨G37, hl38, S36, r39⟩ := S35.stillRow 1 rfl
  have r40 := RdH.mk (Go.Au.sign_all _ _ _ _) (by decide) r39
  obtain ⟨G42, hl43, S41, r44⟩ := S36.stillRow 0 rfl
  have r45 := RdH.mk (Go.Au.sign_all _ _ _ _) (by decide) r44
  refine T_callS rfl rfl g_aumbry_aumbrykeep_Same_aumbry_api_Hash rfl rfl rfl rfl ((sameH_ok S41.le (r40.mono hl43) r45 (by omega)).mono ?_)
  rintro e w47 ⟨rfl, hB46⟩
  have S48 := S41.call hB46
  refine ⟨_, rfl, (((hl38.trans hl43)).trans S48.le), ?_⟩
  refine T_pev rfl rfl rfl rfl ?_
  refine T_pev rfl rfl rfl rfl ?_
  refine T_bool 27 true rfl (decide_eq_true (by first | rfl | omega)) ?_
  refine T_yes rfl rfl rfl ?_ rfl
  refine T_callS rfl rfl g_aumbry_aumbrylaw08_wakes rfl rfl rfl rfl ((wakes_ok S48.le (hT.mono (hl13.trans (hl38.trans hl43)))).mono ?_)
  rintro e w50 ⟨rfl, hB49⟩
  have S51 := S48.call hB49
  refine ⟨_, rfl, (((hl38.trans hl43)).trans S51.le), ?_⟩
  refine T_pev rfl rfl rfl rfl ?_
  refine T_pev rfl rfl rfl rfl ?_
  refine T_nil ?_
  refine W_ret ?_
  refine ⟨_, ⟨_, _, rfl, rfl, rfl⟩, ?_⟩
  exact ⟨rfl, S51.below⟩


theorem wotsDigits_ok {H : Hp} {w : World} (hH : H.le (hw w)) (hT : Tabs H) {m : List UInt8} {aa0 : Option Addr} {nn0 cc0 : Nat} (hv : Rd H (.slice aa0 nn0 cc0) nn0 1 (m.map bV)) :
    Calls Tryd.prog 3 #[.slice aa0 nn0 cc0] w fun e w' => e = .returned (.bool true) ∧ Below w.heap.size w w' := by
  obtain rfl : nn0 = m.length := hv.lenB
  have hvcap : m.length ≤ cc0 := hv.capOf
  have hm60 : (m.take 100).length < 1000 := by rw [List.length_take]; omega
  have hdl := Go.Au.digits_len (m.take 100)
  refine enter1 _ Tryd.func3 rfl Tryd.ntmps3 Tryd.results3 rfl ?_
  have S0 := St.start w hH
  refine W_seq ?_
  refine W_region ?_
  refine T_pev rfl rfl rfl rfl ?_
  refine T_nil ?_
  refine W_seq ?_
  refine W_region ?_
  refine T_pev rfl rfl rfl rfl ?_
  refine T_callS rfl rfl g_aumbry_aumbrykeep_Cut_byte rfl rfl rfl rfl ((cutB_ok S0.le hv 100).mono ?_)
  rintro e w6 ⟨a1, c2, hc3, rfl, hr4, hB5⟩
  have S7 := S0.call hB5
  refine ⟨_, rfl, trivial, ?_⟩
  refine T_pev rfl rfl rfl rfl ?_
  refine T_nil ?_
  refine W_seq ?_
  refine W_region ?_
  refine T_pev rfl rfl rfl rfl ?_
  refine T_callS rfl rfl g_aumbry_wots_Digits rfl rfl rfl rfl ((digits_w_ok S7.le hT hr4 (by omega)).mono ?_)
  rintro e w13 ⟨a8, c9, hc10, rfl, ho11, hB12⟩
  have S14 := S7.own hB12 ho11
  refine ⟨_, rfl, trivial, ?_⟩
  refine T_pev rfl rfl rfl rfl ?_
  refine T_nil ?_
  refine W_seq ?_
  refine W_seq ?_
  refine W_region ?_
  refine T_pev rfl rfl rfl rfl ?_
  refine T_pev rfl rfl rfl rfl ?_
  refine T_callS rfl rfl g_aumbry_aumbryref07_Digits rfl rfl rfl rfl ((digitsR_w_ok S14.le hr4 (by omega)).mono ?_)
  rintro e w20 ⟨a15, c16, hc17, rfl, ho18, hB19⟩
  have S21 := S14.own hB19 ho18
  refine ⟨_, rfl, trivial, ?_⟩
  obtain ⟨G23, hl24, S22, r25⟩ := S21.stillRow 1 rfl
  obtain ⟨G27, hl28, S26, r29⟩ := S22.stillRow 0 rfl
  refine T_callS rfl rfl g_aumbry_aumbrykeep_Same_int rfl rfl rfl rfl ((sameI_ok S26.le (r25.mono hl28) r29 (by omega)).mono ?_)
  rintro e w31 ⟨rfl, hB30⟩
  have S32 := S26.call hB30
  refine ⟨_, rfl, trivial, ?_⟩
  refine T_pev rfl rfl rfl rfl ?_
  refine T_nil ?_
  refine W_bool 14 false rfl (ndec_f (by simp)) ?_
  refine W_cond_false rfl ?_
  refine W_skip ?_
  refine W_seq ?_
  refine W_region ?_
  refine T_pev rfl rfl rfl rfl ?_
  refine T_nil ?_
  refine W_seq ?_
  refine W_seq ?_
  refine W_region ?_
  refine T_pev rfl rfl rfl rfl ?_
  refine T_nil ?_
  refine W_block ?_
  refine W_loop (fun M ρ w' => ∃ (k : Nat) (G33 : Hp), M = 64 - k ∧ k ≤ 64 ∧ ρ = [(3, .slice a8 67 c9), (4, .int .i64 (Go.Au.sum15 ((Go.Au.digits (m.take 100)).take k))), (5, .int .i64 (k : Int))] ∧ G27.le G33 ∧ St w H G33 [] w')
    (64 - 0) [(3, .slice a8 67 c9), (4, .int .i64 (0 : Int)), (5, .int .i64 ((0 : Nat) : Int))] ⟨rfl, (congrArg (fun z => some (Value.int .i64 z)) (by omega)), (congrArg (fun z => some (Value.int .i64 z)) (by omega)), trivial⟩ ⟨0, G27, rfl, (by omega), rfl, Hp.le.refl _, S32⟩ ?_
  rintro M ρ w35 ⟨k, G33, rfl, hp37, rfl, hl34, S36⟩
  refine W_seq ?_
  refine W_seq ?_
  refine W_region ?_
  refine T_pev rfl rfl rfl rfl ?_
  refine T_pev rfl rfl rfl rfl ?_
  refine T_nil ?_
  refine W_cond_dec rfl (fun h38 => ?_) (fun h38 => ?_)
  · refine W_skip ?_
    refine W_seq ?_
    refine W_block ?_
    refine W_region ?_
    refine T_pev rfl rfl rfl rfl ?_
    refine T_pev rfl rfl rfl rfl ?_
    refine T_pev rfl rfl rfl rfl ?_
    refine T_idxR k (r25.mono (hl28.trans hl34)) rfl rfl rfl rfl rfl rfl rfl rfl rfl (by omega) (by omega) fun b39 o40 hc41 => ?_
    have hc42 := hc41 0 (.int .i64 ((Go.Au.digits (m.take 100)).getD k 0)) (at_i (Go.Au.digits (m.take 100)) k (by omega))
    simp only [Nat.add_zero] at hc42
    refine T_loadG S36 hc42 rfl rfl rfl rfl rfl rfl rfl ?_
    have hdk := Go.Au.digits_at (m.take 100) k (by omega)
    have hsk := Go.Au.sum15_bd (m.take 100) k (by omega)
    have hst := Go.Au.sum15_take (l := Go.Au.digits (m.take 100)) (k := k) (by omega)
    refine T_ari rfl rfl rfl rfl (by omega) ?_
    refine T_ari rfl rfl rfl rfl (by omega) ?_
    refine T_pev rfl rfl rfl rfl ?_
    refine T_nil ?_
    refine W_region ?_
    refine T_pev rfl rfl rfl rfl ?_
    refine T_ari rfl rfl rfl rfl (by omega) ?_
    refine T_pev rfl rfl rfl rfl ?_
    refine T_nil ?_
    exact ⟨64 - (k + 1), [(3, .slice a8 67 c9), (4, .int .i64 (Go.Au.sum15 ((Go.Au.digits (m.take 100)).take (k + 1)))), (5, .int .i64 ((k + 1 : Nat) : Int))], by omega, ⟨rfl, (congrArg (fun z => some (Value.int .i64 z)) (by omega)), (congrArg (fun z => some (Value.int .i64 z)) (by omega)), trivial⟩, k + 1, G33, rfl, (by omega), rfl, hl34, S36⟩
  refine W_exit ?_
  refine W_seq ?_
  refine W_draw rfl (by kernel_rfl) ?_
  have S43 := S36.drew
  refine T_pev rfl rfl rfl rfl ?_
  refine T_idxR 64 (r25.mono (hl28.trans hl34)) rfl rfl rfl rfl rfl rfl rfl rfl rfl (by omega) (by omega) fun b44 o45 hc46 => ?_
  have hc47 := hc46 0 (.int .i64 ((Go.Au.digits (m.take 100)).getD 64 0)) (at_i (Go.Au.digits (m.take 100)) 64 (by omega))
  simp only [Nat.add_zero] at hc47
  refine T_loadG S43 hc47 rfl rfl rfl rfl rfl rfl rfl ?_
  have h64 := Go.Au.digits_at (m.take 100) 64 (by omega)
  have h65 := Go.Au.digits_at (m.take 100) 65 (by omega)
  have h66 := Go.Au.digits_at (m.take 100) 66 (by omega)
  refine T_ari rfl rfl rfl rfl (by omega) ?_
  refine T_pev rfl rfl rfl rfl ?_
  refine T_idxR 65 (r25.mono (hl28.trans hl34)) rfl rfl rfl rfl rfl rfl rfl rfl rfl (by omega) (by omega) fun b48 o49 hc50 => ?_
  have hc51 := hc50 0 (.int .i64 ((Go.Au.digits (m.take 100)).getD 65 0)) (at_i (Go.Au.digits (m.take 100)) 65 (by omega))
  simp only [Nat.add_zero] at hc51
  refine T_loadG S43 hc51 rfl rfl rfl rfl rfl rfl rfl ?_
  refine T_ari rfl rfl rfl rfl (by omega) ?_
  refine T_ari rfl rfl rfl rfl (by omega) ?_
  refine T_pev rfl rfl rfl rfl ?_
  refine T_idxR 66 (r25.mono (hl28.trans hl34)) rfl rfl rfl rfl rfl rfl rfl rfl rfl (by omega) (by omega) fun b52 o53 hc54 => ?_
  have hc55 := hc54 0 (.int .i64 ((Go.Au.digits (m.take 100)).getD 66 0)) (at_i (Go.Au.digits (m.take 100)) 66 (by omega))
  simp only [Nat.add_zero] at hc55
  refine T_loadG S43 hc55 rfl rfl rfl rfl rfl rfl rfl ?_
  refine T_ari rfl rfl rfl rfl (by omega) ?_
  refine T_pev rfl rfl rfl rfl ?_
  refine T_pev rfl rfl rfl rfl ?_
  refine T_pev rfl rfl rfl rfl ?_
  refine T_bool 41 true rfl (decide_eq_true (by rw [show k = 64 by omega]; exact Go.Au.checksum _)) ?_
  refine T_yes rfl rfl rfl ?_ rfl
  refine T_callS rfl rfl g_aumbry_aumbrylaw08_wakes rfl rfl rfl rfl ((wakes_ok S43.le (hT.mono (hl24.trans (hl28.trans hl34)))).mono ?_)
  rintro e w57 ⟨rfl, hB56⟩
  have S58 := S43.call hB56
  refine ⟨_, rfl, trivial, ?_⟩
  refine T_pev rfl rfl rfl rfl ?_
  refine T_pev rfl rfl rfl rfl ?_
  refine T_nil ?_
  refine W_ret ?_
  refine ⟨_, ⟨_, _, rfl, rfl, rfl⟩, ?_⟩
  exact ⟨rfl, S58.below⟩


theorem wotsEnds_ok {H : Hp} {w : World} (hH : H.le (hw w)) (hT : Tabs H) {seed : List UInt8} (leaf chain : Int) (hs : seed.length = 16) {m : List UInt8} {aa3 : Option Addr} {nn3 cc3 : Nat} (hv : Rd H (.slice aa3 nn3 cc3) nn3 1 (m.map bV)) :
    Calls Tryd.prog 6 #[hV seed, .int .i64 leaf, .int .i64 chain, .slice aa3 nn3 cc3] w fun e w' => e = .returned (.bool true) ∧ Below w.heap.size w w' := by
  obtain rfl : nn3 = m.length := hv.lenB
  have hvcap : m.length ≤ cc3 := hv.capOf
  have hm60 : (m.take 40).length < 1000 := by rw [List.length_take]; omega
  have hsl := Go.Au.sign_len seed (leaf % 100) (m.take 40) 67
  have hdl := Go.Au.digits_len (m.take 40)
  have hel := Go.Au.ends_len (m.take 40) (Go.Au.sign seed (leaf % 100) (m.take 40) 67) 67
  have hcc : (((chain % 67).toNat : Nat) : Int) = chain % 67 := by omega
  have hda := Go.Au.digits_at (m.take 40) (chain % 67).toNat (by omega)
  refine enter4 _ Tryd.func6 rfl Tryd.ntmps6 Tryd.results6 rfl ?_
  have S0 := St.start w hH
  refine W_seq ?_
  refine W_region ?_
  refine T_boxS S0 (fun _ _ => trivial) rfl rfl rfl rfl rfl rfl fun b1 w2 S3 => ?_
  refine T_pev rfl rfl rfl rfl ?_
  refine T_nil ?_
  refine W_seq ?_
  refine W_region ?_
  refine T_pev rfl rfl rfl rfl ?_
  refine T_callS rfl rfl g_aumbry_aumbrykeep_Within rfl rfl rfl rfl ((withinN_ok S3.le leaf (100 : Int) (by omega)).mono ?_)
  rintro e w5 ⟨rfl, hB4⟩
  have S6 := S3.call hB4
  refine ⟨_, rfl, trivial, ?_⟩
  refine T_pev rfl rfl rfl rfl ?_
  refine T_callS rfl rfl g_aumbry_aumbrykeep_Within rfl rfl rfl rfl ((withinN_ok S6.le chain (67 : Int) (by omega)).mono ?_)
  rintro e w8 ⟨rfl, hB7⟩
  have S9 := S6.call hB7
  refine ⟨_, rfl, trivial, ?_⟩
  refine T_pev rfl rfl rfl rfl ?_
  refine T_pev rfl rfl rfl rfl ?_
  refine T_nil ?_
  refine W_seq ?_
  refine W_region ?_
  refine T_pev rfl rfl rfl rfl ?_
  refine T_callS rfl rfl g_aumbry_aumbrykeep_Cut_byte rfl rfl rfl rfl ((cutB_ok S9.le hv 40).mono ?_)
  rintro e w15 ⟨a10, c11, hc12, rfl, hr13, hB14⟩
  have S16 := S9.call hB14
  refine ⟨_, rfl, trivial, ?_⟩
  refine T_pev rfl rfl rfl rfl ?_
  refine T_nil ?_
  refine W_seq ?_
  refine W_region ?_
  refine T_loadFS 0 S16 rfl rfl rfl rfl rfl rfl rfl rfl rfl (hVs hs) ?_
  refine T_pev rfl rfl rfl rfl ?_
  refine T_pev rfl rfl rfl rfl ?_
  refine T_callS rfl rfl g_aumbry_wots_Sign rfl rfl rfl rfl ((sign_ok S16.le hT (leaf % (100 : Int)) hs (by omega) hr13 (by omega)).mono ?_)
  rintro e w22 ⟨a17, c18, hc19, rfl, ho20, hB21⟩
  have S23 := S16.own hB21 ho20
  refine ⟨_, rfl, trivial, ?_⟩
  refine T_pev rfl rfl rfl rfl ?_
  refine T_nil ?_
  refine W_seq ?_
  refine W_region ?_
  refine T_pev rfl rfl rfl rfl ?_
  refine T_pev rfl rfl rfl rfl ?_
  obtain ⟨G25, hl26, S24, r27⟩ := S23.stillRow 0 rfl
  have r28 := RdH.mk (Go.Au.sign_all _ _ _ _) (by decide) r27
  refine T_callS rfl rfl g_aumbry_wots_Ends rfl rfl rfl rfl ((ends_ok S24.le (hT.mono hl26) (hr13.mono hl26) r28 (by omega) (by omega)).mono ?_)
  rintro e w34 ⟨a29, c30, hc31, rfl, ho32, hB33⟩
  have S35 := S24.own hB33 ho32
  refine ⟨_, rfl, trivial, ?_⟩
  refine T_pev rfl rfl rfl rfl ?_
  refine T_pev rfl rfl rfl rfl ?_
  refine T_pev rfl rfl rfl rfl ?_
  refine T_pev rfl rfl rfl rfl ?_
  refine T_pev rfl rfl rfl rfl ?_
  refine T_nil ?_
  refine W_seq ?_
  refine W_region ?_
  refine T_pev rfl rfl rfl rfl ?_
  refine T_callS rfl rfl g_aumbry_wots_Digits rfl rfl rfl rfl ((digits_w_ok S35.le (hT.mono hl26) (hr13.mono hl26) (by omega)).mono ?_)
  rintro e w41 ⟨a36, c37, hc38, rfl, ho39, hB40⟩
  have S42 := S35.own hB40 ho39
  refine ⟨_, rfl, trivial, ?_⟩
  refine T_pev rfl rfl rfl rfl ?_
  refine T_nil ?_
  refine W_seq ?_
  refine W_seq ?_
  refine W_region ?_
  refine T_pev rfl rfl rfl rfl ?_
  refine T_pev rfl rfl rfl rfl ?_
  refine T_pev rfl rfl rfl rfl ?_
  refine T_yes rfl rfl rfl ?_ rfl
  refine T_pev rfl rfl rfl rfl ?_
  refine T_yes rfl rfl rfl ?_ rfl
  refine T_pev rfl rfl rfl rfl ?_
  refine T_yes rfl rfl rfl ?_ rfl
  refine T_pev rfl rfl rfl rfl ?_
  refine T_pev rfl rfl rfl rfl ?_
  refine T_pev rfl rfl rfl rfl ?_
  refine T_bool 41 false rfl (ndec_f (by omega)) ?_
  refine T_yes rfl rfl rfl ?_ rfl
  refine T_pev rfl rfl rfl rfl ?_
  refine T_yes rfl rfl rfl ?_ rfl
  refine T_pev rfl rfl rfl rfl ?_
  refine T_yes rfl rfl rfl ?_ rfl
  refine T_pev rfl rfl rfl rfl ?_
  refine T_pev rfl rfl rfl rfl ?_
  refine T_pev rfl rfl rfl rfl ?_
  refine T_bool 46 false rfl (ndec_f (by omega)) ?_
  refine T_yes rfl rfl rfl ?_ rfl
  refine T_pev rfl rfl rfl rfl ?_
  refine T_yes rfl rfl rfl ?_ rfl
  refine T_pev rfl rfl rfl rfl ?_
  refine T_yes rfl rfl rfl ?_ rfl
  refine T_pev rfl rfl rfl rfl ?_
  refine T_pev rfl rfl rfl rfl ?_
  refine T_nil ?_
  refine W_bool 50 false rfl (ndec_f (by omega)) ?_
  refine W_cond_false rfl ?_
  refine W_skip ?_
  refine W_seq ?_
  refine W_region ?_
  refine T_loadFS 2 S42 rfl rfl rfl rfl rfl rfl rfl rfl rfl (hVs hs) ?_
  refine T_pev rfl rfl rfl rfl ?_
  refine T_pev rfl rfl rfl rfl ?_
  refine T_callS rfl rfl g_aumbry_wots_Start rfl rfl rfl rfl ((start_ok S42.le (hT.mono hl26) (leaf % (100 : Int)) (chain % (67 : Int)) hs (by omega) (by omega)).mono ?_)
  rintro e w44 ⟨rfl, hB43⟩
  have S45 := S42.call hB43
  refine ⟨_, rfl, trivial, ?_⟩
  refine T_callS rfl rfl g_aumbry_wots_Along rfl rfl rfl rfl ((along_ok S45.le (hT.mono hl26) (15 : Int) (Go.Au.start_len _ _ _)).mono ?_)
  rintro e w47 ⟨rfl, hB46⟩
  have S48 := S45.call hB46
  refine ⟨_, rfl, trivial, ?_⟩
  refine T_allocS S48 (fun _ _ => trivial) rfl rfl rfl rfl rfl rfl rfl fun b49 w50 S51 => ?_
  refine T_storeFS 0 S51 (fun _ _ => trivial) rfl rfl rfl rfl rfl rfl rfl rfl rfl (hVs (Go.Au.steps_len _ (Go.Au.start_len _ _ _))) (hVs (Go.Au.steps_len _ (Go.Au.start_len _ _ _))) (one_hA _) fun w52 S53 => ?_
  refine T_nil ?_
  refine W_seq ?_
  refine W_region ?_
  refine T_pev rfl rfl rfl rfl ?_
  refine T_pev rfl rfl rfl rfl ?_
  refine T_sliceR 1 67 r28.2 rfl rfl rfl rfl rfl rfl rfl rfl rfl rfl rfl (bound_of (by omega)) (by omega) (by omega) fun a54 c55 hc56 r57 => ?_
  have r58 := RdH.cut (lo := 1) r28.1 (by simp only [List.length_take, List.length_drop]; omega) r57
  refine T_callS rfl rfl g_aumbry_wots_Ends rfl rfl rfl rfl ((ends_ok_no S53.le (hT.mono hl26) (hr13.mono hl26) r58 (by omega) (by rw [List.length_take, List.length_drop]; omega)).mono ?_)
  rintro e w60 ⟨rfl, hB59⟩
  have S61 := S53.call hB59
  refine ⟨_, rfl, trivial, ?_⟩
  refine T_pev rfl rfl rfl rfl ?_
  refine T_pev rfl rfl rfl rfl ?_
  refine T_pev rfl rfl rfl rfl ?_
  refine T_pev rfl rfl rfl rfl ?_
  refine T_pev rfl rfl rfl rfl ?_
  refine T_nil ?_
  refine W_seq ?_
  obtain ⟨G63, hl64, S62, r65⟩ := S61.stillBlk 0 rfl
  obtain ⟨G67, hl68, S66, r69⟩ := S62.stillRow 0 rfl
  refine W_plan (planF Tryd.prog G67 [80, 87, 95]) rfl (by kernel_rfl) S66.le ?_
  have S70 := S66.drew
  refine T_pev rfl rfl rfl rfl ?_
  refine T_pev rfl rfl rfl rfl ?_
  obtain ⟨G72, hl73, S71, r74⟩ := S70.stillRow 0 rfl
  have r75 := RdH.mk (Go.Au.ends_all r28.1 (by omega)) (by decide) r74
  refine T_idxR ((chain % (67 : Int)).toNat) r75.2 rfl rfl rfl rfl rfl rfl rfl rfl rfl (by omega) (by omega) fun b76 o77 hc78 => ?_
  have hc79 := cells_h r75.1 ((chain % (67 : Int)).toNat) (by omega) hc78
  have hl80 := len_h r75.1 ((chain % (67 : Int)).toNat) (by omega)
  refine T_loadGA _ S71 hc79 rfl rfl rfl rfl rfl rfl rfl rfl (hVs hl80) ?_
  refine T_loadGA _ S71 (still_cells (hl73 _ _ (hl68 _ _ r65))) rfl rfl rfl rfl rfl rfl rfl rfl (hVs (Go.Au.steps_len _ (Go.Au.start_len _ _ _))) ?_
  refine T_eqB (xs := (Go.Au.ends (m.take 40) (Go.Au.sign seed (leaf % (100 : Int)) (m.take 40) 67) 67).getD ((chain % (67 : Int)).toNat) []) (ys := Go.Au.steps (max (0 : Int) (min (15 : Int) 15)).toNat (Go.Au.start seed (leaf % (100 : Int)) (chain % (67 : Int)))) rfl rfl rfl rfl rfl rfl rfl rfl rfl rfl rfl hl80 (Go.Au.steps_len _ (Go.Au.start_len _ _ _)) ?_
  refine T_pev rfl rfl rfl rfl ?_
  refine T_bool 69 true rfl (decide_eq_true (by rw [Go.Au.ends_at _ _ _ _ (by omega), Go.Au.ends_sign_at _ _ _ _ (by omega), hcc]; rfl)) ?_
  refine T_yes rfl rfl rfl ?_ rfl
  refine T_pev rfl rfl rfl rfl ?_
  refine T_yes rfl rfl rfl ?_ rfl
  refine T_pev rfl rfl rfl rfl ?_
  refine T_yes rfl rfl rfl ?_ rfl
  refine T_idxR ((chain % (67 : Int)).toNat) (r28.mono (hl64.trans hl68)).2 rfl rfl rfl rfl rfl rfl rfl rfl rfl (by omega) (by omega) fun b81 o82 hc83 => ?_
  have hc84 := cells_h (r28.mono (hl64.trans hl68)).1 ((chain % (67 : Int)).toNat) (by omega) hc83
  have hl85 := len_h (r28.mono (hl64.trans hl68)).1 ((chain % (67 : Int)).toNat) (by omega)
  refine T_yes rfl rfl rfl ?_ rfl
  refine T_loadGA _ S71 (fun j u hu => hcell_mono hl73 (hc84 j u hu)) rfl rfl rfl rfl rfl rfl rfl rfl (hVs hl85) ?_
  refine T_yes rfl rfl rfl ?_ rfl
  refine T_pev rfl rfl rfl rfl ?_
  refine T_yes rfl rfl rfl ?_ rfl
  refine T_pev rfl rfl rfl rfl ?_
  refine T_yes rfl rfl rfl ?_ rfl
  refine T_idxR ((chain % (67 : Int)).toNat) r69 rfl rfl rfl rfl rfl rfl rfl rfl rfl (by omega) (by omega) fun b86 o87 hc88 => ?_
  have hc89 := hc88 0 (.int .i64 ((Go.Au.digits (m.take 40)).getD ((chain % (67 : Int)).toNat) 0)) (at_i (Go.Au.digits (m.take 40)) ((chain % (67 : Int)).toNat) (by omega))
  simp only [Nat.add_zero] at hc89
  refine T_yes rfl rfl rfl ?_ rfl
  refine T_loadG S71 (hcell_mono hl73 hc89) rfl rfl rfl rfl rfl rfl rfl ?_
  refine T_yes rfl rfl rfl ?_ rfl
  refine T_ari rfl rfl rfl rfl (by omega) ?_
  refine T_yes rfl rfl rfl ?_ rfl
  refine T_callS rfl rfl g_aumbry_wots_Along rfl rfl rfl rfl ((along_ok S71.le (hT.mono (hl26.trans (hl64.trans (hl68.trans hl73)))) ((15 : Int) - ((Go.Au.digits (m.take 40)).getD ((chain % (67 : Int)).toNat) 0)) hl85).mono ?_)
  rintro e w91 ⟨rfl, hB90⟩
  have S92 := S71.call hB90
  refine ⟨_, rfl, ((hl73).trans S92.le), ?_⟩
  refine T_yes rfl rfl rfl ?_ rfl
  refine T_loadGAP _ (fun _ h => h) (still_cells (hl68 _ _ r65)) rfl rfl rfl rfl rfl rfl rfl rfl (hVs (Go.Au.steps_len _ (Go.Au.start_len _ _ _))) ?_
  refine T_yes rfl rfl rfl ?_ rfl
  refine T_eqB (xs := Go.Au.steps (max (0 : Int) (min ((15 : Int) - ((Go.Au.digits (m.take 40)).getD ((chain % (67 : Int)).toNat) 0)) 15)).toNat ((Go.Au.sign seed (leaf % (100 : Int)) (m.take 40) 67).getD ((chain % (67 : Int)).toNat) [])) (ys := Go.Au.steps (max (0 : Int) (min (15 : Int) 15)).toNat (Go.Au.start seed (leaf % (100 : Int)) (chain % (67 : Int)))) rfl rfl rfl rfl rfl rfl rfl rfl rfl rfl rfl (Go.Au.steps_len _ hl85) (Go.Au.steps_len _ (Go.Au.start_len _ _ _)) ?_
  refine T_pev rfl rfl rfl rfl ?_
  refine T_pev rfl rfl rfl rfl ?_
  refine T_bool 83 true rfl (decide_eq_true (by have h := Go.Au.ends_sign_at seed (leaf % 100) (m.take 40) (chain % 67).toNat (by omega); rw [hcc] at h; rw [show (max (0 : Int) (min (15 - (Go.Au.digits (m.take 40)).getD (chain % 67).toNat 0) 15)).toNat = 15 - ((Go.Au.digits (m.take 40)).getD (chain % 67).toNat 0).toNat by omega]; exact h)) ?_
  refine T_yes rfl rfl rfl ?_ rfl
  refine T_pev rfl rfl rfl rfl ?_
  refine T_yes rfl rfl rfl ?_ rfl
  refine T_pev rfl rfl rfl rfl ?_
  refine T_yes rfl rfl rfl ?_ rfl
  refine T_idxR ((chain % (67 : Int)).toNat) (r28.mono (hl64.trans hl68)).2 rfl rfl rfl rfl rfl rfl rfl rfl rfl (by omega) (by omega) fun b93 o94 hc95 => ?_
  have hc96 := cells_h (r28.mono (hl64.trans hl68)).1 ((chain % (67 : Int)).toNat) (by omega) hc95
  have hl97 := len_h (r28.mono (hl64.trans hl68)).1 ((chain % (67 : Int)).toNat) (by omega)
  refine T_yes rfl rfl rfl ?_ rfl
  refine T_loadGAP _ (fun _ h => h) hc96 rfl rfl rfl rfl rfl rfl rfl rfl (hVs hl97) ?_
  refine T_yes rfl rfl rfl ?_ rfl
  refine T_loadFS 0 S92 rfl rfl rfl rfl rfl rfl rfl rfl rfl (hVs hs) ?_
  refine T_yes rfl rfl rfl ?_ rfl
  refine T_pev rfl rfl rfl rfl ?_
  refine T_yes rfl rfl rfl ?_ rfl
  refine T_pev rfl rfl rfl rfl ?_
  refine T_yes rfl rfl rfl ?_ rfl
  refine T_callS rfl rfl g_aumbry_wots_Start rfl rfl rfl rfl ((start_ok S92.le (hT.mono (hl26.trans (hl64.trans (hl68.trans hl73)))) (leaf % (100 : Int)) (chain % (67 : Int)) hs (by omega) (by omega)).mono ?_)
  rintro e w99 ⟨rfl, hB98⟩
  have S100 := S92.call hB98
  refine ⟨_, rfl, ((hl73).trans S100.le), ?_⟩
  refine T_yes rfl rfl rfl ?_ rfl
  refine T_pev rfl rfl rfl rfl ?_
  refine T_yes rfl rfl rfl ?_ rfl
  refine T_pev rfl rfl rfl rfl ?_
  refine T_yes rfl rfl rfl ?_ rfl
  refine T_idxR ((chain % (67 : Int)).toNat) r69 rfl rfl rfl rfl rfl rfl rfl rfl rfl (by omega) (by omega) fun b101 o102 hc103 => ?_
  have hc104 := hc103 0 (.int .i64 ((Go.Au.digits (m.take 40)).getD ((chain % (67 : Int)).toNat) 0)) (at_i (Go.Au.digits (m.take 40)) ((chain % (67 : Int)).toNat) (by omega))
  simp only [Nat.add_zero] at hc104
  refine T_yes rfl rfl rfl ?_ rfl
  refine T_loadGP (fun _ h => h) hc104 rfl rfl rfl rfl rfl rfl rfl ?_
  refine T_yes rfl rfl rfl ?_ rfl
  refine T_callS rfl rfl g_aumbry_wots_Along rfl rfl rfl rfl ((along_ok S100.le (hT.mono (hl26.trans (hl64.trans (hl68.trans hl73)))) ((Go.Au.digits (m.take 40)).getD ((chain % (67 : Int)).toNat) 0) (Go.Au.start_len _ _ _)).mono ?_)
  rintro e w106 ⟨rfl, hB105⟩
  have S107 := S100.call hB105
  refine ⟨_, rfl, ((hl73).trans S107.le), ?_⟩
  refine T_yes rfl rfl rfl ?_ rfl
  refine T_eqB (xs := (Go.Au.sign seed (leaf % (100 : Int)) (m.take 40) 67).getD ((chain % (67 : Int)).toNat) []) (ys := Go.Au.steps (max (0 : Int) (min ((Go.Au.digits (m.take 40)).getD ((chain % (67 : Int)).toNat) 0) 15)).toNat (Go.Au.start seed (leaf % (100 : Int)) (chain % (67 : Int)))) rfl rfl rfl rfl rfl rfl rfl rfl rfl rfl rfl hl97 (Go.Au.steps_len _ (Go.Au.start_len _ _ _)) ?_
  refine T_pev rfl rfl rfl rfl ?_
  refine T_pev rfl rfl rfl rfl ?_
  refine T_bool 99 true rfl (decide_eq_true (by rw [Go.Au.sign_at _ _ _ _ _ (by omega), hcc]; exact congrArg (fun q => Go.Au.steps q _) (by omega))) ?_
  refine T_yes rfl rfl rfl ?_ rfl
  refine T_pev rfl rfl rfl rfl ?_
  refine T_yes rfl rfl rfl ?_ rfl
  refine T_pev rfl rfl rfl rfl ?_
  refine T_pev rfl rfl rfl rfl ?_
  refine T_pev rfl rfl rfl rfl ?_
  refine T_yes rfl rfl rfl ?_ rfl
  refine T_callS rfl rfl g_aumbry_aumbrylaw08_wakes rfl rfl rfl rfl ((wakes_ok S107.le (hT.mono (hl26.trans (hl64.trans (hl68.trans hl73))))).mono ?_)
  rintro e w109 ⟨rfl, hB108⟩
  have S110 := S107.call hB108
  refine ⟨_, rfl, ((hl73).trans S110.le), ?_⟩
  refine T_pev rfl rfl rfl rfl ?_
  refine T_pev rfl rfl rfl rfl ?_
  refine T_nil ?_
  refine W_ret ?_
  refine ⟨_, ⟨_, _, rfl, rfl, rfl⟩, ?_⟩
  exact ⟨rfl, S110.below⟩

end Go.Proofs.YthfdnnjlnipikaaDoor
