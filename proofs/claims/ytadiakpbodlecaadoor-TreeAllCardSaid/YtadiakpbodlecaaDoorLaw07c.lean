/- The statements of chapter 7, walked: ways. -/
import Derived.Test.YtadiakpbodlecaaDoorLaw07b
import Derived.Test.YtadiakpbodlecaaDoorTreeD
set_option linter.unusedVariables false
set_option linter.unusedSimpArgs false
set_option maxRecDepth 8192
namespace Go.Proofs.YtadiakpbodlecaaDoor
open Go Go.F Go.RowKit

theorem treeClimbs_ok {H : Hp} {w : World} (hH : H.le (hw w)) (hT : Tabs H) (n i : Int) {x r : List UInt8} (hx : x.length = 32) (hr : r.length = 32) {p : List (List UInt8)} {aa4 : Option Addr} {nn4 cc4 : Nat} (hp : RdH H (.slice aa4 nn4 cc4) 32 p) :
    Calls Tryd.prog 7 #[.int .i64 n, .int .i64 i, hV x, hV r, .slice aa4 nn4 cc4] w fun e w' => e = .returned (.bool true) ∧ Below w.heap.size w w' := by
  obtain rfl : nn4 = p.length := hp.len
  have hpcap : p.length ≤ cc4 := hp.2.capOf
  refine enter5 _ Tryd.func7 rfl Tryd.ntmps7 Tryd.results7 rfl ?_
  have S0 := St.start w hH
  refine W_seq ?_
  refine W_region ?_
  refine T_boxS S0 (fun _ _ => trivial) rfl rfl rfl rfl rfl rfl fun b1 w2 S3 => ?_
  refine T_boxS S3 (fun _ _ => trivial) rfl rfl rfl rfl rfl rfl fun b4 w5 S6 => ?_
  refine T_pev rfl rfl rfl rfl ?_
  refine T_nil ?_
  refine W_seq ?_
  refine W_region ?_
  refine T_pev rfl rfl rfl rfl ?_
  refine T_callS rfl rfl g_aumbry_aumbrykeep_Cut_aumbry_api_Hash rfl rfl rfl rfl ((cutH_ok S6.le hp 12).mono ?_)
  rintro e w12 ⟨a7, c8, hc9, rfl, hr10, hB11⟩
  have S13 := S6.call hB11
  refine ⟨_, rfl, trivial, ?_⟩
  refine T_pev rfl rfl rfl rfl ?_
  refine T_nil ?_
  refine W_seq ?_
  refine W_region ?_
  refine T_pev rfl rfl rfl rfl ?_
  refine T_pev rfl rfl rfl rfl ?_
  refine T_loadFS 1 S13 rfl rfl rfl rfl rfl rfl rfl rfl rfl (hVs hx) ?_
  refine T_pev rfl rfl rfl rfl ?_
  refine T_callS rfl rfl g_aumbry_tree_Climb rfl rfl rfl rfl ((climb_ok S13.le hT n i hx hr10).mono ?_)
  rintro e w15 ⟨rfl, hB14⟩
  have S16 := S13.call hB14
  refine ⟨_, rfl, trivial, ?_⟩
  refine T_pev rfl rfl rfl rfl ?_
  refine T_pev rfl rfl rfl rfl ?_
  refine T_pev rfl rfl rfl rfl ?_
  refine T_allocS S16 (fun _ _ => trivial) rfl rfl rfl rfl rfl rfl rfl fun b17 w18 S19 => ?_
  refine T_storeFS 0 S19 (fun _ _ => trivial) rfl rfl rfl rfl rfl rfl rfl rfl rfl (hVs (Go.Au.climbH_len _ _ hx _)) (hVs (Go.Au.climbH_len _ _ hx _)) (one_hA _) fun w20 S21 => ?_
  refine T_pev rfl rfl rfl rfl ?_
  refine T_nil ?_
  refine W_seq ?_
  refine W_region ?_
  refine T_pev rfl rfl rfl rfl ?_
  refine T_pev rfl rfl rfl rfl ?_
  refine T_loadFS 2 S21 rfl rfl rfl rfl rfl rfl rfl rfl rfl (hVs hx) ?_
  refine T_pev rfl rfl rfl rfl ?_
  refine T_callS rfl rfl g_aumbry_aumbryref07_Climb rfl rfl rfl rfl ((climbR_ok S21.le n i hx hr10).mono ?_)
  rintro e w23 ⟨rfl, hB22⟩
  have S24 := S21.call hB22
  refine ⟨_, rfl, trivial, ?_⟩
  refine T_pev rfl rfl rfl rfl ?_
  refine T_pev rfl rfl rfl rfl ?_
  refine T_pev rfl rfl rfl rfl ?_
  refine T_allocS S24 (fun _ _ => trivial) rfl rfl rfl rfl rfl rfl rfl fun b25 w26 S27 => ?_
  refine T_storeFS 0 S27 (fun _ _ => trivial) rfl rfl rfl rfl rfl rfl rfl rfl rfl (hVs (Go.Au.climbH_len _ _ hx _)) (hVs (Go.Au.climbH_len _ _ hx _)) (one_hA _) fun w28 S29 => ?_
  refine T_pev rfl rfl rfl rfl ?_
  refine T_nil ?_
  refine W_seq ?_
  refine W_seq ?_
  refine W_region ?_
  refine T_pev rfl rfl rfl rfl ?_
  refine T_pev rfl rfl rfl rfl ?_
  refine T_bne rfl rfl rfl rfl rfl rfl rfl ?_
  refine T_pev rfl rfl rfl rfl ?_
  refine T_bool 36 false rfl (ndec_f rfl) ?_
  refine T_yes rfl rfl rfl ?_ rfl
  refine T_loadFS 1 S29 rfl rfl rfl rfl rfl rfl rfl rfl rfl (hVs (Go.Au.climbH_len _ _ hx _)) ?_
  refine T_yes rfl rfl rfl ?_ rfl
  refine T_loadFS 0 S29 rfl rfl rfl rfl rfl rfl rfl rfl rfl (hVs (Go.Au.climbH_len _ _ hx _)) ?_
  refine T_yes rfl rfl rfl ?_ rfl
  refine T_neB (xs := Go.Au.climbH n i x (p.take 12)) (ys := Go.Au.climbH n i x (p.take 12)) rfl rfl rfl rfl rfl rfl rfl rfl rfl rfl rfl (Go.Au.climbH_len _ _ hx _) (Go.Au.climbH_len _ _ hx _) ?_
  refine T_pev rfl rfl rfl rfl ?_
  refine T_nil ?_
  refine W_bool 40 false rfl (ndec_f rfl) ?_
  refine W_cond_false rfl ?_
  refine W_skip ?_
  refine W_seq ?_
  refine W_region ?_
  refine T_loadFS 2 S29 rfl rfl rfl rfl rfl rfl rfl rfl rfl (hVs hr) ?_
  refine T_pev rfl rfl rfl rfl ?_
  refine T_pev rfl rfl rfl rfl ?_
  refine T_loadFS 3 S29 rfl rfl rfl rfl rfl rfl rfl rfl rfl (hVs hx) ?_
  refine T_pev rfl rfl rfl rfl ?_
  refine T_callS rfl rfl g_aumbry_tree_Check rfl rfl rfl rfl ((check_ok S29.le hT hr n i hx hr10).mono ?_)
  rintro e w31 ⟨rfl, hB30⟩
  have S32 := S29.call hB30
  refine ⟨_, rfl, trivial, ?_⟩
  refine T_pev rfl rfl rfl rfl ?_
  refine T_pev rfl rfl rfl rfl ?_
  refine T_part (t := 48) rfl (List.cons_ne_nil _ _) (fun h33' => ?_) (fun h33' => ?_)
  · have h33 := h33'
    refine T_yes rfl rfl rfl ?_ rfl
    refine T_loadFS 0 S32 rfl rfl rfl rfl rfl rfl rfl rfl rfl (hVs (Go.Au.climbH_len _ _ hx _)) ?_
    refine T_yes rfl rfl rfl ?_ rfl
    refine T_loadFS 2 S32 rfl rfl rfl rfl rfl rfl rfl rfl rfl (hVs hr) ?_
    refine T_yes rfl rfl rfl ?_ rfl
    refine T_eqB (xs := Go.Au.climbH n i x (p.take 12)) (ys := r) rfl rfl rfl rfl rfl rfl rfl rfl rfl rfl rfl (Go.Au.climbH_len _ _ hx _) hr ?_
    refine T_pev rfl rfl rfl rfl ?_
    refine T_beq rfl rfl rfl rfl rfl rfl rfl ?_
    refine T_pev rfl rfl rfl rfl ?_
    refine T_bool 54 true rfl (decide_eq_true (by first | (rw [h33, Bool.true_and]) | (rw [h33]; rfl))) ?_
    refine T_yes rfl rfl rfl ?_ rfl
    refine T_loadFS 0 S32 rfl rfl rfl rfl rfl rfl rfl rfl rfl (hVs (Go.Au.climbH_len _ _ hx _)) ?_
    refine T_yes rfl rfl rfl ?_ rfl
    refine T_pev rfl rfl rfl rfl ?_
    refine T_yes rfl rfl rfl ?_ rfl
    refine T_pev rfl rfl rfl rfl ?_
    refine T_yes rfl rfl rfl ?_ rfl
    refine T_loadFS 3 S32 rfl rfl rfl rfl rfl rfl rfl rfl rfl (hVs hx) ?_
    refine T_yes rfl rfl rfl ?_ rfl
    refine T_pev rfl rfl rfl rfl ?_
    refine T_yes rfl rfl rfl ?_ rfl
    refine T_callS rfl rfl g_aumbry_tree_Check rfl rfl rfl rfl ((check_ok S32.le hT (Go.Au.climbH_len _ _ hx _) n i hx hr10).mono ?_)
    rintro e w35 ⟨rfl, hB34⟩
    have S36 := S32.call hB34
    refine ⟨_, rfl, trivial, ?_⟩
    refine T_yes rfl rfl rfl ?_ rfl
    refine T_pev rfl rfl rfl rfl ?_
    refine T_yes rfl rfl rfl ?_ rfl
    refine T_beq rfl rfl rfl rfl rfl rfl rfl ?_
    refine T_pev rfl rfl rfl rfl ?_
    refine T_pev rfl rfl rfl rfl ?_
    refine T_bool 64 true rfl (decide_eq_true (by simp)) ?_
    refine T_yes rfl rfl rfl ?_ rfl
    refine T_callS rfl rfl g_aumbry_aumbrylaw07_wakes rfl rfl rfl rfl ((wakes_ok S36.le hT).mono ?_)
    rintro e w38 ⟨rfl, hB37⟩
    have S39 := S36.call hB37
    refine ⟨_, rfl, trivial, ?_⟩
    refine T_pev rfl rfl rfl rfl ?_
    refine T_pev rfl rfl rfl rfl ?_
    refine T_nil ?_
    refine W_ret ?_
    refine ⟨_, ⟨_, _, rfl, rfl, rfl⟩, ?_⟩
    exact ⟨rfl, S39.below⟩
  have h33 := h33'
  refine T_no rfl rfl rfl rfl rfl rfl ?_
  refine T_no rfl rfl rfl rfl rfl rfl ?_
  refine T_no rfl rfl rfl rfl rfl rfl ?_
  refine T_pev rfl rfl rfl rfl ?_
  refine T_beq rfl rfl rfl rfl rfl rfl rfl ?_
  refine T_pev rfl rfl rfl rfl ?_
  refine T_bool 54 true rfl (decide_eq_true (by first | (rw [h33, Bool.true_and]) | (rw [h33]; rfl))) ?_
  refine T_yes rfl rfl rfl ?_ rfl
  refine T_loadFS 0 S32 rfl rfl rfl rfl rfl rfl rfl rfl rfl (hVs (Go.Au.climbH_len _ _ hx _)) ?_
  refine T_yes rfl rfl rfl ?_ rfl
  refine T_pev rfl rfl rfl rfl ?_
  refine T_yes rfl rfl rfl ?_ rfl
  refine T_pev rfl rfl rfl rfl ?_
  refine T_yes rfl rfl rfl ?_ rfl
  refine T_loadFS 3 S32 rfl rfl rfl rfl rfl rfl rfl rfl rfl (hVs hx) ?_
  refine T_yes rfl rfl rfl ?_ rfl
  refine T_pev rfl rfl rfl rfl ?_
  refine T_yes rfl rfl rfl ?_ rfl
  refine T_callS rfl rfl g_aumbry_tree_Check rfl rfl rfl rfl ((check_ok S32.le hT (Go.Au.climbH_len _ _ hx _) n i hx hr10).mono ?_)
  rintro e w41 ⟨rfl, hB40⟩
  have S42 := S32.call hB40
  refine ⟨_, rfl, trivial, ?_⟩
  refine T_yes rfl rfl rfl ?_ rfl
  refine T_pev rfl rfl rfl rfl ?_
  refine T_yes rfl rfl rfl ?_ rfl
  refine T_beq rfl rfl rfl rfl rfl rfl rfl ?_
  refine T_pev rfl rfl rfl rfl ?_
  refine T_pev rfl rfl rfl rfl ?_
  refine T_bool 64 true rfl (decide_eq_true (by simp)) ?_
  refine T_yes rfl rfl rfl ?_ rfl
  refine T_callS rfl rfl g_aumbry_aumbrylaw07_wakes rfl rfl rfl rfl ((wakes_ok S42.le hT).mono ?_)
  rintro e w44 ⟨rfl, hB43⟩
  have S45 := S42.call hB43
  refine ⟨_, rfl, trivial, ?_⟩
  refine T_pev rfl rfl rfl rfl ?_
  refine T_pev rfl rfl rfl rfl ?_
  refine T_nil ?_
  refine W_ret ?_
  refine ⟨_, ⟨_, _, rfl, rfl, rfl⟩, ?_⟩
  exact ⟨rfl, S45.below⟩

end Go.Proofs.YtadiakpbodlecaaDoor
