/- The statements of chapter 7, walked: proofs. -/
import Derived.Test.YtadiakpbodlecaaDoorLaw07
import Derived.Test.YtadiakpbodlecaaDoorTreeC
set_option linter.unusedVariables false
set_option linter.unusedSimpArgs false
set_option maxRecDepth 8192
namespace Go.Proofs.YtadiakpbodlecaaDoor
open Go Go.F Go.RowKit

theorem treeProofsNo {H : Hp} {w : World} (hH : H.le (hw w)) (hT : Tabs H) {h : List (List UInt8)} {aa0 : Option Addr} {nn0 cc0 : Nat} (hx : RdH H (.slice aa0 nn0 cc0) 32 h) (i : Int) (hi : ¬ (0 ≤ i ∧ i < (h.take 20).length)) :
    Calls Tryd.prog 5 #[.slice aa0 nn0 cc0, .int .i64 i] w fun e w' => e = .returned (.bool true) ∧ Below w.heap.size w w' := by
  obtain rfl : nn0 = h.length := hx.len
  have hxcap : h.length ≤ cc0 := hx.2.capOf
  have hh20 : (h.take 20).length ≤ 20 := by rw [List.length_take]; omega
  refine enter2 _ Tryd.func5 rfl Tryd.ntmps5 Tryd.results5 rfl ?_
  have S0 := St.start w hH
  refine W_seq ?_
  refine W_region ?_
  refine T_pev rfl rfl rfl rfl ?_
  refine T_nil ?_
  refine W_seq ?_
  refine W_region ?_
  refine T_pev rfl rfl rfl rfl ?_
  refine T_callS rfl rfl g_aumbry_aumbrykeep_Cut_aumbry_api_Hash rfl rfl rfl rfl ((cutH_ok S0.le hx 20).mono ?_)
  rintro e w6 ⟨a1, c2, hc3, rfl, hr4, hB5⟩
  have S7 := S0.call hB5
  refine ⟨_, rfl, trivial, ?_⟩
  refine T_pev rfl rfl rfl rfl ?_
  refine T_nil ?_
  refine W_seq ?_
  refine W_region ?_
  refine T_pev rfl rfl rfl rfl ?_
  refine T_pev rfl rfl rfl rfl ?_
  refine T_callS rfl rfl g_aumbry_tree_Proof rfl rfl rfl rfl ((proofNo_ok S7.le hT i hr4 (by omega) (by omega)).mono ?_)
  rintro e w9 ⟨rfl, hB8⟩
  have S10 := S7.call hB8
  refine ⟨_, rfl, trivial, ?_⟩
  refine T_pev rfl rfl rfl rfl ?_
  refine T_pev rfl rfl rfl rfl ?_
  refine T_pev rfl rfl rfl rfl ?_
  refine T_pev rfl rfl rfl rfl ?_
  refine T_pev rfl rfl rfl rfl ?_
  refine T_nil ?_
  refine W_seq ?_
  refine W_seq ?_
  refine W_region ?_
  refine T_pev rfl rfl rfl rfl ?_
  refine T_pev rfl rfl rfl rfl ?_
  refine T_pev rfl rfl rfl rfl ?_
  refine T_part (t := 17) rfl (List.cons_ne_nil _ _) (fun h11' => ?_) (fun h11' => ?_)
  · have h11 := of_decide_eq_true h11'
    refine T_no rfl rfl rfl rfl rfl rfl ?_
    refine T_no rfl rfl rfl rfl rfl rfl ?_
    refine T_no rfl rfl rfl rfl rfl rfl ?_
    refine T_no rfl rfl rfl rfl rfl rfl ?_
    refine T_pev rfl rfl rfl rfl ?_
    refine T_nil ?_
    refine W_cond_true rfl ?_
    refine W_seq ?_
    refine W_region ?_
    refine T_pev rfl rfl rfl rfl ?_
    refine T_pev rfl rfl rfl rfl ?_
    refine T_pev rfl rfl rfl rfl ?_
    refine T_bool 25 true rfl (decide_eq_true (by first | rfl | omega)) ?_
    refine T_yes rfl rfl rfl ?_ rfl
    refine T_pev rfl rfl rfl rfl ?_
    refine T_yes rfl rfl rfl ?_ rfl
    refine T_pev rfl rfl rfl rfl ?_
    refine T_yes rfl rfl rfl ?_ rfl
    refine T_pev rfl rfl rfl rfl ?_
    refine T_pev rfl rfl rfl rfl ?_
    refine T_pev rfl rfl rfl rfl ?_
    refine T_bool 30 true rfl (decide_eq_true (by first | rfl | omega)) ?_
    refine T_yes rfl rfl rfl ?_ rfl
    refine T_callS rfl rfl g_aumbry_aumbrylaw07_wakes rfl rfl rfl rfl ((wakes_ok S10.le hT).mono ?_)
    rintro e w13 ⟨rfl, hB12⟩
    have S14 := S10.call hB12
    refine ⟨_, rfl, trivial, ?_⟩
    refine T_pev rfl rfl rfl rfl ?_
    refine T_pev rfl rfl rfl rfl ?_
    refine T_nil ?_
    refine W_ret ?_
    refine ⟨_, ⟨_, _, rfl, rfl, rfl⟩, ?_⟩
    exact ⟨rfl, S14.below⟩
  have h11 := of_decide_eq_false h11'
  refine T_yes rfl rfl rfl ?_ rfl
  refine T_pev rfl rfl rfl rfl ?_
  refine T_yes rfl rfl rfl ?_ rfl
  refine T_pev rfl rfl rfl rfl ?_
  refine T_yes rfl rfl rfl ?_ rfl
  refine T_pev rfl rfl rfl rfl ?_
  refine T_yes rfl rfl rfl ?_ rfl
  refine T_pev rfl rfl rfl rfl ?_
  refine T_pev rfl rfl rfl rfl ?_
  refine T_nil ?_
  refine W_bool 22 true rfl (decide_eq_true (by omega)) ?_
  refine W_cond_true rfl ?_
  refine W_seq ?_
  refine W_region ?_
  refine T_pev rfl rfl rfl rfl ?_
  refine T_pev rfl rfl rfl rfl ?_
  refine T_pev rfl rfl rfl rfl ?_
  refine T_bool 25 true rfl (decide_eq_true (by first | rfl | omega)) ?_
  refine T_yes rfl rfl rfl ?_ rfl
  refine T_pev rfl rfl rfl rfl ?_
  refine T_yes rfl rfl rfl ?_ rfl
  refine T_pev rfl rfl rfl rfl ?_
  refine T_yes rfl rfl rfl ?_ rfl
  refine T_pev rfl rfl rfl rfl ?_
  refine T_pev rfl rfl rfl rfl ?_
  refine T_pev rfl rfl rfl rfl ?_
  refine T_bool 30 true rfl (decide_eq_true (by first | rfl | omega)) ?_
  refine T_yes rfl rfl rfl ?_ rfl
  refine T_callS rfl rfl g_aumbry_aumbrylaw07_wakes rfl rfl rfl rfl ((wakes_ok S10.le hT).mono ?_)
  rintro e w16 ⟨rfl, hB15⟩
  have S17 := S10.call hB15
  refine ⟨_, rfl, trivial, ?_⟩
  refine T_pev rfl rfl rfl rfl ?_
  refine T_pev rfl rfl rfl rfl ?_
  refine T_nil ?_
  refine W_ret ?_
  refine ⟨_, ⟨_, _, rfl, rfl, rfl⟩, ?_⟩
  exact ⟨rfl, S17.below⟩


theorem treeProofsYes {H : Hp} {w : World} (hH : H.le (hw w)) (hT : Tabs H) {h : List (List UInt8)} {aa0 : Option Addr} {nn0 cc0 : Nat} (hx : RdH H (.slice aa0 nn0 cc0) 32 h) (i : Int) (hi : 0 ≤ i ∧ i < (h.take 20).length) :
    Calls Tryd.prog 5 #[.slice aa0 nn0 cc0, .int .i64 i] w fun e w' => e = .returned (.bool true) ∧ Below w.heap.size w w' := by
  obtain rfl : nn0 = h.length := hx.len
  have hxcap : h.length ≤ cc0 := hx.2.capOf
  have hh20 : (h.take 20).length ≤ 20 := by rw [List.length_take]; omega
  have hbl := Go.Au.beside_len (Go.Au.rowP (h.take 20)) i.toNat (Go.Au.lg (h.take 20).length)
  have hlg := Go.Au.lg_le (n := (h.take 20).length) (m := 10) (by omega)
  refine enter2 _ Tryd.func5 rfl Tryd.ntmps5 Tryd.results5 rfl ?_
  have S0 := St.start w hH
  refine W_seq ?_
  refine W_region ?_
  refine T_pev rfl rfl rfl rfl ?_
  refine T_nil ?_
  refine W_seq ?_
  refine W_region ?_
  refine T_pev rfl rfl rfl rfl ?_
  refine T_callS rfl rfl g_aumbry_aumbrykeep_Cut_aumbry_api_Hash rfl rfl rfl rfl ((cutH_ok S0.le hx 20).mono ?_)
  rintro e w6 ⟨a1, c2, hc3, rfl, hr4, hB5⟩
  have S7 := S0.call hB5
  refine ⟨_, rfl, trivial, ?_⟩
  refine T_pev rfl rfl rfl rfl ?_
  refine T_nil ?_
  refine W_seq ?_
  refine W_region ?_
  refine T_pev rfl rfl rfl rfl ?_
  refine T_pev rfl rfl rfl rfl ?_
  refine T_callS rfl rfl g_aumbry_tree_Proof rfl rfl rfl rfl ((proof_ok S7.le hT i hr4 (by omega) (by omega)).mono ?_)
  rintro e w13 ⟨a8, c9, hc10, rfl, ho11, hB12⟩
  have S14 := S7.own hB12 ho11
  refine ⟨_, rfl, trivial, ?_⟩
  refine T_pev rfl rfl rfl rfl ?_
  refine T_pev rfl rfl rfl rfl ?_
  refine T_pev rfl rfl rfl rfl ?_
  refine T_pev rfl rfl rfl rfl ?_
  refine T_pev rfl rfl rfl rfl ?_
  refine T_nil ?_
  refine W_seq ?_
  refine W_seq ?_
  refine W_region ?_
  refine T_pev rfl rfl rfl rfl ?_
  refine T_pev rfl rfl rfl rfl ?_
  refine T_pev rfl rfl rfl rfl ?_
  refine T_bool 17 false rfl (decide_eq_false (by omega)) ?_
  refine T_yes rfl rfl rfl ?_ rfl
  refine T_pev rfl rfl rfl rfl ?_
  refine T_yes rfl rfl rfl ?_ rfl
  refine T_pev rfl rfl rfl rfl ?_
  refine T_yes rfl rfl rfl ?_ rfl
  refine T_pev rfl rfl rfl rfl ?_
  refine T_yes rfl rfl rfl ?_ rfl
  refine T_pev rfl rfl rfl rfl ?_
  refine T_pev rfl rfl rfl rfl ?_
  refine T_nil ?_
  refine W_bool 22 false rfl (decide_eq_false (by omega)) ?_
  refine W_cond_false rfl ?_
  refine W_skip ?_
  refine W_seq ?_
  refine W_region ?_
  refine T_pev rfl rfl rfl rfl ?_
  refine T_pev rfl rfl rfl rfl ?_
  refine T_pev rfl rfl rfl rfl ?_
  refine T_bool 35 true rfl (decide_eq_true (by first | rfl | omega)) ?_
  refine T_yes rfl rfl rfl ?_ rfl
  refine T_pev rfl rfl rfl rfl ?_
  refine T_yes rfl rfl rfl ?_ rfl
  refine T_pev rfl rfl rfl rfl ?_
  refine T_yes rfl rfl rfl ?_ rfl
  refine T_pev rfl rfl rfl rfl ?_
  refine T_yes rfl rfl rfl ?_ rfl
  refine T_callS rfl rfl g_aumbry_aumbryref07_Proof rfl rfl rfl rfl ((proofR_ok S14.le i hr4 (by omega) (by omega)).mono ?_)
  rintro e w20 ⟨a15, c16, hc17, rfl, ho18, hB19⟩
  have S21 := S14.own hB19 ho18
  refine ⟨_, rfl, trivial, ?_⟩
  refine T_yes rfl rfl rfl ?_ rfl
  obtain ⟨G23, hl24, S22, r25⟩ := S21.stillRow 1 rfl
  have r26 := RdH.mk (Go.Au.beside_all hr4.1 (by omega) (Nat.le_refl _)) (by decide) r25
  obtain ⟨G28, hl29, S27, r30⟩ := S22.stillRow 0 rfl
  have r31 := RdH.mk (Go.Au.beside_all hr4.1 (by omega) (Nat.le_refl _)) (by decide) r30
  refine T_callS rfl rfl g_aumbry_aumbrykeep_Same_aumbry_api_Hash rfl rfl rfl rfl ((sameH_ok S27.le (r26.mono hl29) r31 (by first | omega | (simp; done) | (simp only [List.length_take, List.length_drop]; omega))).mono ?_)
  rintro e w33 ⟨rfl, hB32⟩
  have S34 := S27.call hB32
  refine ⟨_, rfl, trivial, ?_⟩
  refine T_pev rfl rfl rfl rfl ?_
  refine T_pev rfl rfl rfl rfl ?_
  refine T_bool 42 true rfl (decide_eq_true (by first | rfl | omega)) ?_
  refine T_yes rfl rfl rfl ?_ rfl
  refine T_callS rfl rfl g_aumbry_aumbrylaw07_wakes rfl rfl rfl rfl ((wakes_ok S34.le (hT.mono (hl24.trans hl29))).mono ?_)
  rintro e w36 ⟨rfl, hB35⟩
  have S37 := S34.call hB35
  refine ⟨_, rfl, trivial, ?_⟩
  refine T_pev rfl rfl rfl rfl ?_
  refine T_pev rfl rfl rfl rfl ?_
  refine T_nil ?_
  refine W_ret ?_
  refine ⟨_, ⟨_, _, rfl, rfl, rfl⟩, ?_⟩
  exact ⟨rfl, S37.below⟩


theorem treeProofs_ok {H : Hp} {w : World} (hH : H.le (hw w)) (hT : Tabs H) {h : List (List UInt8)} {aa0 : Option Addr} {nn0 cc0 : Nat} (hx : RdH H (.slice aa0 nn0 cc0) 32 h) (i : Int) :
    Calls Tryd.prog 5 #[.slice aa0 nn0 cc0, .int .i64 i] w fun e w' => e = .returned (.bool true) ∧ Below w.heap.size w w' := by
  by_cases hi : 0 ≤ i ∧ i < (h.take 20).length
  · exact treeProofsYes hH hT hx i hi
  · exact treeProofsNo hH hT hx i hi
end Go.Proofs.YtadiakpbodlecaaDoor
