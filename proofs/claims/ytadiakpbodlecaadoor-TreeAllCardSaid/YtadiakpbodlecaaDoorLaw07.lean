/- The statements of chapter 7, walked. -/
import Derived.Test.YtadiakpbodlecaaDoorTreeB
set_option linter.unusedVariables false
set_option linter.unusedSimpArgs false
set_option maxRecDepth 8192
namespace Go.Proofs.YtadiakpbodlecaaDoor
open Go Go.F Go.RowKit

theorem leafA_ne : ¬ Go.Au.leafH [97] = List.replicate 32 0 := fun e => by
  have h : (Go.Au.leafH [97]).take 4 = (List.replicate 32 0).take 4 := by rw [e]
  have h1 : decide ((Go.Au.leafH [97]).take 4 = (List.replicate 32 (0 : UInt8)).take 4) = false := by kernel_rfl
  exact absurd h (of_decide_eq_false h1)
theorem root_one (x : List UInt8) : Go.Au.root [x] = x := rfl
theorem wakes_ok {H : Hp} {w : World} (hH : H.le (hw w)) (hT : Tabs H) :
    Calls Tryd.prog 22 #[] w fun e w' => e = .returned (.bool true) ∧ Below w.heap.size w w' := by
  refine enter0 _ Tryd.func22 rfl Tryd.ntmps22 Tryd.results22 ?_
  have S0 := St.start w hH
  refine W_seq ?_
  refine W_region ?_
  refine T_pev rfl rfl rfl rfl ?_
  refine T_nil ?_
  refine W_seq ?_
  refine W_region ?_
  refine T_litS ([(97 : UInt8)].map bV) rfl rfl rfl rfl rfl rfl rfl rfl rfl rfl rfl rfl rfl (by simp [Value.cells]; rfl) rfl fun a1 w2 hB3 ho4 => ?_
  have S5 := S0.own hB3 ho4
  refine ⟨trivial, ?_⟩
  refine T_mark 0 S5 (fun _ _ => trivial) rfl rfl rfl rfl rfl rfl rfl rfl rfl rfl (by omega) fun w6 S7 => ?_
  obtain ⟨G9, hl10, S8, r11⟩ := S7.stillRow 0 rfl
  refine T_callS rfl rfl g_aumbry_tree_Leaf rfl rfl rfl rfl ((leaf_ok S8.le (hT.mono hl10) r11 (by decide)).mono ?_)
  rintro e w13 ⟨rfl, hB12⟩
  have S14 := S8.call hB12
  refine ⟨_, rfl, trivial, ?_⟩
  refine T_allocS S14 (fun _ _ => trivial) rfl rfl rfl rfl rfl rfl rfl fun b15 w16 S17 => ?_
  refine T_storeFS 0 S17 (fun _ _ => trivial) rfl rfl rfl rfl rfl rfl rfl rfl rfl (hVs (Go.Au.leafH_len _)) (hVs (Go.Au.leafH_len _)) (one_hA _) fun w18 S19 => ?_
  refine T_nil ?_
  refine W_seq ?_
  obtain ⟨G21, hl22, S20, r23⟩ := S19.stillBlk 0 rfl
  refine W_plan (planF Tryd.prog G21 [12]) rfl (by kernel_rfl) S20.le ?_
  have S24 := S20.drew
  refine T_loadGA _ S24 (still_cells r23) rfl rfl rfl rfl rfl rfl rfl rfl (hVs (Go.Au.leafH_len _)) ?_
  refine T_buildA (cells := (hV (List.replicate 32 0)).cells) rfl rfl rfl rfl rfl rfl rfl rfl rfl rfl ?_
  refine T_neB (xs := Go.Au.leafH ([(97 : UInt8)])) (ys := (List.replicate 32 0)) rfl rfl rfl rfl rfl rfl rfl rfl rfl rfl rfl (Go.Au.leafH_len _) List.length_replicate ?_
  refine T_pev rfl rfl rfl rfl ?_
  refine T_bool 8 true rfl (ndec_t leafA_ne) ?_
  refine T_yes rfl rfl rfl ?_ rfl
  refine T_loadGA _ S24 (still_cells r23) rfl rfl rfl rfl rfl rfl rfl rfl (hVs (Go.Au.leafH_len _)) ?_
  refine T_yes rfl rfl rfl ?_ rfl
  refine T_litS (hcells [Go.Au.leafH ([(97 : UInt8)])]) rfl rfl rfl rfl rfl rfl rfl rfl rfl rfl rfl rfl rfl (one_h (Go.Au.leafH_len _)) (by simp [hcells, hV, Value.cells]) fun a25 w26 hB27 ho28 => ?_
  have S29 := S24.own hB27 ho28
  refine ⟨(((Hp.le.refl _)).trans S29.le), ?_⟩
  refine T_yes rfl rfl rfl ?_ rfl
  obtain ⟨G31, hl32, S30, r33⟩ := S29.stillRow 0 rfl
  have r34 := RdH.mk (all_h1 (Go.Au.leafH_len _)) (by decide) r33
  refine T_callS rfl rfl g_aumbry_tree_Root rfl rfl rfl rfl ((root_ok S30.le (hT.mono (hl10.trans (hl22.trans hl32))) r34 (by decide)).mono ?_)
  rintro e w36 ⟨rfl, hB35⟩
  have S37 := S30.call hB35
  refine ⟨_, rfl, ((hl32).trans S37.le), ?_⟩
  refine T_yes rfl rfl rfl ?_ rfl
  refine T_loadGAP _ (fun _ h => h) (still_cells r23) rfl rfl rfl rfl rfl rfl rfl rfl (hVs (Go.Au.leafH_len _)) ?_
  refine T_yes rfl rfl rfl ?_ rfl
  refine T_eqB (xs := Go.Au.root ([Go.Au.leafH ([(97 : UInt8)])])) (ys := Go.Au.leafH ([(97 : UInt8)])) rfl rfl rfl rfl rfl rfl rfl rfl rfl rfl rfl (Go.Au.root_len r34.1) (Go.Au.leafH_len _) ?_
  refine T_re (v' := .bool true) (congrArg Value.bool (decide_eq_true (root_one _))) ?_
  refine T_pev rfl rfl rfl rfl ?_
  refine T_pev rfl rfl rfl rfl ?_
  refine T_nil ?_
  refine W_ret ?_
  refine ⟨_, ⟨_, _, rfl, rfl, rfl⟩, ?_⟩
  exact ⟨rfl, S37.below⟩


theorem treeRoots_ok {H : Hp} {w : World} (hH : H.le (hw w)) (hT : Tabs H) {m : List UInt8} {aa0 : Option Addr} {nn0 cc0 : Nat} (hv : Rd H (.slice aa0 nn0 cc0) nn0 1 (m.map bV)) {h : List (List UInt8)} {aa1 : Option Addr} {nn1 cc1 : Nat} (hx : RdH H (.slice aa1 nn1 cc1) 32 h) (n : Int) :
    Calls Tryd.prog 3 #[.slice aa0 nn0 cc0, .slice aa1 nn1 cc1, .int .i64 n] w fun e w' => e = .returned (.bool true) ∧ Below w.heap.size w w' := by
  obtain rfl : nn0 = m.length := hv.lenB
  have hvcap : m.length ≤ cc0 := hv.capOf
  obtain rfl : nn1 = h.length := hx.len
  have hxcap : h.length ≤ cc1 := hx.2.capOf
  have hm80 : (m.take 80).length ≤ 80 := by rw [List.length_take]; omega
  have hh20 : (h.take 20).length ≤ 20 := by rw [List.length_take]; omega
  refine enter3 _ Tryd.func3 rfl Tryd.ntmps3 Tryd.results3 rfl ?_
  have S0 := St.start w hH
  refine W_seq ?_
  refine W_region ?_
  refine T_pev rfl rfl rfl rfl ?_
  refine T_nil ?_
  refine W_seq ?_
  refine W_region ?_
  refine T_pev rfl rfl rfl rfl ?_
  refine T_callS rfl rfl g_aumbry_aumbrykeep_Cut_byte rfl rfl rfl rfl ((cutB_ok S0.le hv 80).mono ?_)
  rintro e w6 ⟨a1, c2, hc3, rfl, hr4, hB5⟩
  have S7 := S0.call hB5
  refine ⟨_, rfl, trivial, ?_⟩
  refine T_pev rfl rfl rfl rfl ?_
  refine T_callS rfl rfl g_aumbry_aumbrykeep_Cut_aumbry_api_Hash rfl rfl rfl rfl ((cutH_ok S7.le hx 20).mono ?_)
  rintro e w13 ⟨a8, c9, hc10, rfl, hr11, hB12⟩
  have S14 := S7.call hB12
  refine ⟨_, rfl, trivial, ?_⟩
  refine T_pev rfl rfl rfl rfl ?_
  refine T_pev rfl rfl rfl rfl ?_
  refine T_nil ?_
  refine W_seq ?_
  refine W_seq ?_
  refine W_region ?_
  refine T_pev rfl rfl rfl rfl ?_
  refine T_callS rfl rfl g_aumbry_tree_Leaf rfl rfl rfl rfl ((leaf_ok S14.le hT hr4 (by omega)).mono ?_)
  rintro e w16 ⟨rfl, hB15⟩
  have S17 := S14.call hB15
  refine ⟨_, rfl, trivial, ?_⟩
  refine T_pev rfl rfl rfl rfl ?_
  refine T_callS rfl rfl g_aumbry_aumbryref07_Leaf rfl rfl rfl rfl ((leafR_ok S17.le hr4 (by omega)).mono ?_)
  rintro e w19 ⟨rfl, hB18⟩
  have S20 := S17.call hB18
  refine ⟨_, rfl, trivial, ?_⟩
  refine T_neB (xs := Go.Au.leafH (m.take 80)) (ys := Go.Au.leafH (m.take 80)) rfl rfl rfl rfl rfl rfl rfl rfl rfl rfl rfl (Go.Au.leafH_len _) (Go.Au.leafH_len _) ?_
  refine T_pev rfl rfl rfl rfl ?_
  refine T_bool 16 false rfl (ndec_f rfl) ?_
  refine T_yes rfl rfl rfl ?_ rfl
  refine T_pev rfl rfl rfl rfl ?_
  refine T_yes rfl rfl rfl ?_ rfl
  refine T_callS rfl rfl g_aumbry_tree_Root rfl rfl rfl rfl ((root_ok S20.le hT hr11 (by omega)).mono ?_)
  rintro e w22 ⟨rfl, hB21⟩
  have S23 := S20.call hB21
  refine ⟨_, rfl, trivial, ?_⟩
  refine T_yes rfl rfl rfl ?_ rfl
  refine T_pev rfl rfl rfl rfl ?_
  refine T_yes rfl rfl rfl ?_ rfl
  refine T_callS rfl rfl g_aumbry_aumbryref07_Root rfl rfl rfl rfl ((rootR_ok S23.le hr11 (by omega)).mono ?_)
  rintro e w25 ⟨rfl, hB24⟩
  have S26 := S23.call hB24
  refine ⟨_, rfl, trivial, ?_⟩
  refine T_yes rfl rfl rfl ?_ rfl
  refine T_neB (xs := Go.Au.root (h.take 20)) (ys := Go.Au.root (h.take 20)) rfl rfl rfl rfl rfl rfl rfl rfl rfl rfl rfl (Go.Au.root_len hr11.1) (Go.Au.root_len hr11.1) ?_
  refine T_pev rfl rfl rfl rfl ?_
  refine T_nil ?_
  refine W_bool 22 false rfl (ndec_f rfl) ?_
  refine W_cond_false rfl ?_
  refine W_skip ?_
  refine W_seq ?_
  refine W_seq ?_
  refine W_plan (planF Tryd.prog H [36, 39]) rfl (by kernel_rfl) S26.le ?_
  have S27 := S26.drew
  refine T_pev rfl rfl rfl rfl ?_
  refine T_pev rfl rfl rfl rfl ?_
  refine T_pev rfl rfl rfl rfl ?_
  refine T_pev rfl rfl rfl rfl ?_
  refine T_part (t := 26) rfl (List.cons_ne_nil _ _) (fun h28' => ?_) (fun h28' => ?_)
  · have h28 := of_decide_eq_true h28'
    refine T_yes rfl rfl rfl ?_ rfl
    refine T_pev rfl rfl rfl rfl ?_
    refine T_yes rfl rfl rfl ?_ rfl
    refine T_idxR 0 hr11.2 rfl rfl rfl rfl rfl rfl rfl rfl rfl (by omega) (by omega) fun b29 o30 hc31 => ?_
    have hc32 := cells_h hr11.1 0 (by omega) hc31
    have hl33 := len_h hr11.1 0 (by omega)
    refine T_yes rfl rfl rfl ?_ rfl
    refine T_loadGA _ S27 hc32 rfl rfl rfl rfl rfl rfl rfl rfl (hVs hl33) ?_
    refine T_yes rfl rfl rfl ?_ rfl
    refine T_pev rfl rfl rfl rfl ?_
    refine T_yes rfl rfl rfl ?_ rfl
    refine T_idxR 1 hr11.2 rfl rfl rfl rfl rfl rfl rfl rfl rfl (by omega) (by omega) fun b34 o35 hc36 => ?_
    have hc37 := cells_h hr11.1 1 (by omega) hc36
    have hl38 := len_h hr11.1 1 (by omega)
    refine T_yes rfl rfl rfl ?_ rfl
    refine T_loadGA _ S27 hc37 rfl rfl rfl rfl rfl rfl rfl rfl (hVs hl38) ?_
    refine T_yes rfl rfl rfl ?_ rfl
    refine T_callS rfl rfl g_aumbry_tree_Node rfl rfl rfl rfl ((node_ok S27.le hT hl33 hl38).mono ?_)
    rintro e w40 ⟨rfl, hB39⟩
    have S41 := S27.call hB39
    refine ⟨_, rfl, (((Hp.le.refl _)).trans S41.le), ?_⟩
    refine T_yes rfl rfl rfl ?_ rfl
    refine T_pev rfl rfl rfl rfl ?_
    refine T_yes rfl rfl rfl ?_ rfl
    refine T_idxR 0 hr11.2 rfl rfl rfl rfl rfl rfl rfl rfl rfl (by omega) (by omega) fun b42 o43 hc44 => ?_
    have hc45 := cells_h hr11.1 0 (by omega) hc44
    have hl46 := len_h hr11.1 0 (by omega)
    refine T_yes rfl rfl rfl ?_ rfl
    refine T_loadGAP _ (fun _ h => h) hc45 rfl rfl rfl rfl rfl rfl rfl rfl (hVs hl46) ?_
    refine T_yes rfl rfl rfl ?_ rfl
    refine T_pev rfl rfl rfl rfl ?_
    refine T_yes rfl rfl rfl ?_ rfl
    refine T_idxR 1 hr11.2 rfl rfl rfl rfl rfl rfl rfl rfl rfl (by omega) (by omega) fun b47 o48 hc49 => ?_
    have hc50 := cells_h hr11.1 1 (by omega) hc49
    have hl51 := len_h hr11.1 1 (by omega)
    refine T_yes rfl rfl rfl ?_ rfl
    refine T_loadGAP _ (fun _ h => h) hc50 rfl rfl rfl rfl rfl rfl rfl rfl (hVs hl51) ?_
    refine T_yes rfl rfl rfl ?_ rfl
    refine T_callS rfl rfl g_aumbry_aumbryref07_Node rfl rfl rfl rfl ((nodeR_ok S41.le hl46 hl51).mono ?_)
    rintro e w53 ⟨rfl, hB52⟩
    have S54 := S41.call hB52
    refine ⟨_, rfl, (((Hp.le.refl _)).trans S54.le), ?_⟩
    refine T_yes rfl rfl rfl ?_ rfl
    refine T_neB (xs := Go.Au.node ((h.take 20).getD 0 []) ((h.take 20).getD 1 [])) (ys := Go.Au.node ((h.take 20).getD 0 []) ((h.take 20).getD 1 [])) rfl rfl rfl rfl rfl rfl rfl rfl rfl rfl rfl (Go.Au.node_len _ _) (Go.Au.node_len _ _) ?_
    refine T_pev rfl rfl rfl rfl ?_
    refine T_nil ?_
    refine W_bool 42 false rfl (ndec_f rfl) ?_
    refine W_cond_false rfl ?_
    refine W_skip ?_
    refine W_seq ?_
    refine W_seq ?_
    refine W_region ?_
    refine T_pev rfl rfl rfl rfl ?_
    refine T_pev rfl rfl rfl rfl ?_
    refine T_pev rfl rfl rfl rfl ?_
    refine T_part (t := 45) rfl (List.cons_ne_nil _ _) (fun h55' => ?_) (fun h55' => ?_)
    · have h55 := of_decide_eq_true h55'
      refine T_yes rfl rfl rfl ?_ rfl
      refine T_pev rfl rfl rfl rfl ?_
      refine T_yes rfl rfl rfl ?_ rfl
      refine T_callS rfl rfl g_aumbry_tree_Pad rfl rfl rfl rfl ((pad_ok S54.le n (by omega)).mono ?_)
      rintro e w57 ⟨rfl, hB56⟩
      have S58 := S54.call hB56
      refine ⟨_, rfl, trivial, ?_⟩
      refine T_yes rfl rfl rfl ?_ rfl
      refine T_pev rfl rfl rfl rfl ?_
      refine T_yes rfl rfl rfl ?_ rfl
      refine T_callS rfl rfl g_aumbry_aumbryref07_Pad rfl rfl rfl rfl ((padR_ok S58.le n (by omega)).mono ?_)
      rintro e w60 ⟨rfl, hB59⟩
      have S61 := S58.call hB59
      refine ⟨_, rfl, trivial, ?_⟩
      refine T_yes rfl rfl rfl ?_ rfl
      refine T_pev rfl rfl rfl rfl ?_
      refine T_pev rfl rfl rfl rfl ?_
      refine T_nil ?_
      refine W_bool 51 false rfl (ndec_f rfl) ?_
      refine W_cond_false rfl ?_
      refine W_skip ?_
      refine W_seq ?_
      refine W_region ?_
      refine T_callS rfl rfl g_aumbry_aumbrylaw07_wakes rfl rfl rfl rfl ((wakes_ok S61.le hT).mono ?_)
      rintro e w63 ⟨rfl, hB62⟩
      have S64 := S61.call hB62
      refine ⟨_, rfl, trivial, ?_⟩
      refine T_pev rfl rfl rfl rfl ?_
      refine T_nil ?_
      refine W_ret ?_
      refine ⟨_, ⟨_, _, rfl, rfl, rfl⟩, ?_⟩
      exact ⟨rfl, S64.below⟩
    have h55 := of_decide_eq_false h55'
    refine T_no rfl rfl rfl rfl rfl rfl ?_
    refine T_no rfl rfl rfl rfl rfl rfl ?_
    refine T_no rfl rfl rfl rfl rfl rfl ?_
    refine T_no rfl rfl rfl rfl rfl rfl ?_
    refine T_no rfl rfl rfl rfl rfl rfl ?_
    refine T_pev rfl rfl rfl rfl ?_
    refine T_nil ?_
    refine W_cond_false rfl ?_
    refine W_skip ?_
    refine W_seq ?_
    refine W_region ?_
    refine T_callS rfl rfl g_aumbry_aumbrylaw07_wakes rfl rfl rfl rfl ((wakes_ok S54.le hT).mono ?_)
    rintro e w66 ⟨rfl, hB65⟩
    have S67 := S54.call hB65
    refine ⟨_, rfl, trivial, ?_⟩
    refine T_pev rfl rfl rfl rfl ?_
    refine T_nil ?_
    refine W_ret ?_
    refine ⟨_, ⟨_, _, rfl, rfl, rfl⟩, ?_⟩
    exact ⟨rfl, S67.below⟩
  have h28 := of_decide_eq_false h28'
  refine T_no rfl rfl rfl rfl rfl rfl ?_
  refine T_no rfl rfl rfl rfl rfl rfl ?_
  refine T_no rfl rfl rfl rfl rfl rfl ?_
  refine T_no rfl rfl rfl rfl rfl rfl ?_
  refine T_no rfl rfl rfl rfl rfl rfl ?_
  refine T_no rfl rfl rfl rfl rfl rfl ?_
  refine T_no rfl rfl rfl rfl rfl rfl ?_
  refine T_no rfl rfl rfl rfl rfl rfl ?_
  refine T_no rfl rfl rfl rfl rfl rfl ?_
  refine T_no rfl rfl rfl rfl rfl rfl ?_
  refine T_no rfl rfl rfl rfl rfl rfl ?_
  refine T_no rfl rfl rfl rfl rfl rfl ?_
  refine T_no rfl rfl rfl rfl rfl rfl ?_
  refine T_no rfl rfl rfl rfl rfl rfl ?_
  refine T_no rfl rfl rfl rfl rfl rfl ?_
  refine T_pev rfl rfl rfl rfl ?_
  refine T_nil ?_
  refine W_cond_false rfl ?_
  refine W_skip ?_
  refine W_seq ?_
  refine W_seq ?_
  refine W_region ?_
  refine T_pev rfl rfl rfl rfl ?_
  refine T_pev rfl rfl rfl rfl ?_
  refine T_pev rfl rfl rfl rfl ?_
  refine T_part (t := 45) rfl (List.cons_ne_nil _ _) (fun h68' => ?_) (fun h68' => ?_)
  · have h68 := of_decide_eq_true h68'
    refine T_yes rfl rfl rfl ?_ rfl
    refine T_pev rfl rfl rfl rfl ?_
    refine T_yes rfl rfl rfl ?_ rfl
    refine T_callS rfl rfl g_aumbry_tree_Pad rfl rfl rfl rfl ((pad_ok S27.le n (by omega)).mono ?_)
    rintro e w70 ⟨rfl, hB69⟩
    have S71 := S27.call hB69
    refine ⟨_, rfl, trivial, ?_⟩
    refine T_yes rfl rfl rfl ?_ rfl
    refine T_pev rfl rfl rfl rfl ?_
    refine T_yes rfl rfl rfl ?_ rfl
    refine T_callS rfl rfl g_aumbry_aumbryref07_Pad rfl rfl rfl rfl ((padR_ok S71.le n (by omega)).mono ?_)
    rintro e w73 ⟨rfl, hB72⟩
    have S74 := S71.call hB72
    refine ⟨_, rfl, trivial, ?_⟩
    refine T_yes rfl rfl rfl ?_ rfl
    refine T_pev rfl rfl rfl rfl ?_
    refine T_pev rfl rfl rfl rfl ?_
    refine T_nil ?_
    refine W_bool 51 false rfl (ndec_f rfl) ?_
    refine W_cond_false rfl ?_
    refine W_skip ?_
    refine W_seq ?_
    refine W_region ?_
    refine T_callS rfl rfl g_aumbry_aumbrylaw07_wakes rfl rfl rfl rfl ((wakes_ok S74.le hT).mono ?_)
    rintro e w76 ⟨rfl, hB75⟩
    have S77 := S74.call hB75
    refine ⟨_, rfl, trivial, ?_⟩
    refine T_pev rfl rfl rfl rfl ?_
    refine T_nil ?_
    refine W_ret ?_
    refine ⟨_, ⟨_, _, rfl, rfl, rfl⟩, ?_⟩
    exact ⟨rfl, S77.below⟩
  have h68 := of_decide_eq_false h68'
  refine T_no rfl rfl rfl rfl rfl rfl ?_
  refine T_no rfl rfl rfl rfl rfl rfl ?_
  refine T_no rfl rfl rfl rfl rfl rfl ?_
  refine T_no rfl rfl rfl rfl rfl rfl ?_
  refine T_no rfl rfl rfl rfl rfl rfl ?_
  refine T_pev rfl rfl rfl rfl ?_
  refine T_nil ?_
  refine W_cond_false rfl ?_
  refine W_skip ?_
  refine W_seq ?_
  refine W_region ?_
  refine T_callS rfl rfl g_aumbry_aumbrylaw07_wakes rfl rfl rfl rfl ((wakes_ok S27.le hT).mono ?_)
  rintro e w79 ⟨rfl, hB78⟩
  have S80 := S27.call hB78
  refine ⟨_, rfl, trivial, ?_⟩
  refine T_pev rfl rfl rfl rfl ?_
  refine T_nil ?_
  refine W_ret ?_
  refine ⟨_, ⟨_, _, rfl, rfl, rfl⟩, ?_⟩
  exact ⟨rfl, S80.below⟩

end Go.Proofs.YtadiakpbodlecaaDoor
