/- The statements of chapter 7, walked: unlike rows. -/
import Derived.Test.YtadiakpbodlecaaDoorLaw07d
import Derived.Test.YtadiakpbodlecaaDoorTreeG
set_option linter.unusedVariables false
set_option linter.unusedSimpArgs false
set_option maxRecDepth 8192
namespace Go.Proofs.YtadiakpbodlecaaDoor
open Go Go.F Go.RowKit

section
variable {l m : List (List UInt8)}
theorem prs_textbd {r : List (List UInt8)} (hr : ∀ b ∈ r, b.length = 32) (i : Nat) : (Go.Au.textP ((Go.Au.prs r).getD i [])).length ≤ 100000 := by
  rcases Nat.lt_or_ge i (r.length / 2) with h | h
  · exact Nat.le_trans (Nat.le_of_lt (textP_bd (Go.Au.prs_len hr h))) (by decide)
  · rw [List.getD_eq_getElem?_getD, List.getElem?_eq_none (by simp [Go.Au.prs]; omega)]
    exact of_decide_eq_true (by kernel_rfl)
theorem unl_textbd {r s : List (List UInt8)} (hr : ∀ b ∈ r, b.length = 32) (hs : ∀ b ∈ s, b.length = 32) : ∀ k, (Go.Au.brA (Go.Au.unl r s k)).length ≤ 100000 ∧ (Go.Au.brB (Go.Au.unl r s k)).length ≤ 100000
  | 0 => ⟨Nat.zero_le 100000, Nat.zero_le 100000⟩
  | k + 1 => by
    cases e : Go.Au.firstNe (Go.Au.prs (Go.Au.ups r k)) (Go.Au.prs (Go.Au.ups s k)) ((Go.Au.ups r k).length / 2) with
    | none => rw [Go.Au.unl_down e]; exact unl_textbd hr hs k
    | some j => rw [Go.Au.unl_hit e]; exact ⟨prs_textbd (Go.Au.ups_all hr k) j, prs_textbd (Go.Au.ups_all hs k) j⟩
theorem unl_bd (h1 : ∀ b ∈ l, b.length = 32) (h2 : ∀ b ∈ m, b.length = 32) : (Go.Au.brA (Go.Au.unlike l m)).length ≤ 100000 ∧ (Go.Au.brB (Go.Au.unlike l m)).length ≤ 100000 := by
  unfold Go.Au.unlike
  split
  · exact unl_textbd (Go.Au.rowP_all h1) (Go.Au.rowP_all h2) _
  · exact ⟨Nat.zero_le 100000, Nat.zero_le 100000⟩
theorem unl_isbr (h1 : ∀ b ∈ l, b.length = 32) (h2 : ∀ b ∈ m, b.length = 32) (h : (Go.Au.unlike l m).isSome = true) :
    (!(!decide (Go.Au.brA (Go.Au.unlike l m) = Go.Au.brB (Go.Au.unlike l m)) && decide (Go.Sha.sha (Go.Au.brA (Go.Au.unlike l m)) = Go.Sha.sha (Go.Au.brB (Go.Au.unlike l m))))) = false := by
  cases e : Go.Au.unlike l m with
  | none => rw [e] at h; cases h
  | some v =>
    obtain ⟨A, B⟩ := v
    obtain ⟨h3, h4⟩ := Go.Au.unlike_some h1 h2 e
    show (!(!decide (A = B) && decide (Go.Sha.sha A = Go.Sha.sha B))) = false
    rw [decide_eq_false h3, decide_eq_true h4]; rfl
theorem unl_m1 (h : ¬ l.length = m.length) : (Go.Au.unlike l m).isSome = false := by rw [Go.Au.unlike_no1 h]; rfl
theorem unl_m2 (h : l = m) : (Go.Au.unlike l m).isSome = false := by rw [h, Go.Au.unlike_self]; rfl
theorem unl_m3 (h1 : ∀ b ∈ l, b.length = 32) (h2 : ∀ b ∈ m, b.length = 32) (h3 : l.length = m.length) (h4 : ¬ l = m) : (Go.Au.unlike l m).isSome = decide (Go.Au.root l = Go.Au.root m) := by
  rw [Go.Au.unlike_isSome h1 h2]
  by_cases e : Go.Au.root l = Go.Au.root m
  · rw [decide_eq_true e]; exact decide_eq_true ⟨h3, h4, e⟩
  · rw [decide_eq_false e]; exact decide_eq_false (fun h => e h.2.2)
end
theorem treeUnlike_f {H : Hp} {w : World} (hH : H.le (hw w)) (hT : Tabs H) {l : List (List UInt8)} {aa0 : Option Addr} {nn0 cc0 : Nat} (hv : RdH H (.slice aa0 nn0 cc0) 32 l) {m : List (List UInt8)} {aa1 : Option Addr} {nn1 cc1 : Nat} (hu : RdH H (.slice aa1 nn1 cc1) 32 m) :
    Calls Tryd.prog 6 #[.slice aa0 nn0 cc0, .slice aa1 nn1 cc1, .bool false] w fun e w' => e = .returned (.bool true) ∧ Below w.heap.size w w' := by
  obtain rfl : nn0 = l.length := hv.len
  have hvcap : l.length ≤ cc0 := hv.2.capOf
  obtain rfl : nn1 = m.length := hu.len
  have hucap : m.length ≤ cc1 := hu.2.capOf
  have hl17 : (l.take 17).length ≤ 17 := by rw [List.length_take]; omega
  have hm17 : (m.take 17).length ≤ 17 := by rw [List.length_take]; omega
  refine enter3 _ Tryd.func6 rfl Tryd.ntmps6 Tryd.results6 rfl ?_
  have S0 := St.start w hH
  refine W_seq ?_
  refine W_region ?_
  refine T_pev rfl rfl rfl rfl ?_
  refine T_nil ?_
  refine W_seq ?_
  refine W_region ?_
  refine T_pev rfl rfl rfl rfl ?_
  refine T_callS rfl rfl g_aumbry_aumbrykeep_Cut_aumbry_api_Hash rfl rfl rfl rfl ((cutH_ok S0.le hv 17).mono ?_)
  rintro e w6 ⟨a1, c2, hc3, rfl, hr4, hB5⟩
  have S7 := S0.call hB5
  refine ⟨_, rfl, trivial, ?_⟩
  refine T_pev rfl rfl rfl rfl ?_
  refine T_callS rfl rfl g_aumbry_aumbrykeep_Cut_aumbry_api_Hash rfl rfl rfl rfl ((cutH_ok S7.le hu 17).mono ?_)
  rintro e w13 ⟨a8, c9, hc10, rfl, hr11, hB12⟩
  have S14 := S7.call hB12
  refine ⟨_, rfl, trivial, ?_⟩
  refine T_pev rfl rfl rfl rfl ?_
  refine T_pev rfl rfl rfl rfl ?_
  refine T_nil ?_
  refine W_seq ?_
  refine W_seq ?_
  refine W_region ?_
  refine T_pev rfl rfl rfl rfl ?_
  refine T_nil ?_
  refine W_cond_false rfl ?_
  refine W_skip ?_
  refine W_seq ?_
  refine W_region ?_
  refine T_pev rfl rfl rfl rfl ?_
  refine T_pev rfl rfl rfl rfl ?_
  refine T_callS rfl rfl g_aumbry_tree_Unlike rfl rfl rfl rfl ((unlikeT_ok S14.le hT hr4 hr11 (by omega) (by omega)).mono ?_)
  rintro e w22 ⟨a15, c16, a17, c18, rfl, r19, r20, hB21⟩
  obtain ⟨G24, eG26⟩ : ∃ G, G = F.ext H w13.heap.size w22 := ⟨_, rfl⟩
  obtain ⟨hl25, S23⟩ := S14.ext hB21
  rw [← eG26] at hl25 S23 r19 r20
  refine ⟨_, rfl, trivial, ?_⟩
  refine T_pev rfl rfl rfl rfl ?_
  refine T_pev rfl rfl rfl rfl ?_
  refine T_pev rfl rfl rfl rfl ?_
  refine T_allocS S23 (fun _ _ => trivial) rfl rfl rfl rfl rfl rfl rfl fun b27 w28 S29 => ?_
  refine T_storeFS 0 S29 (fun _ _ => trivial) rfl rfl rfl rfl rfl rfl rfl rfl rfl (by first | rfl | simp [hVs, *]) (by first | rfl | simp [hVs, *]) (one_all rfl) fun w30 S31 => ?_
  refine T_pev rfl rfl rfl rfl ?_
  refine T_nil ?_
  refine W_seq ?_
  refine W_region ?_
  refine T_pev rfl rfl rfl rfl ?_
  refine T_pev rfl rfl rfl rfl ?_
  refine T_callS rfl rfl g_aumbry_aumbryref07_Unlike rfl rfl rfl rfl ((unlikeR_ok S31.le (hr4.mono hl25) (hr11.mono hl25) (by omega) (by omega)).mono ?_)
  rintro e w39 ⟨a32, c33, a34, c35, rfl, r36, r37, hB38⟩
  obtain ⟨G41, eG43⟩ : ∃ G, G = F.ext G24 w30.heap.size w39 := ⟨_, rfl⟩
  obtain ⟨hl42, S40⟩ := S31.ext hB38
  rw [← eG43] at hl42 S40 r36 r37
  refine ⟨_, rfl, trivial, ?_⟩
  refine T_pev rfl rfl rfl rfl ?_
  refine T_pev rfl rfl rfl rfl ?_
  refine T_pev rfl rfl rfl rfl ?_
  refine T_allocS S40 (fun _ _ => trivial) rfl rfl rfl rfl rfl rfl rfl fun b44 w45 S46 => ?_
  refine T_storeFS 0 S46 (fun _ _ => trivial) rfl rfl rfl rfl rfl rfl rfl rfl rfl (by first | rfl | simp [hVs, *]) (by first | rfl | simp [hVs, *]) (one_all rfl) fun w47 S48 => ?_
  refine T_pev rfl rfl rfl rfl ?_
  refine T_nil ?_
  refine W_seq ?_
  refine W_seq ?_
  refine W_region ?_
  refine T_pev rfl rfl rfl rfl ?_
  refine T_pev rfl rfl rfl rfl ?_
  refine T_bne rfl rfl rfl rfl rfl rfl rfl ?_
  refine T_pev rfl rfl rfl rfl ?_
  refine T_bool 34 false rfl (ndec_f rfl) ?_
  refine T_yes rfl rfl rfl ?_ rfl
  refine T_fldm 0 rfl rfl rfl rfl rfl rfl (by decide) rfl rfl rfl ?_
  refine T_yes rfl rfl rfl ?_ rfl
  refine T_loadS 1 0 S48 rfl rfl rfl rfl rfl rfl rfl rfl rfl rfl ?_
  refine T_yes rfl rfl rfl ?_ rfl
  refine T_fldm 0 rfl rfl rfl rfl rfl rfl (by decide) rfl rfl rfl ?_
  refine T_yes rfl rfl rfl ?_ rfl
  refine T_loadS 0 0 S48 rfl rfl rfl rfl rfl rfl rfl rfl rfl rfl ?_
  refine T_yes rfl rfl rfl ?_ rfl
  have hbd := unl_bd ((hr4.mono (hl25.trans hl42))).1 ((hr11.mono (hl25.trans hl42))).1
  refine T_callS rfl rfl g_aumbry_aumbrykeep_Same_byte rfl rfl rfl rfl ((sameB_ok S48.le (r19.mono hl42) r36 (by first | omega | (simp; done) | (simp only [List.length_take, List.length_drop]; omega))).mono ?_)
  rintro e w50 ⟨rfl, hB49⟩
  have S51 := S48.call hB49
  refine ⟨_, rfl, trivial, ?_⟩
  refine T_yes rfl rfl rfl ?_ rfl
  refine T_pev rfl rfl rfl rfl ?_
  refine T_pev rfl rfl rfl rfl ?_
  refine T_pev rfl rfl rfl rfl ?_
  refine T_bool 42 false rfl (ndec_f rfl) ?_
  refine T_yes rfl rfl rfl ?_ rfl
  refine T_fldm 1 rfl rfl rfl rfl rfl rfl (by decide) rfl rfl rfl ?_
  refine T_yes rfl rfl rfl ?_ rfl
  refine T_loadS 1 1 S51 rfl rfl rfl rfl rfl rfl rfl rfl rfl rfl ?_
  refine T_yes rfl rfl rfl ?_ rfl
  refine T_fldm 1 rfl rfl rfl rfl rfl rfl (by decide) rfl rfl rfl ?_
  refine T_yes rfl rfl rfl ?_ rfl
  refine T_loadS 0 1 S51 rfl rfl rfl rfl rfl rfl rfl rfl rfl rfl ?_
  refine T_yes rfl rfl rfl ?_ rfl
  refine T_callS rfl rfl g_aumbry_aumbrykeep_Same_byte rfl rfl rfl rfl ((sameB_ok S51.le (r20.mono hl42) r37 (by first | omega | (simp; done) | (simp only [List.length_take, List.length_drop]; omega))).mono ?_)
  rintro e w53 ⟨rfl, hB52⟩
  have S54 := S51.call hB52
  refine ⟨_, rfl, trivial, ?_⟩
  refine T_yes rfl rfl rfl ?_ rfl
  refine T_pev rfl rfl rfl rfl ?_
  refine T_pev rfl rfl rfl rfl ?_
  refine T_pev rfl rfl rfl rfl ?_
  refine T_bool 50 false rfl (ndec_f rfl) ?_
  refine T_yes rfl rfl rfl ?_ rfl
  refine T_pev rfl rfl rfl rfl ?_
  refine T_yes rfl rfl rfl ?_ rfl
  refine T_pev rfl rfl rfl rfl ?_
  refine T_part (t := 52) rfl (List.cons_ne_nil _ _) (fun h55' => ?_) (fun h55' => ?_)
  · have h55 := h55'
    refine T_yes rfl rfl rfl ?_ rfl
    refine T_loadFS 1 S54 rfl rfl rfl rfl rfl rfl rfl rfl rfl (by first | rfl | simp [hVs, *]) ?_
    refine T_yes rfl rfl rfl ?_ rfl
    refine T_callS rfl rfl g_aumbry_aumbryref01_Same rfl rfl rfl rfl ((isbrR_ok S54.le (r19.mono hl42) (r20.mono hl42) hbd.1 hbd.2).mono ?_)
    rintro e w57 ⟨rfl, hB56⟩
    have S58 := S54.call hB56
    refine ⟨_, rfl, trivial, ?_⟩
    refine T_yes rfl rfl rfl ?_ rfl
    refine T_pev rfl rfl rfl rfl ?_
    refine T_yes rfl rfl rfl ?_ rfl
    refine T_pev rfl rfl rfl rfl ?_
    refine T_pev rfl rfl rfl rfl ?_
    refine T_nil ?_
    refine W_bool 57 false rfl (unl_isbr ((hr4.mono (hl25.trans hl42))).1 ((hr11.mono (hl25.trans hl42))).1 h55) ?_
    refine W_cond_false rfl ?_
    refine W_skip ?_
    refine W_seq ?_
    refine W_region ?_
    refine T_pev rfl rfl rfl rfl ?_
    refine T_pev rfl rfl rfl rfl ?_
    refine T_pev rfl rfl rfl rfl ?_
    refine T_pev rfl rfl rfl rfl ?_
    refine T_pev rfl rfl rfl rfl ?_
    refine T_pev rfl rfl rfl rfl ?_
    refine T_part (t := 63) rfl (List.cons_ne_nil _ _) (fun h59' => ?_) (fun h59' => ?_)
    · have h59 := of_decide_eq_true h59'
      refine T_yes rfl rfl rfl ?_ rfl
      refine T_pev rfl rfl rfl rfl ?_
      refine T_yes rfl rfl rfl ?_ rfl
      refine T_pev rfl rfl rfl rfl ?_
      refine T_yes rfl rfl rfl ?_ rfl
      refine T_callS rfl rfl g_aumbry_aumbrykeep_Same_aumbry_api_Hash rfl rfl rfl rfl ((sameH_ok S58.le (hr4.mono (hl25.trans hl42)) (hr11.mono (hl25.trans hl42)) (by first | omega | (simp; done) | (simp only [List.length_take, List.length_drop]; omega))).mono ?_)
      rintro e w61 ⟨rfl, hB60⟩
      have S62 := S58.call hB60
      refine ⟨_, rfl, trivial, ?_⟩
      refine T_yes rfl rfl rfl ?_ rfl
      refine T_pev rfl rfl rfl rfl ?_
      refine T_pev rfl rfl rfl rfl ?_
      refine T_pev rfl rfl rfl rfl ?_
      refine T_part (t := 69) rfl (List.cons_ne_nil _ _) (fun h63' => ?_) (fun h63' => ?_)
      · have h63 := of_ndec_t h63'
        refine T_yes rfl rfl rfl ?_ rfl
        refine T_pev rfl rfl rfl rfl ?_
        refine T_yes rfl rfl rfl ?_ rfl
        refine T_callS rfl rfl g_aumbry_aumbryref07_Root rfl rfl rfl rfl ((rootR_ok S62.le (hr4.mono (hl25.trans hl42)) (by omega)).mono ?_)
        rintro e w65 ⟨rfl, hB64⟩
        have S66 := S62.call hB64
        refine ⟨_, rfl, trivial, ?_⟩
        refine T_yes rfl rfl rfl ?_ rfl
        refine T_pev rfl rfl rfl rfl ?_
        refine T_yes rfl rfl rfl ?_ rfl
        refine T_callS rfl rfl g_aumbry_aumbryref07_Root rfl rfl rfl rfl ((rootR_ok S66.le (hr11.mono (hl25.trans hl42)) (by omega)).mono ?_)
        rintro e w68 ⟨rfl, hB67⟩
        have S69 := S66.call hB67
        refine ⟨_, rfl, trivial, ?_⟩
        refine T_yes rfl rfl rfl ?_ rfl
        refine T_eqB (xs := Go.Au.root (l.take 17)) (ys := Go.Au.root (m.take 17)) rfl rfl rfl rfl rfl rfl rfl rfl rfl rfl rfl (Go.Au.root_len (hr4.mono (hl25.trans hl42)).1) (Go.Au.root_len (hr11.mono (hl25.trans hl42)).1) ?_
        refine T_pev rfl rfl rfl rfl ?_
        refine T_pev rfl rfl rfl rfl ?_
        refine T_nil ?_
        refine W_seq ?_
        refine W_region ?_
        refine T_pev rfl rfl rfl rfl ?_
        refine T_pev rfl rfl rfl rfl ?_
        refine T_beq rfl rfl rfl rfl rfl rfl rfl ?_
        refine T_pev rfl rfl rfl rfl ?_
        refine T_bool 79 true rfl (decide_eq_true (unl_m3 ((hr4.mono (hl25.trans hl42))).1 ((hr11.mono (hl25.trans hl42))).1 (by omega) h63)) ?_
        refine T_yes rfl rfl rfl ?_ rfl
        refine T_callS rfl rfl g_aumbry_aumbrylaw07_wakes rfl rfl rfl rfl ((wakes_ok S69.le (hT.mono (hl25.trans hl42))).mono ?_)
        rintro e w71 ⟨rfl, hB70⟩
        have S72 := S69.call hB70
        refine ⟨_, rfl, trivial, ?_⟩
        refine T_pev rfl rfl rfl rfl ?_
        refine T_pev rfl rfl rfl rfl ?_
        refine T_nil ?_
        refine W_ret ?_
        refine ⟨_, ⟨_, _, rfl, rfl, rfl⟩, ?_⟩
        exact ⟨rfl, S72.below⟩
      have h63 := of_ndec_f h63'
      refine T_no rfl rfl rfl rfl rfl rfl ?_
      refine T_no rfl rfl rfl rfl rfl rfl ?_
      refine T_no rfl rfl rfl rfl rfl rfl ?_
      refine T_no rfl rfl rfl rfl rfl rfl ?_
      refine T_no rfl rfl rfl rfl rfl rfl ?_
      refine T_pev rfl rfl rfl rfl ?_
      refine T_pev rfl rfl rfl rfl ?_
      refine T_nil ?_
      refine W_seq ?_
      refine W_region ?_
      refine T_pev rfl rfl rfl rfl ?_
      refine T_pev rfl rfl rfl rfl ?_
      refine T_beq rfl rfl rfl rfl rfl rfl rfl ?_
      refine T_pev rfl rfl rfl rfl ?_
      refine T_bool 79 true rfl (decide_eq_true (unl_m2 h63)) ?_
      refine T_yes rfl rfl rfl ?_ rfl
      refine T_callS rfl rfl g_aumbry_aumbrylaw07_wakes rfl rfl rfl rfl ((wakes_ok S62.le (hT.mono (hl25.trans hl42))).mono ?_)
      rintro e w74 ⟨rfl, hB73⟩
      have S75 := S62.call hB73
      refine ⟨_, rfl, trivial, ?_⟩
      refine T_pev rfl rfl rfl rfl ?_
      refine T_pev rfl rfl rfl rfl ?_
      refine T_nil ?_
      refine W_ret ?_
      refine ⟨_, ⟨_, _, rfl, rfl, rfl⟩, ?_⟩
      exact ⟨rfl, S75.below⟩
    have h59 := of_decide_eq_false h59'
    refine T_no rfl rfl rfl rfl rfl rfl ?_
    refine T_no rfl rfl rfl rfl rfl rfl ?_
    refine T_no rfl rfl rfl rfl rfl rfl ?_
    refine T_no rfl rfl rfl rfl rfl rfl ?_
    refine T_pev rfl rfl rfl rfl ?_
    refine T_pev rfl rfl rfl rfl ?_
    refine T_no rfl rfl rfl rfl rfl rfl ?_
    refine T_no rfl rfl rfl rfl rfl rfl ?_
    refine T_no rfl rfl rfl rfl rfl rfl ?_
    refine T_no rfl rfl rfl rfl rfl rfl ?_
    refine T_no rfl rfl rfl rfl rfl rfl ?_
    refine T_pev rfl rfl rfl rfl ?_
    refine T_pev rfl rfl rfl rfl ?_
    refine T_nil ?_
    refine W_seq ?_
    refine W_region ?_
    refine T_pev rfl rfl rfl rfl ?_
    refine T_pev rfl rfl rfl rfl ?_
    refine T_beq rfl rfl rfl rfl rfl rfl rfl ?_
    refine T_pev rfl rfl rfl rfl ?_
    refine T_bool 79 true rfl (decide_eq_true (unl_m1 (by omega))) ?_
    refine T_yes rfl rfl rfl ?_ rfl
    refine T_callS rfl rfl g_aumbry_aumbrylaw07_wakes rfl rfl rfl rfl ((wakes_ok S58.le (hT.mono (hl25.trans hl42))).mono ?_)
    rintro e w77 ⟨rfl, hB76⟩
    have S78 := S58.call hB76
    refine ⟨_, rfl, trivial, ?_⟩
    refine T_pev rfl rfl rfl rfl ?_
    refine T_pev rfl rfl rfl rfl ?_
    refine T_nil ?_
    refine W_ret ?_
    refine ⟨_, ⟨_, _, rfl, rfl, rfl⟩, ?_⟩
    exact ⟨rfl, S78.below⟩
  have h55 := h55'
  refine T_no rfl rfl rfl rfl rfl rfl ?_
  refine T_no rfl rfl rfl rfl rfl rfl ?_
  refine T_no rfl rfl rfl rfl rfl rfl ?_
  refine T_yes rfl rfl rfl ?_ rfl
  refine T_pev rfl rfl rfl rfl ?_
  refine T_pev rfl rfl rfl rfl ?_
  refine T_nil ?_
  refine W_cond_false rfl ?_
  refine W_skip ?_
  refine W_seq ?_
  refine W_region ?_
  refine T_pev rfl rfl rfl rfl ?_
  refine T_pev rfl rfl rfl rfl ?_
  refine T_pev rfl rfl rfl rfl ?_
  refine T_pev rfl rfl rfl rfl ?_
  refine T_pev rfl rfl rfl rfl ?_
  refine T_pev rfl rfl rfl rfl ?_
  refine T_part (t := 63) rfl (List.cons_ne_nil _ _) (fun h79' => ?_) (fun h79' => ?_)
  · have h79 := of_decide_eq_true h79'
    refine T_yes rfl rfl rfl ?_ rfl
    refine T_pev rfl rfl rfl rfl ?_
    refine T_yes rfl rfl rfl ?_ rfl
    refine T_pev rfl rfl rfl rfl ?_
    refine T_yes rfl rfl rfl ?_ rfl
    refine T_callS rfl rfl g_aumbry_aumbrykeep_Same_aumbry_api_Hash rfl rfl rfl rfl ((sameH_ok S54.le (hr4.mono (hl25.trans hl42)) (hr11.mono (hl25.trans hl42)) (by first | omega | (simp; done) | (simp only [List.length_take, List.length_drop]; omega))).mono ?_)
    rintro e w81 ⟨rfl, hB80⟩
    have S82 := S54.call hB80
    refine ⟨_, rfl, trivial, ?_⟩
    refine T_yes rfl rfl rfl ?_ rfl
    refine T_pev rfl rfl rfl rfl ?_
    refine T_pev rfl rfl rfl rfl ?_
    refine T_pev rfl rfl rfl rfl ?_
    refine T_part (t := 69) rfl (List.cons_ne_nil _ _) (fun h83' => ?_) (fun h83' => ?_)
    · have h83 := of_ndec_t h83'
      refine T_yes rfl rfl rfl ?_ rfl
      refine T_pev rfl rfl rfl rfl ?_
      refine T_yes rfl rfl rfl ?_ rfl
      refine T_callS rfl rfl g_aumbry_aumbryref07_Root rfl rfl rfl rfl ((rootR_ok S82.le (hr4.mono (hl25.trans hl42)) (by omega)).mono ?_)
      rintro e w85 ⟨rfl, hB84⟩
      have S86 := S82.call hB84
      refine ⟨_, rfl, trivial, ?_⟩
      refine T_yes rfl rfl rfl ?_ rfl
      refine T_pev rfl rfl rfl rfl ?_
      refine T_yes rfl rfl rfl ?_ rfl
      refine T_callS rfl rfl g_aumbry_aumbryref07_Root rfl rfl rfl rfl ((rootR_ok S86.le (hr11.mono (hl25.trans hl42)) (by omega)).mono ?_)
      rintro e w88 ⟨rfl, hB87⟩
      have S89 := S86.call hB87
      refine ⟨_, rfl, trivial, ?_⟩
      refine T_yes rfl rfl rfl ?_ rfl
      refine T_eqB (xs := Go.Au.root (l.take 17)) (ys := Go.Au.root (m.take 17)) rfl rfl rfl rfl rfl rfl rfl rfl rfl rfl rfl (Go.Au.root_len (hr4.mono (hl25.trans hl42)).1) (Go.Au.root_len (hr11.mono (hl25.trans hl42)).1) ?_
      refine T_pev rfl rfl rfl rfl ?_
      refine T_pev rfl rfl rfl rfl ?_
      refine T_nil ?_
      refine W_seq ?_
      refine W_region ?_
      refine T_pev rfl rfl rfl rfl ?_
      refine T_pev rfl rfl rfl rfl ?_
      refine T_beq rfl rfl rfl rfl rfl rfl rfl ?_
      refine T_pev rfl rfl rfl rfl ?_
      refine T_bool 79 true rfl (decide_eq_true (unl_m3 ((hr4.mono (hl25.trans hl42))).1 ((hr11.mono (hl25.trans hl42))).1 (by omega) h83)) ?_
      refine T_yes rfl rfl rfl ?_ rfl
      refine T_callS rfl rfl g_aumbry_aumbrylaw07_wakes rfl rfl rfl rfl ((wakes_ok S89.le (hT.mono (hl25.trans hl42))).mono ?_)
      rintro e w91 ⟨rfl, hB90⟩
      have S92 := S89.call hB90
      refine ⟨_, rfl, trivial, ?_⟩
      refine T_pev rfl rfl rfl rfl ?_
      refine T_pev rfl rfl rfl rfl ?_
      refine T_nil ?_
      refine W_ret ?_
      refine ⟨_, ⟨_, _, rfl, rfl, rfl⟩, ?_⟩
      exact ⟨rfl, S92.below⟩
    have h83 := of_ndec_f h83'
    refine T_no rfl rfl rfl rfl rfl rfl ?_
    refine T_no rfl rfl rfl rfl rfl rfl ?_
    refine T_no rfl rfl rfl rfl rfl rfl ?_
    refine T_no rfl rfl rfl rfl rfl rfl ?_
    refine T_no rfl rfl rfl rfl rfl rfl ?_
    refine T_pev rfl rfl rfl rfl ?_
    refine T_pev rfl rfl rfl rfl ?_
    refine T_nil ?_
    refine W_seq ?_
    refine W_region ?_
    refine T_pev rfl rfl rfl rfl ?_
    refine T_pev rfl rfl rfl rfl ?_
    refine T_beq rfl rfl rfl rfl rfl rfl rfl ?_
    refine T_pev rfl rfl rfl rfl ?_
    refine T_bool 79 true rfl (decide_eq_true (unl_m2 h83)) ?_
    refine T_yes rfl rfl rfl ?_ rfl
    refine T_callS rfl rfl g_aumbry_aumbrylaw07_wakes rfl rfl rfl rfl ((wakes_ok S82.le (hT.mono (hl25.trans hl42))).mono ?_)
    rintro e w94 ⟨rfl, hB93⟩
    have S95 := S82.call hB93
    refine ⟨_, rfl, trivial, ?_⟩
    refine T_pev rfl rfl rfl rfl ?_
    refine T_pev rfl rfl rfl rfl ?_
    refine T_nil ?_
    refine W_ret ?_
    refine ⟨_, ⟨_, _, rfl, rfl, rfl⟩, ?_⟩
    exact ⟨rfl, S95.below⟩
  have h79 := of_decide_eq_false h79'
  refine T_no rfl rfl rfl rfl rfl rfl ?_
  refine T_no rfl rfl rfl rfl rfl rfl ?_
  refine T_no rfl rfl rfl rfl rfl rfl ?_
  refine T_no rfl rfl rfl rfl rfl rfl ?_
  refine T_pev rfl rfl rfl rfl ?_
  refine T_pev rfl rfl rfl rfl ?_
  refine T_no rfl rfl rfl rfl rfl rfl ?_
  refine T_no rfl rfl rfl rfl rfl rfl ?_
  refine T_no rfl rfl rfl rfl rfl rfl ?_
  refine T_no rfl rfl rfl rfl rfl rfl ?_
  refine T_no rfl rfl rfl rfl rfl rfl ?_
  refine T_pev rfl rfl rfl rfl ?_
  refine T_pev rfl rfl rfl rfl ?_
  refine T_nil ?_
  refine W_seq ?_
  refine W_region ?_
  refine T_pev rfl rfl rfl rfl ?_
  refine T_pev rfl rfl rfl rfl ?_
  refine T_beq rfl rfl rfl rfl rfl rfl rfl ?_
  refine T_pev rfl rfl rfl rfl ?_
  refine T_bool 79 true rfl (decide_eq_true (unl_m1 (by omega))) ?_
  refine T_yes rfl rfl rfl ?_ rfl
  refine T_callS rfl rfl g_aumbry_aumbrylaw07_wakes rfl rfl rfl rfl ((wakes_ok S54.le (hT.mono (hl25.trans hl42))).mono ?_)
  rintro e w97 ⟨rfl, hB96⟩
  have S98 := S54.call hB96
  refine ⟨_, rfl, trivial, ?_⟩
  refine T_pev rfl rfl rfl rfl ?_
  refine T_pev rfl rfl rfl rfl ?_
  refine T_nil ?_
  refine W_ret ?_
  refine ⟨_, ⟨_, _, rfl, rfl, rfl⟩, ?_⟩
  exact ⟨rfl, S98.below⟩


theorem treeUnlike_t {H : Hp} {w : World} (hH : H.le (hw w)) (hT : Tabs H) {l : List (List UInt8)} {aa0 : Option Addr} {nn0 cc0 : Nat} (hv : RdH H (.slice aa0 nn0 cc0) 32 l) {m : List (List UInt8)} {aa1 : Option Addr} {nn1 cc1 : Nat} (hu : RdH H (.slice aa1 nn1 cc1) 32 m) :
    Calls Tryd.prog 6 #[.slice aa0 nn0 cc0, .slice aa1 nn1 cc1, .bool true] w fun e w' => e = .returned (.bool true) ∧ Below w.heap.size w w' := by
  obtain rfl : nn0 = l.length := hv.len
  have hvcap : l.length ≤ cc0 := hv.2.capOf
  obtain rfl : nn1 = m.length := hu.len
  have hucap : m.length ≤ cc1 := hu.2.capOf
  have hl17 : (l.take 17).length ≤ 17 := by rw [List.length_take]; omega
  have hm17 : (m.take 17).length ≤ 17 := by rw [List.length_take]; omega
  refine enter3 _ Tryd.func6 rfl Tryd.ntmps6 Tryd.results6 rfl ?_
  have S0 := St.start w hH
  refine W_seq ?_
  refine W_region ?_
  refine T_pev rfl rfl rfl rfl ?_
  refine T_nil ?_
  refine W_seq ?_
  refine W_region ?_
  refine T_pev rfl rfl rfl rfl ?_
  refine T_callS rfl rfl g_aumbry_aumbrykeep_Cut_aumbry_api_Hash rfl rfl rfl rfl ((cutH_ok S0.le hv 17).mono ?_)
  rintro e w6 ⟨a1, c2, hc3, rfl, hr4, hB5⟩
  have S7 := S0.call hB5
  refine ⟨_, rfl, trivial, ?_⟩
  refine T_pev rfl rfl rfl rfl ?_
  refine T_callS rfl rfl g_aumbry_aumbrykeep_Cut_aumbry_api_Hash rfl rfl rfl rfl ((cutH_ok S7.le hu 17).mono ?_)
  rintro e w13 ⟨a8, c9, hc10, rfl, hr11, hB12⟩
  have S14 := S7.call hB12
  refine ⟨_, rfl, trivial, ?_⟩
  refine T_pev rfl rfl rfl rfl ?_
  refine T_pev rfl rfl rfl rfl ?_
  refine T_nil ?_
  refine W_seq ?_
  refine W_seq ?_
  refine W_region ?_
  refine T_pev rfl rfl rfl rfl ?_
  refine T_nil ?_
  refine W_cond_true rfl ?_
  refine W_region ?_
  refine T_pev rfl rfl rfl rfl ?_
  refine T_callS rfl rfl g_aumbry_aumbrykeep_Copy_aumbry_api_Hash rfl rfl rfl rfl ((copyH_ok S14.le hr4 (by omega)).mono ?_)
  rintro e w20 ⟨a15, c16, hc17, rfl, ho18, hB19⟩
  have S21 := S14.own hB19 ho18
  refine ⟨_, rfl, trivial, ?_⟩
  refine T_pev rfl rfl rfl rfl ?_
  refine T_nil ?_
  refine W_seq ?_
  refine W_region ?_
  refine T_pev rfl rfl rfl rfl ?_
  refine T_pev rfl rfl rfl rfl ?_
  obtain ⟨G23, hl24, S22, r25⟩ := S21.stillRow 0 rfl
  have r26 := RdH.mk hr4.1 (by decide) r25
  refine T_callS rfl rfl g_aumbry_tree_Unlike rfl rfl rfl rfl ((unlikeT_ok S22.le (hT.mono hl24) (hr4.mono hl24) r26 (by omega) (by omega)).mono ?_)
  rintro e w34 ⟨a27, c28, a29, c30, rfl, r31, r32, hB33⟩
  obtain ⟨G36, eG38⟩ : ∃ G, G = F.ext G23 w20.heap.size w34 := ⟨_, rfl⟩
  obtain ⟨hl37, S35⟩ := S22.ext hB33
  rw [← eG38] at hl37 S35 r31 r32
  refine ⟨_, rfl, trivial, ?_⟩
  refine T_pev rfl rfl rfl rfl ?_
  refine T_pev rfl rfl rfl rfl ?_
  refine T_pev rfl rfl rfl rfl ?_
  refine T_allocS S35 (fun _ _ => trivial) rfl rfl rfl rfl rfl rfl rfl fun b39 w40 S41 => ?_
  refine T_storeFS 0 S41 (fun _ _ => trivial) rfl rfl rfl rfl rfl rfl rfl rfl rfl (by first | rfl | simp [hVs, *]) (by first | rfl | simp [hVs, *]) (one_all rfl) fun w42 S43 => ?_
  refine T_pev rfl rfl rfl rfl ?_
  refine T_nil ?_
  refine W_seq ?_
  refine W_region ?_
  refine T_pev rfl rfl rfl rfl ?_
  refine T_pev rfl rfl rfl rfl ?_
  refine T_callS rfl rfl g_aumbry_aumbryref07_Unlike rfl rfl rfl rfl ((unlikeR_ok S43.le (hr4.mono (hl24.trans hl37)) (r26.mono hl37) (by omega) (by omega)).mono ?_)
  rintro e w51 ⟨a44, c45, a46, c47, rfl, r48, r49, hB50⟩
  obtain ⟨G53, eG55⟩ : ∃ G, G = F.ext G36 w42.heap.size w51 := ⟨_, rfl⟩
  obtain ⟨hl54, S52⟩ := S43.ext hB50
  rw [← eG55] at hl54 S52 r48 r49
  refine ⟨_, rfl, trivial, ?_⟩
  refine T_pev rfl rfl rfl rfl ?_
  refine T_pev rfl rfl rfl rfl ?_
  refine T_pev rfl rfl rfl rfl ?_
  refine T_allocS S52 (fun _ _ => trivial) rfl rfl rfl rfl rfl rfl rfl fun b56 w57 S58 => ?_
  refine T_storeFS 0 S58 (fun _ _ => trivial) rfl rfl rfl rfl rfl rfl rfl rfl rfl (by first | rfl | simp [hVs, *]) (by first | rfl | simp [hVs, *]) (one_all rfl) fun w59 S60 => ?_
  refine T_pev rfl rfl rfl rfl ?_
  refine T_nil ?_
  refine W_seq ?_
  refine W_seq ?_
  refine W_region ?_
  refine T_pev rfl rfl rfl rfl ?_
  refine T_pev rfl rfl rfl rfl ?_
  refine T_bne rfl rfl rfl rfl rfl rfl rfl ?_
  refine T_pev rfl rfl rfl rfl ?_
  refine T_bool 34 false rfl (ndec_f rfl) ?_
  refine T_yes rfl rfl rfl ?_ rfl
  refine T_fldm 0 rfl rfl rfl rfl rfl rfl (by decide) rfl rfl rfl ?_
  refine T_yes rfl rfl rfl ?_ rfl
  refine T_loadS 1 0 S60 rfl rfl rfl rfl rfl rfl rfl rfl rfl rfl ?_
  refine T_yes rfl rfl rfl ?_ rfl
  refine T_fldm 0 rfl rfl rfl rfl rfl rfl (by decide) rfl rfl rfl ?_
  refine T_yes rfl rfl rfl ?_ rfl
  refine T_loadS 0 0 S60 rfl rfl rfl rfl rfl rfl rfl rfl rfl rfl ?_
  refine T_yes rfl rfl rfl ?_ rfl
  have hbd := unl_bd ((hr4.mono (hl24.trans (hl37.trans hl54)))).1 ((r26.mono (hl37.trans hl54))).1
  refine T_callS rfl rfl g_aumbry_aumbrykeep_Same_byte rfl rfl rfl rfl ((sameB_ok S60.le (r31.mono hl54) r48 (by first | omega | (simp; done) | (simp only [List.length_take, List.length_drop]; omega))).mono ?_)
  rintro e w62 ⟨rfl, hB61⟩
  have S63 := S60.call hB61
  refine ⟨_, rfl, trivial, ?_⟩
  refine T_yes rfl rfl rfl ?_ rfl
  refine T_pev rfl rfl rfl rfl ?_
  refine T_pev rfl rfl rfl rfl ?_
  refine T_pev rfl rfl rfl rfl ?_
  refine T_bool 42 false rfl (ndec_f rfl) ?_
  refine T_yes rfl rfl rfl ?_ rfl
  refine T_fldm 1 rfl rfl rfl rfl rfl rfl (by decide) rfl rfl rfl ?_
  refine T_yes rfl rfl rfl ?_ rfl
  refine T_loadS 1 1 S63 rfl rfl rfl rfl rfl rfl rfl rfl rfl rfl ?_
  refine T_yes rfl rfl rfl ?_ rfl
  refine T_fldm 1 rfl rfl rfl rfl rfl rfl (by decide) rfl rfl rfl ?_
  refine T_yes rfl rfl rfl ?_ rfl
  refine T_loadS 0 1 S63 rfl rfl rfl rfl rfl rfl rfl rfl rfl rfl ?_
  refine T_yes rfl rfl rfl ?_ rfl
  refine T_callS rfl rfl g_aumbry_aumbrykeep_Same_byte rfl rfl rfl rfl ((sameB_ok S63.le (r32.mono hl54) r49 (by first | omega | (simp; done) | (simp only [List.length_take, List.length_drop]; omega))).mono ?_)
  rintro e w65 ⟨rfl, hB64⟩
  have S66 := S63.call hB64
  refine ⟨_, rfl, trivial, ?_⟩
  refine T_yes rfl rfl rfl ?_ rfl
  refine T_pev rfl rfl rfl rfl ?_
  refine T_pev rfl rfl rfl rfl ?_
  refine T_pev rfl rfl rfl rfl ?_
  refine T_bool 50 false rfl (ndec_f rfl) ?_
  refine T_yes rfl rfl rfl ?_ rfl
  refine T_pev rfl rfl rfl rfl ?_
  refine T_yes rfl rfl rfl ?_ rfl
  refine T_pev rfl rfl rfl rfl ?_
  refine T_part (t := 52) rfl (List.cons_ne_nil _ _) (fun h67' => ?_) (fun h67' => ?_)
  · have h67 := h67'
    refine T_yes rfl rfl rfl ?_ rfl
    refine T_loadFS 1 S66 rfl rfl rfl rfl rfl rfl rfl rfl rfl (by first | rfl | simp [hVs, *]) ?_
    refine T_yes rfl rfl rfl ?_ rfl
    refine T_callS rfl rfl g_aumbry_aumbryref01_Same rfl rfl rfl rfl ((isbrR_ok S66.le (r31.mono hl54) (r32.mono hl54) hbd.1 hbd.2).mono ?_)
    rintro e w69 ⟨rfl, hB68⟩
    have S70 := S66.call hB68
    refine ⟨_, rfl, trivial, ?_⟩
    refine T_yes rfl rfl rfl ?_ rfl
    refine T_pev rfl rfl rfl rfl ?_
    refine T_yes rfl rfl rfl ?_ rfl
    refine T_pev rfl rfl rfl rfl ?_
    refine T_pev rfl rfl rfl rfl ?_
    refine T_nil ?_
    refine W_bool 57 false rfl (unl_isbr ((hr4.mono (hl24.trans (hl37.trans hl54)))).1 ((r26.mono (hl37.trans hl54))).1 h67) ?_
    refine W_cond_false rfl ?_
    refine W_skip ?_
    refine W_seq ?_
    refine W_region ?_
    refine T_pev rfl rfl rfl rfl ?_
    refine T_pev rfl rfl rfl rfl ?_
    refine T_pev rfl rfl rfl rfl ?_
    refine T_pev rfl rfl rfl rfl ?_
    refine T_pev rfl rfl rfl rfl ?_
    refine T_pev rfl rfl rfl rfl ?_
    refine T_bool 63 true rfl (decide_eq_true rfl) ?_
    refine T_yes rfl rfl rfl ?_ rfl
    refine T_pev rfl rfl rfl rfl ?_
    refine T_yes rfl rfl rfl ?_ rfl
    refine T_pev rfl rfl rfl rfl ?_
    refine T_yes rfl rfl rfl ?_ rfl
    refine T_callS rfl rfl g_aumbry_aumbrykeep_Same_aumbry_api_Hash rfl rfl rfl rfl ((sameH_ok S70.le (hr4.mono (hl24.trans (hl37.trans hl54))) (r26.mono (hl37.trans hl54)) (by first | omega | (simp; done) | (simp only [List.length_take, List.length_drop]; omega))).mono ?_)
    rintro e w72 ⟨rfl, hB71⟩
    have S73 := S70.call hB71
    refine ⟨_, rfl, trivial, ?_⟩
    refine T_yes rfl rfl rfl ?_ rfl
    refine T_pev rfl rfl rfl rfl ?_
    refine T_pev rfl rfl rfl rfl ?_
    refine T_pev rfl rfl rfl rfl ?_
    refine T_bool 69 false rfl (ndec_f rfl) ?_
    refine T_no rfl rfl rfl rfl rfl rfl ?_
    refine T_no rfl rfl rfl rfl rfl rfl ?_
    refine T_no rfl rfl rfl rfl rfl rfl ?_
    refine T_no rfl rfl rfl rfl rfl rfl ?_
    refine T_no rfl rfl rfl rfl rfl rfl ?_
    refine T_pev rfl rfl rfl rfl ?_
    refine T_pev rfl rfl rfl rfl ?_
    refine T_nil ?_
    refine W_seq ?_
    refine W_region ?_
    refine T_pev rfl rfl rfl rfl ?_
    refine T_pev rfl rfl rfl rfl ?_
    refine T_beq rfl rfl rfl rfl rfl rfl rfl ?_
    refine T_pev rfl rfl rfl rfl ?_
    refine T_bool 79 true rfl (decide_eq_true (by rw [Go.Au.unlike_self]; rfl)) ?_
    refine T_yes rfl rfl rfl ?_ rfl
    refine T_callS rfl rfl g_aumbry_aumbrylaw07_wakes rfl rfl rfl rfl ((wakes_ok S73.le (hT.mono (hl24.trans (hl37.trans hl54)))).mono ?_)
    rintro e w75 ⟨rfl, hB74⟩
    have S76 := S73.call hB74
    refine ⟨_, rfl, trivial, ?_⟩
    refine T_pev rfl rfl rfl rfl ?_
    refine T_pev rfl rfl rfl rfl ?_
    refine T_nil ?_
    refine W_ret ?_
    refine ⟨_, ⟨_, _, rfl, rfl, rfl⟩, ?_⟩
    exact ⟨rfl, S76.below⟩
  have h67 := h67'
  refine T_no rfl rfl rfl rfl rfl rfl ?_
  refine T_no rfl rfl rfl rfl rfl rfl ?_
  refine T_no rfl rfl rfl rfl rfl rfl ?_
  refine T_yes rfl rfl rfl ?_ rfl
  refine T_pev rfl rfl rfl rfl ?_
  refine T_pev rfl rfl rfl rfl ?_
  refine T_nil ?_
  refine W_cond_false rfl ?_
  refine W_skip ?_
  refine W_seq ?_
  refine W_region ?_
  refine T_pev rfl rfl rfl rfl ?_
  refine T_pev rfl rfl rfl rfl ?_
  refine T_pev rfl rfl rfl rfl ?_
  refine T_pev rfl rfl rfl rfl ?_
  refine T_pev rfl rfl rfl rfl ?_
  refine T_pev rfl rfl rfl rfl ?_
  refine T_bool 63 true rfl (decide_eq_true rfl) ?_
  refine T_yes rfl rfl rfl ?_ rfl
  refine T_pev rfl rfl rfl rfl ?_
  refine T_yes rfl rfl rfl ?_ rfl
  refine T_pev rfl rfl rfl rfl ?_
  refine T_yes rfl rfl rfl ?_ rfl
  refine T_callS rfl rfl g_aumbry_aumbrykeep_Same_aumbry_api_Hash rfl rfl rfl rfl ((sameH_ok S66.le (hr4.mono (hl24.trans (hl37.trans hl54))) (r26.mono (hl37.trans hl54)) (by first | omega | (simp; done) | (simp only [List.length_take, List.length_drop]; omega))).mono ?_)
  rintro e w78 ⟨rfl, hB77⟩
  have S79 := S66.call hB77
  refine ⟨_, rfl, trivial, ?_⟩
  refine T_yes rfl rfl rfl ?_ rfl
  refine T_pev rfl rfl rfl rfl ?_
  refine T_pev rfl rfl rfl rfl ?_
  refine T_pev rfl rfl rfl rfl ?_
  refine T_bool 69 false rfl (ndec_f rfl) ?_
  refine T_no rfl rfl rfl rfl rfl rfl ?_
  refine T_no rfl rfl rfl rfl rfl rfl ?_
  refine T_no rfl rfl rfl rfl rfl rfl ?_
  refine T_no rfl rfl rfl rfl rfl rfl ?_
  refine T_no rfl rfl rfl rfl rfl rfl ?_
  refine T_pev rfl rfl rfl rfl ?_
  refine T_pev rfl rfl rfl rfl ?_
  refine T_nil ?_
  refine W_seq ?_
  refine W_region ?_
  refine T_pev rfl rfl rfl rfl ?_
  refine T_pev rfl rfl rfl rfl ?_
  refine T_beq rfl rfl rfl rfl rfl rfl rfl ?_
  refine T_pev rfl rfl rfl rfl ?_
  refine T_bool 79 true rfl (decide_eq_true (by rw [Go.Au.unlike_self]; rfl)) ?_
  refine T_yes rfl rfl rfl ?_ rfl
  refine T_callS rfl rfl g_aumbry_aumbrylaw07_wakes rfl rfl rfl rfl ((wakes_ok S79.le (hT.mono (hl24.trans (hl37.trans hl54)))).mono ?_)
  rintro e w81 ⟨rfl, hB80⟩
  have S82 := S79.call hB80
  refine ⟨_, rfl, trivial, ?_⟩
  refine T_pev rfl rfl rfl rfl ?_
  refine T_pev rfl rfl rfl rfl ?_
  refine T_nil ?_
  refine W_ret ?_
  refine ⟨_, ⟨_, _, rfl, rfl, rfl⟩, ?_⟩
  exact ⟨rfl, S82.below⟩


theorem treeUnlike_ok {H : Hp} {w : World} (hH : H.le (hw w)) (hT : Tabs H) {l : List (List UInt8)} {aa0 : Option Addr} {nn0 cc0 : Nat} (hv : RdH H (.slice aa0 nn0 cc0) 32 l) {m : List (List UInt8)} {aa1 : Option Addr} {nn1 cc1 : Nat} (hu : RdH H (.slice aa1 nn1 cc1) 32 m) (b : Bool) :
    Calls Tryd.prog 6 #[.slice aa0 nn0 cc0, .slice aa1 nn1 cc1, .bool b] w fun e w' => e = .returned (.bool true) ∧ Below w.heap.size w w' := by
  cases b
  · exact treeUnlike_f hH hT hv hu
  · exact treeUnlike_t hH hT hv hu
end Go.Proofs.YtadiakpbodlecaaDoor
