/- The statements of chapter 7, walked: breaks. -/
import Derived.Test.YtadiakpbodlecaaDoorLaw07c
import Derived.Test.YtadiakpbodlecaaDoorTreeF
set_option linter.unusedVariables false
set_option linter.unusedSimpArgs false
set_option maxRecDepth 8192
namespace Go.Proofs.YtadiakpbodlecaaDoor
open Go Go.F Go.RowKit

section
variable {n i : Int} {a b : List UInt8} {p q : List (List UInt8)}
theorem waysH_textbd (ha : a.length = 32) (hp : ∀ x ∈ p, x.length = 32) (k : Nat) : (Go.Au.textP ((Go.Au.waysH n i a p).getD k [])).length ≤ 100000 := by
  rcases Nat.lt_or_ge k (Go.Au.waysH n i a p).length with h | h
  · exact Nat.le_trans (Nat.le_of_lt (textP_bd (Go.Au.getD_len (Go.Au.waysH_all n i ha hp) h))) (by decide)
  · rw [List.getD_eq_getElem?_getD, List.getElem?_eq_none h]
    exact of_decide_eq_true (by kernel_rfl)
theorem brk_bd (ha : a.length = 32) (hb : b.length = 32) (hp : ∀ x ∈ p, x.length = 32) (hq : ∀ x ∈ q, x.length = 32) : (Go.Au.brA (Go.Au.brk n i a b p q)).length ≤ 100000 ∧ (Go.Au.brB (Go.Au.brk n i a b p q)).length ≤ 100000 := by
  unfold Go.Au.brk
  split
  · cases Go.Au.lastNe (Go.Au.waysH n i a p) (Go.Au.waysH n i b q) p.length with
    | none => exact ⟨Nat.zero_le 100000, Nat.zero_le 100000⟩
    | some k => exact ⟨waysH_textbd ha hp k, waysH_textbd hb hq k⟩
  · exact ⟨Nat.zero_le 100000, Nat.zero_le 100000⟩
theorem brk_isbr (ha : a.length = 32) (hb : b.length = 32) (hp : ∀ x ∈ p, x.length = 32) (hq : ∀ x ∈ q, x.length = 32) (h : (Go.Au.brk n i a b p q).isSome = true) :
    (!(!decide (Go.Au.brA (Go.Au.brk n i a b p q) = Go.Au.brB (Go.Au.brk n i a b p q)) && decide (Go.Sha.sha (Go.Au.brA (Go.Au.brk n i a b p q)) = Go.Sha.sha (Go.Au.brB (Go.Au.brk n i a b p q))))) = false := by
  cases e : Go.Au.brk n i a b p q with
  | none => rw [e] at h; cases h
  | some v =>
    obtain ⟨A, B⟩ := v
    obtain ⟨h1, h2⟩ := Go.Au.brk_some ha hb hp hq e
    show (!(!decide (A = B) && decide (Go.Sha.sha A = Go.Sha.sha B))) = false
    rw [decide_eq_false h1, decide_eq_true h2]; rfl
theorem brk_m1 (h : Go.Au.okW n i p.length = false) : (Go.Au.brk n i a b p q).isSome = false := by rw [Go.Au.brk_no1 h]; rfl
theorem brk_m2 (h : Go.Au.okW n i q.length = false) : (Go.Au.brk n i a b p q).isSome = false := by rw [Go.Au.brk_no2 h]; rfl
theorem brk_m3 (h : ¬ Go.Au.climbH n i a p = Go.Au.climbH n i b q) : (Go.Au.brk n i a b p q).isSome = false := by rw [Go.Au.brk_no3 h]; rfl
theorem brk_m4 (ha : a.length = 32) (hb : b.length = 32) (hp : ∀ x ∈ p, x.length = 32) (hq : ∀ x ∈ q, x.length = 32) (h1 : Go.Au.okW n i p.length = true) (h2 : Go.Au.okW n i q.length = true) (h3 : Go.Au.climbH n i a p = Go.Au.climbH n i b q) (h4 : ¬ a = b) : (Go.Au.brk n i a b p q).isSome = true := by
  rw [Go.Au.brk_isSome ha hb hp hq]; exact decide_eq_true ⟨h1, h2, h3, fun h => h4 h.1⟩
theorem brk_m5 (ha : a.length = 32) (hb : b.length = 32) (hp : ∀ x ∈ p, x.length = 32) (hq : ∀ x ∈ q, x.length = 32) (h1 : Go.Au.okW n i p.length = true) (h2 : Go.Au.okW n i q.length = true) (h3 : Go.Au.climbH n i a p = Go.Au.climbH n i b q) (h4 : a = b) : (Go.Au.brk n i a b p q).isSome = !decide (p = q) := by
  rw [Go.Au.brk_isSome ha hb hp hq]
  by_cases e : p = q
  · rw [decide_eq_true e]; exact decide_eq_false (fun h => h.2.2.2 ⟨h4, e⟩)
  · rw [decide_eq_false e]; exact decide_eq_true ⟨h1, h2, h3, fun h => e h.2⟩
end
theorem treeBreaks_ok {H : Hp} {w : World} (hH : H.le (hw w)) (hT : Tabs H) (n i : Int) {x y : List UInt8} (hx : x.length = 32) (hy : y.length = 32) {p : List (List UInt8)} {aa4 : Option Addr} {nn4 cc4 : Nat} (hp : RdH H (.slice aa4 nn4 cc4) 32 p) {q : List (List UInt8)} {aa5 : Option Addr} {nn5 cc5 : Nat} (hq : RdH H (.slice aa5 nn5 cc5) 32 q) :
    Calls Tryd.prog 8 #[.int .i64 n, .int .i64 i, hV x, hV y, .slice aa4 nn4 cc4, .slice aa5 nn5 cc5] w fun e w' => e = .returned (.bool true) ∧ Below w.heap.size w w' := by
  obtain rfl : nn4 = p.length := hp.len
  have hpcap : p.length ≤ cc4 := hp.2.capOf
  obtain rfl : nn5 = q.length := hq.len
  have hqcap : q.length ≤ cc5 := hq.2.capOf
  have hp8 : (p.take 8).length ≤ 8 := by rw [List.length_take]; omega
  have hq8 : (q.take 8).length ≤ 8 := by rw [List.length_take]; omega
  refine enter6 _ Tryd.func8 rfl Tryd.ntmps8 Tryd.results8 rfl ?_
  have S0 := St.start w hH
  refine W_seq ?_
  refine W_region ?_
  refine T_boxS S0 (fun _ _ => trivial) rfl rfl rfl rfl rfl rfl fun b1 w2 S3 => ?_
  refine T_boxS S3 (fun _ _ => trivial) rfl rfl rfl rfl rfl rfl fun b4 w5 S6 => ?_
  refine T_pev rfl rfl rfl rfl ?_
  refine T_nil ?_
  refine W_seq ?_
  refine W_region ?_
  refine T_pev rfl rfl rfl rfl ?_
  refine T_callS rfl rfl g_aumbry_aumbrykeep_Cut_aumbry_api_Hash rfl rfl rfl rfl ((cutH_ok S6.le hp 8).mono ?_)
  rintro e w12 ⟨a7, c8, hc9, rfl, hr10, hB11⟩
  have S13 := S6.call hB11
  refine ⟨_, rfl, trivial, ?_⟩
  refine T_pev rfl rfl rfl rfl ?_
  refine T_callS rfl rfl g_aumbry_aumbrykeep_Cut_aumbry_api_Hash rfl rfl rfl rfl ((cutH_ok S13.le hq 8).mono ?_)
  rintro e w19 ⟨a14, c15, hc16, rfl, hr17, hB18⟩
  have S20 := S13.call hB18
  refine ⟨_, rfl, trivial, ?_⟩
  refine T_pev rfl rfl rfl rfl ?_
  refine T_pev rfl rfl rfl rfl ?_
  refine T_nil ?_
  refine W_seq ?_
  refine W_region ?_
  refine T_pev rfl rfl rfl rfl ?_
  refine T_pev rfl rfl rfl rfl ?_
  refine T_loadFS 1 S20 rfl rfl rfl rfl rfl rfl rfl rfl rfl (hVs hx) ?_
  refine T_loadFS 0 S20 rfl rfl rfl rfl rfl rfl rfl rfl rfl (hVs hy) ?_
  refine T_pev rfl rfl rfl rfl ?_
  refine T_pev rfl rfl rfl rfl ?_
  refine T_callS rfl rfl g_aumbry_tree_Break rfl rfl rfl rfl ((break_ok S20.le hT n i hx hy hr10 hr17).mono ?_)
  rintro e w28 ⟨a21, c22, a23, c24, rfl, r25, r26, hB27⟩
  obtain ⟨G30, eG32⟩ : ∃ G, G = F.ext H w19.heap.size w28 := ⟨_, rfl⟩
  obtain ⟨hl31, S29⟩ := S20.ext hB27
  rw [← eG32] at hl31 S29 r25 r26
  refine ⟨_, rfl, trivial, ?_⟩
  refine T_pev rfl rfl rfl rfl ?_
  refine T_pev rfl rfl rfl rfl ?_
  refine T_pev rfl rfl rfl rfl ?_
  refine T_allocS S29 (fun _ _ => trivial) rfl rfl rfl rfl rfl rfl rfl fun b33 w34 S35 => ?_
  refine T_storeFS 0 S35 (fun _ _ => trivial) rfl rfl rfl rfl rfl rfl rfl rfl rfl (by first | rfl | simp [hVs, *]) (by first | rfl | simp [hVs, *]) (one_all rfl) fun w36 S37 => ?_
  refine T_pev rfl rfl rfl rfl ?_
  refine T_nil ?_
  refine W_seq ?_
  refine W_region ?_
  refine T_pev rfl rfl rfl rfl ?_
  refine T_pev rfl rfl rfl rfl ?_
  refine T_loadFS 2 S37 rfl rfl rfl rfl rfl rfl rfl rfl rfl (hVs hx) ?_
  refine T_loadFS 1 S37 rfl rfl rfl rfl rfl rfl rfl rfl rfl (hVs hy) ?_
  refine T_pev rfl rfl rfl rfl ?_
  refine T_pev rfl rfl rfl rfl ?_
  refine T_callS rfl rfl g_aumbry_aumbryref07_Break rfl rfl rfl rfl ((breakR_ok S37.le n i hx hy (hr10.mono hl31) (hr17.mono hl31)).mono ?_)
  rintro e w45 ⟨a38, c39, a40, c41, rfl, r42, r43, hB44⟩
  obtain ⟨G47, eG49⟩ : ∃ G, G = F.ext G30 w36.heap.size w45 := ⟨_, rfl⟩
  obtain ⟨hl48, S46⟩ := S37.ext hB44
  rw [← eG49] at hl48 S46 r42 r43
  refine ⟨_, rfl, trivial, ?_⟩
  refine T_pev rfl rfl rfl rfl ?_
  refine T_pev rfl rfl rfl rfl ?_
  refine T_pev rfl rfl rfl rfl ?_
  refine T_allocS S46 (fun _ _ => trivial) rfl rfl rfl rfl rfl rfl rfl fun b50 w51 S52 => ?_
  refine T_storeFS 0 S52 (fun _ _ => trivial) rfl rfl rfl rfl rfl rfl rfl rfl rfl (by first | rfl | simp [hVs, *]) (by first | rfl | simp [hVs, *]) (one_all rfl) fun w53 S54 => ?_
  refine T_pev rfl rfl rfl rfl ?_
  refine T_nil ?_
  refine W_seq ?_
  refine W_seq ?_
  refine W_region ?_
  refine T_pev rfl rfl rfl rfl ?_
  refine T_pev rfl rfl rfl rfl ?_
  refine T_bne rfl rfl rfl rfl rfl rfl rfl ?_
  refine T_pev rfl rfl rfl rfl ?_
  refine T_bool 49 false rfl (ndec_f rfl) ?_
  refine T_yes rfl rfl rfl ?_ rfl
  refine T_fldm 0 rfl rfl rfl rfl rfl rfl (by decide) rfl rfl rfl ?_
  refine T_yes rfl rfl rfl ?_ rfl
  refine T_loadS 1 0 S54 rfl rfl rfl rfl rfl rfl rfl rfl rfl rfl ?_
  refine T_yes rfl rfl rfl ?_ rfl
  refine T_fldm 0 rfl rfl rfl rfl rfl rfl (by decide) rfl rfl rfl ?_
  refine T_yes rfl rfl rfl ?_ rfl
  refine T_loadS 0 0 S54 rfl rfl rfl rfl rfl rfl rfl rfl rfl rfl ?_
  refine T_yes rfl rfl rfl ?_ rfl
  have hbd := brk_bd (n := n) (i := i) hx hy ((hr10.mono (hl31.trans hl48))).1 ((hr17.mono (hl31.trans hl48))).1
  refine T_callS rfl rfl g_aumbry_aumbrykeep_Same_byte rfl rfl rfl rfl ((sameB_ok S54.le (r25.mono hl48) r42 (by first | omega | (simp; done) | (simp only [List.length_take, List.length_drop]; omega))).mono ?_)
  rintro e w56 ⟨rfl, hB55⟩
  have S57 := S54.call hB55
  refine ⟨_, rfl, trivial, ?_⟩
  refine T_yes rfl rfl rfl ?_ rfl
  refine T_pev rfl rfl rfl rfl ?_
  refine T_pev rfl rfl rfl rfl ?_
  refine T_pev rfl rfl rfl rfl ?_
  refine T_bool 57 false rfl (ndec_f rfl) ?_
  refine T_yes rfl rfl rfl ?_ rfl
  refine T_fldm 1 rfl rfl rfl rfl rfl rfl (by decide) rfl rfl rfl ?_
  refine T_yes rfl rfl rfl ?_ rfl
  refine T_loadS 1 1 S57 rfl rfl rfl rfl rfl rfl rfl rfl rfl rfl ?_
  refine T_yes rfl rfl rfl ?_ rfl
  refine T_fldm 1 rfl rfl rfl rfl rfl rfl (by decide) rfl rfl rfl ?_
  refine T_yes rfl rfl rfl ?_ rfl
  refine T_loadS 0 1 S57 rfl rfl rfl rfl rfl rfl rfl rfl rfl rfl ?_
  refine T_yes rfl rfl rfl ?_ rfl
  refine T_callS rfl rfl g_aumbry_aumbrykeep_Same_byte rfl rfl rfl rfl ((sameB_ok S57.le (r26.mono hl48) r43 (by first | omega | (simp; done) | (simp only [List.length_take, List.length_drop]; omega))).mono ?_)
  rintro e w59 ⟨rfl, hB58⟩
  have S60 := S57.call hB58
  refine ⟨_, rfl, trivial, ?_⟩
  refine T_yes rfl rfl rfl ?_ rfl
  refine T_pev rfl rfl rfl rfl ?_
  refine T_pev rfl rfl rfl rfl ?_
  refine T_pev rfl rfl rfl rfl ?_
  refine T_bool 65 false rfl (ndec_f rfl) ?_
  refine T_yes rfl rfl rfl ?_ rfl
  refine T_pev rfl rfl rfl rfl ?_
  refine T_yes rfl rfl rfl ?_ rfl
  refine T_pev rfl rfl rfl rfl ?_
  refine T_part (t := 67) rfl (List.cons_ne_nil _ _) (fun h61' => ?_) (fun h61' => ?_)
  · have h61 := h61'
    refine T_yes rfl rfl rfl ?_ rfl
    refine T_loadFS 1 S60 rfl rfl rfl rfl rfl rfl rfl rfl rfl (by first | rfl | simp [hVs, *]) ?_
    refine T_yes rfl rfl rfl ?_ rfl
    refine T_callS rfl rfl g_aumbry_aumbryref01_Same rfl rfl rfl rfl ((isbrR_ok S60.le (r25.mono hl48) (r26.mono hl48) hbd.1 hbd.2).mono ?_)
    rintro e w63 ⟨rfl, hB62⟩
    have S64 := S60.call hB62
    refine ⟨_, rfl, trivial, ?_⟩
    refine T_yes rfl rfl rfl ?_ rfl
    refine T_pev rfl rfl rfl rfl ?_
    refine T_yes rfl rfl rfl ?_ rfl
    refine T_pev rfl rfl rfl rfl ?_
    refine T_pev rfl rfl rfl rfl ?_
    refine T_nil ?_
    refine W_bool 72 false rfl (brk_isbr hx hy ((hr10.mono (hl31.trans hl48))).1 ((hr17.mono (hl31.trans hl48))).1 h61) ?_
    refine W_cond_false rfl ?_
    refine W_skip ?_
    refine W_seq ?_
    refine W_region ?_
    refine T_pev rfl rfl rfl rfl ?_
    refine T_pev rfl rfl rfl rfl ?_
    refine T_loadFS 3 S64 rfl rfl rfl rfl rfl rfl rfl rfl rfl (hVs hx) ?_
    refine T_pev rfl rfl rfl rfl ?_
    refine T_callS rfl rfl g_aumbry_aumbryref07_Climb rfl rfl rfl rfl ((climbR_ok S64.le n i hx (hr10.mono (hl31.trans hl48))).mono ?_)
    rintro e w66 ⟨rfl, hB65⟩
    have S67 := S64.call hB65
    refine ⟨_, rfl, trivial, ?_⟩
    refine T_pev rfl rfl rfl rfl ?_
    refine T_pev rfl rfl rfl rfl ?_
    refine T_pev rfl rfl rfl rfl ?_
    refine T_allocS S67 (fun _ _ => trivial) rfl rfl rfl rfl rfl rfl rfl fun b68 w69 S70 => ?_
    refine T_storeFS 0 S70 (fun _ _ => trivial) rfl rfl rfl rfl rfl rfl rfl rfl rfl (hVs (Go.Au.climbH_len _ _ hx _)) (hVs (Go.Au.climbH_len _ _ hx _)) (one_hA _) fun w71 S72 => ?_
    refine T_pev rfl rfl rfl rfl ?_
    refine T_nil ?_
    refine W_seq ?_
    refine W_region ?_
    refine T_pev rfl rfl rfl rfl ?_
    refine T_pev rfl rfl rfl rfl ?_
    refine T_loadFS 3 S72 rfl rfl rfl rfl rfl rfl rfl rfl rfl (hVs hy) ?_
    refine T_pev rfl rfl rfl rfl ?_
    refine T_callS rfl rfl g_aumbry_aumbryref07_Climb rfl rfl rfl rfl ((climbR_ok S72.le n i hy (hr17.mono (hl31.trans hl48))).mono ?_)
    rintro e w74 ⟨rfl, hB73⟩
    have S75 := S72.call hB73
    refine ⟨_, rfl, trivial, ?_⟩
    refine T_pev rfl rfl rfl rfl ?_
    refine T_pev rfl rfl rfl rfl ?_
    refine T_pev rfl rfl rfl rfl ?_
    refine T_allocS S75 (fun _ _ => trivial) rfl rfl rfl rfl rfl rfl rfl fun b76 w77 S78 => ?_
    refine T_storeFS 0 S78 (fun _ _ => trivial) rfl rfl rfl rfl rfl rfl rfl rfl rfl (hVs (Go.Au.climbH_len _ _ hy _)) (hVs (Go.Au.climbH_len _ _ hy _)) (one_hA _) fun w79 S80 => ?_
    refine T_pev rfl rfl rfl rfl ?_
    refine T_nil ?_
    refine W_seq ?_
    refine W_region ?_
    refine T_pev rfl rfl rfl rfl ?_
    refine T_pev rfl rfl rfl rfl ?_
    refine T_part (t := 90) rfl (List.cons_ne_nil _ _) (fun h81' => ?_) (fun h81' => ?_)
    · have h81 := h81'
      refine T_yes rfl rfl rfl ?_ rfl
      refine T_pev rfl rfl rfl rfl ?_
      refine T_pev rfl rfl rfl rfl ?_
      refine T_pev rfl rfl rfl rfl ?_
      refine T_part (t := 93) rfl (List.cons_ne_nil _ _) (fun h82' => ?_) (fun h82' => ?_)
      · have h82 := h82'
        refine T_yes rfl rfl rfl ?_ rfl
        refine T_loadFS 1 S80 rfl rfl rfl rfl rfl rfl rfl rfl rfl (hVs (Go.Au.climbH_len _ _ hx _)) ?_
        refine T_yes rfl rfl rfl ?_ rfl
        refine T_loadFS 0 S80 rfl rfl rfl rfl rfl rfl rfl rfl rfl (hVs (Go.Au.climbH_len _ _ hy _)) ?_
        refine T_yes rfl rfl rfl ?_ rfl
        refine T_eqB (xs := Go.Au.climbH n i x (p.take 8)) (ys := Go.Au.climbH n i y (q.take 8)) rfl rfl rfl rfl rfl rfl rfl rfl rfl rfl rfl (Go.Au.climbH_len _ _ hx _) (Go.Au.climbH_len _ _ hy _) ?_
        refine T_pev rfl rfl rfl rfl ?_
        refine T_pev rfl rfl rfl rfl ?_
        refine T_part (t := 98) rfl (List.cons_ne_nil _ _) (fun h83' => ?_) (fun h83' => ?_)
        · have h83 := of_decide_eq_true h83'
          refine T_yes rfl rfl rfl ?_ rfl
          refine T_loadFS 5 S80 rfl rfl rfl rfl rfl rfl rfl rfl rfl (hVs hx) ?_
          refine T_yes rfl rfl rfl ?_ rfl
          refine T_loadFS 4 S80 rfl rfl rfl rfl rfl rfl rfl rfl rfl (hVs hy) ?_
          refine T_yes rfl rfl rfl ?_ rfl
          refine T_neB (xs := x) (ys := y) rfl rfl rfl rfl rfl rfl rfl rfl rfl rfl rfl hx hy ?_
          refine T_yes rfl rfl rfl ?_ rfl
          refine T_pev rfl rfl rfl rfl ?_
          refine T_part (t := 102) rfl (List.cons_ne_nil _ _) (fun h84' => ?_) (fun h84' => ?_)
          · have h84 := of_ndec_t h84'
            refine T_no rfl rfl rfl rfl rfl rfl ?_
            refine T_no rfl rfl rfl rfl rfl rfl ?_
            refine T_no rfl rfl rfl rfl rfl rfl ?_
            refine T_no rfl rfl rfl rfl rfl rfl ?_
            refine T_yes rfl rfl rfl ?_ rfl
            refine T_pev rfl rfl rfl rfl ?_
            refine T_pev rfl rfl rfl rfl ?_
            refine T_pev rfl rfl rfl rfl ?_
            refine T_nil ?_
            refine W_seq ?_
            refine W_region ?_
            refine T_pev rfl rfl rfl rfl ?_
            refine T_pev rfl rfl rfl rfl ?_
            refine T_beq rfl rfl rfl rfl rfl rfl rfl ?_
            refine T_pev rfl rfl rfl rfl ?_
            refine T_bool 112 true rfl (decide_eq_true (brk_m4 hx hy ((hr10.mono (hl31.trans hl48))).1 ((hr17.mono (hl31.trans hl48))).1 h81 h82 h83 h84)) ?_
            refine T_yes rfl rfl rfl ?_ rfl
            refine T_callS rfl rfl g_aumbry_aumbrylaw07_wakes rfl rfl rfl rfl ((wakes_ok S80.le (hT.mono (hl31.trans hl48))).mono ?_)
            rintro e w86 ⟨rfl, hB85⟩
            have S87 := S80.call hB85
            refine ⟨_, rfl, trivial, ?_⟩
            refine T_pev rfl rfl rfl rfl ?_
            refine T_pev rfl rfl rfl rfl ?_
            refine T_nil ?_
            refine W_ret ?_
            refine ⟨_, ⟨_, _, rfl, rfl, rfl⟩, ?_⟩
            exact ⟨rfl, S87.below⟩
          have h84 := of_ndec_f h84'
          refine T_yes rfl rfl rfl ?_ rfl
          refine T_pev rfl rfl rfl rfl ?_
          refine T_yes rfl rfl rfl ?_ rfl
          refine T_pev rfl rfl rfl rfl ?_
          refine T_yes rfl rfl rfl ?_ rfl
          refine T_callS rfl rfl g_aumbry_aumbrykeep_Same_aumbry_api_Hash rfl rfl rfl rfl ((sameH_ok S80.le (hr10.mono (hl31.trans hl48)) (hr17.mono (hl31.trans hl48)) (by first | omega | (simp; done) | (simp only [List.length_take, List.length_drop]; omega))).mono ?_)
          rintro e w89 ⟨rfl, hB88⟩
          have S90 := S80.call hB88
          refine ⟨_, rfl, trivial, ?_⟩
          refine T_yes rfl rfl rfl ?_ rfl
          refine T_pev rfl rfl rfl rfl ?_
          refine T_yes rfl rfl rfl ?_ rfl
          refine T_pev rfl rfl rfl rfl ?_
          refine T_pev rfl rfl rfl rfl ?_
          refine T_pev rfl rfl rfl rfl ?_
          refine T_nil ?_
          refine W_seq ?_
          refine W_region ?_
          refine T_pev rfl rfl rfl rfl ?_
          refine T_pev rfl rfl rfl rfl ?_
          refine T_beq rfl rfl rfl rfl rfl rfl rfl ?_
          refine T_pev rfl rfl rfl rfl ?_
          refine T_bool 112 true rfl (decide_eq_true (brk_m5 hx hy ((hr10.mono (hl31.trans hl48))).1 ((hr17.mono (hl31.trans hl48))).1 h81 h82 h83 h84)) ?_
          refine T_yes rfl rfl rfl ?_ rfl
          refine T_callS rfl rfl g_aumbry_aumbrylaw07_wakes rfl rfl rfl rfl ((wakes_ok S90.le (hT.mono (hl31.trans hl48))).mono ?_)
          rintro e w92 ⟨rfl, hB91⟩
          have S93 := S90.call hB91
          refine ⟨_, rfl, trivial, ?_⟩
          refine T_pev rfl rfl rfl rfl ?_
          refine T_pev rfl rfl rfl rfl ?_
          refine T_nil ?_
          refine W_ret ?_
          refine ⟨_, ⟨_, _, rfl, rfl, rfl⟩, ?_⟩
          exact ⟨rfl, S93.below⟩
        have h83 := of_decide_eq_false h83'
        refine T_no rfl rfl rfl rfl rfl rfl ?_
        refine T_no rfl rfl rfl rfl rfl rfl ?_
        refine T_no rfl rfl rfl rfl rfl rfl ?_
        refine T_no rfl rfl rfl rfl rfl rfl ?_
        refine T_un rfl rfl rfl rfl rfl ?_
        refine T_un rfl rfl rfl rfl rfl ?_
        refine T_un rfl rfl rfl rfl rfl ?_
        refine T_un rfl rfl rfl rfl rfl ?_
        refine T_no rfl rfl rfl rfl rfl rfl ?_
        refine T_pev rfl rfl rfl rfl ?_
        refine T_pev rfl rfl rfl rfl ?_
        refine T_nil ?_
        refine W_seq ?_
        refine W_region ?_
        refine T_pev rfl rfl rfl rfl ?_
        refine T_pev rfl rfl rfl rfl ?_
        refine T_beq rfl rfl rfl rfl rfl rfl rfl ?_
        refine T_pev rfl rfl rfl rfl ?_
        refine T_bool 112 true rfl (decide_eq_true (brk_m3 h83)) ?_
        refine T_yes rfl rfl rfl ?_ rfl
        refine T_callS rfl rfl g_aumbry_aumbrylaw07_wakes rfl rfl rfl rfl ((wakes_ok S80.le (hT.mono (hl31.trans hl48))).mono ?_)
        rintro e w95 ⟨rfl, hB94⟩
        have S96 := S80.call hB94
        refine ⟨_, rfl, trivial, ?_⟩
        refine T_pev rfl rfl rfl rfl ?_
        refine T_pev rfl rfl rfl rfl ?_
        refine T_nil ?_
        refine W_ret ?_
        refine ⟨_, ⟨_, _, rfl, rfl, rfl⟩, ?_⟩
        exact ⟨rfl, S96.below⟩
      have h82 := h82'
      refine T_no rfl rfl rfl rfl rfl rfl ?_
      refine T_no rfl rfl rfl rfl rfl rfl ?_
      refine T_no rfl rfl rfl rfl rfl rfl ?_
      refine T_pev rfl rfl rfl rfl ?_
      refine T_pev rfl rfl rfl rfl ?_
      refine T_no rfl rfl rfl rfl rfl rfl ?_
      refine T_no rfl rfl rfl rfl rfl rfl ?_
      refine T_no rfl rfl rfl rfl rfl rfl ?_
      refine T_no rfl rfl rfl rfl rfl rfl ?_
      refine T_un rfl rfl rfl rfl rfl ?_
      refine T_un rfl rfl rfl rfl rfl ?_
      refine T_un rfl rfl rfl rfl rfl ?_
      refine T_un rfl rfl rfl rfl rfl ?_
      refine T_no rfl rfl rfl rfl rfl rfl ?_
      refine T_pev rfl rfl rfl rfl ?_
      refine T_pev rfl rfl rfl rfl ?_
      refine T_nil ?_
      refine W_seq ?_
      refine W_region ?_
      refine T_pev rfl rfl rfl rfl ?_
      refine T_pev rfl rfl rfl rfl ?_
      refine T_beq rfl rfl rfl rfl rfl rfl rfl ?_
      refine T_pev rfl rfl rfl rfl ?_
      refine T_bool 112 true rfl (decide_eq_true (brk_m2 h82)) ?_
      refine T_yes rfl rfl rfl ?_ rfl
      refine T_callS rfl rfl g_aumbry_aumbrylaw07_wakes rfl rfl rfl rfl ((wakes_ok S80.le (hT.mono (hl31.trans hl48))).mono ?_)
      rintro e w98 ⟨rfl, hB97⟩
      have S99 := S80.call hB97
      refine ⟨_, rfl, trivial, ?_⟩
      refine T_pev rfl rfl rfl rfl ?_
      refine T_pev rfl rfl rfl rfl ?_
      refine T_nil ?_
      refine W_ret ?_
      refine ⟨_, ⟨_, _, rfl, rfl, rfl⟩, ?_⟩
      exact ⟨rfl, S99.below⟩
    have h81 := h81'
    refine T_no rfl rfl rfl rfl rfl rfl ?_
    refine T_pev rfl rfl rfl rfl ?_
    refine T_pev rfl rfl rfl rfl ?_
    refine T_no rfl rfl rfl rfl rfl rfl ?_
    refine T_no rfl rfl rfl rfl rfl rfl ?_
    refine T_no rfl rfl rfl rfl rfl rfl ?_
    refine T_pev rfl rfl rfl rfl ?_
    refine T_pev rfl rfl rfl rfl ?_
    refine T_no rfl rfl rfl rfl rfl rfl ?_
    refine T_no rfl rfl rfl rfl rfl rfl ?_
    refine T_no rfl rfl rfl rfl rfl rfl ?_
    refine T_no rfl rfl rfl rfl rfl rfl ?_
    refine T_un rfl rfl rfl rfl rfl ?_
    refine T_un rfl rfl rfl rfl rfl ?_
    refine T_un rfl rfl rfl rfl rfl ?_
    refine T_un rfl rfl rfl rfl rfl ?_
    refine T_no rfl rfl rfl rfl rfl rfl ?_
    refine T_pev rfl rfl rfl rfl ?_
    refine T_pev rfl rfl rfl rfl ?_
    refine T_nil ?_
    refine W_seq ?_
    refine W_region ?_
    refine T_pev rfl rfl rfl rfl ?_
    refine T_pev rfl rfl rfl rfl ?_
    refine T_beq rfl rfl rfl rfl rfl rfl rfl ?_
    refine T_pev rfl rfl rfl rfl ?_
    refine T_bool 112 true rfl (decide_eq_true (brk_m1 h81)) ?_
    refine T_yes rfl rfl rfl ?_ rfl
    refine T_callS rfl rfl g_aumbry_aumbrylaw07_wakes rfl rfl rfl rfl ((wakes_ok S80.le (hT.mono (hl31.trans hl48))).mono ?_)
    rintro e w101 ⟨rfl, hB100⟩
    have S102 := S80.call hB100
    refine ⟨_, rfl, trivial, ?_⟩
    refine T_pev rfl rfl rfl rfl ?_
    refine T_pev rfl rfl rfl rfl ?_
    refine T_nil ?_
    refine W_ret ?_
    refine ⟨_, ⟨_, _, rfl, rfl, rfl⟩, ?_⟩
    exact ⟨rfl, S102.below⟩
  have h61 := h61'
  refine T_no rfl rfl rfl rfl rfl rfl ?_
  refine T_no rfl rfl rfl rfl rfl rfl ?_
  refine T_no rfl rfl rfl rfl rfl rfl ?_
  refine T_yes rfl rfl rfl ?_ rfl
  refine T_pev rfl rfl rfl rfl ?_
  refine T_pev rfl rfl rfl rfl ?_
  refine T_nil ?_
  refine W_cond_false rfl ?_
  refine W_skip ?_
  refine W_seq ?_
  refine W_region ?_
  refine T_pev rfl rfl rfl rfl ?_
  refine T_pev rfl rfl rfl rfl ?_
  refine T_loadFS 3 S60 rfl rfl rfl rfl rfl rfl rfl rfl rfl (hVs hx) ?_
  refine T_pev rfl rfl rfl rfl ?_
  refine T_callS rfl rfl g_aumbry_aumbryref07_Climb rfl rfl rfl rfl ((climbR_ok S60.le n i hx (hr10.mono (hl31.trans hl48))).mono ?_)
  rintro e w104 ⟨rfl, hB103⟩
  have S105 := S60.call hB103
  refine ⟨_, rfl, trivial, ?_⟩
  refine T_pev rfl rfl rfl rfl ?_
  refine T_pev rfl rfl rfl rfl ?_
  refine T_pev rfl rfl rfl rfl ?_
  refine T_allocS S105 (fun _ _ => trivial) rfl rfl rfl rfl rfl rfl rfl fun b106 w107 S108 => ?_
  refine T_storeFS 0 S108 (fun _ _ => trivial) rfl rfl rfl rfl rfl rfl rfl rfl rfl (hVs (Go.Au.climbH_len _ _ hx _)) (hVs (Go.Au.climbH_len _ _ hx _)) (one_hA _) fun w109 S110 => ?_
  refine T_pev rfl rfl rfl rfl ?_
  refine T_nil ?_
  refine W_seq ?_
  refine W_region ?_
  refine T_pev rfl rfl rfl rfl ?_
  refine T_pev rfl rfl rfl rfl ?_
  refine T_loadFS 3 S110 rfl rfl rfl rfl rfl rfl rfl rfl rfl (hVs hy) ?_
  refine T_pev rfl rfl rfl rfl ?_
  refine T_callS rfl rfl g_aumbry_aumbryref07_Climb rfl rfl rfl rfl ((climbR_ok S110.le n i hy (hr17.mono (hl31.trans hl48))).mono ?_)
  rintro e w112 ⟨rfl, hB111⟩
  have S113 := S110.call hB111
  refine ⟨_, rfl, trivial, ?_⟩
  refine T_pev rfl rfl rfl rfl ?_
  refine T_pev rfl rfl rfl rfl ?_
  refine T_pev rfl rfl rfl rfl ?_
  refine T_allocS S113 (fun _ _ => trivial) rfl rfl rfl rfl rfl rfl rfl fun b114 w115 S116 => ?_
  refine T_storeFS 0 S116 (fun _ _ => trivial) rfl rfl rfl rfl rfl rfl rfl rfl rfl (hVs (Go.Au.climbH_len _ _ hy _)) (hVs (Go.Au.climbH_len _ _ hy _)) (one_hA _) fun w117 S118 => ?_
  refine T_pev rfl rfl rfl rfl ?_
  refine T_nil ?_
  refine W_seq ?_
  refine W_region ?_
  refine T_pev rfl rfl rfl rfl ?_
  refine T_pev rfl rfl rfl rfl ?_
  refine T_part (t := 90) rfl (List.cons_ne_nil _ _) (fun h119' => ?_) (fun h119' => ?_)
  · have h119 := h119'
    refine T_yes rfl rfl rfl ?_ rfl
    refine T_pev rfl rfl rfl rfl ?_
    refine T_pev rfl rfl rfl rfl ?_
    refine T_pev rfl rfl rfl rfl ?_
    refine T_part (t := 93) rfl (List.cons_ne_nil _ _) (fun h120' => ?_) (fun h120' => ?_)
    · have h120 := h120'
      refine T_yes rfl rfl rfl ?_ rfl
      refine T_loadFS 1 S118 rfl rfl rfl rfl rfl rfl rfl rfl rfl (hVs (Go.Au.climbH_len _ _ hx _)) ?_
      refine T_yes rfl rfl rfl ?_ rfl
      refine T_loadFS 0 S118 rfl rfl rfl rfl rfl rfl rfl rfl rfl (hVs (Go.Au.climbH_len _ _ hy _)) ?_
      refine T_yes rfl rfl rfl ?_ rfl
      refine T_eqB (xs := Go.Au.climbH n i x (p.take 8)) (ys := Go.Au.climbH n i y (q.take 8)) rfl rfl rfl rfl rfl rfl rfl rfl rfl rfl rfl (Go.Au.climbH_len _ _ hx _) (Go.Au.climbH_len _ _ hy _) ?_
      refine T_pev rfl rfl rfl rfl ?_
      refine T_pev rfl rfl rfl rfl ?_
      refine T_part (t := 98) rfl (List.cons_ne_nil _ _) (fun h121' => ?_) (fun h121' => ?_)
      · have h121 := of_decide_eq_true h121'
        refine T_yes rfl rfl rfl ?_ rfl
        refine T_loadFS 5 S118 rfl rfl rfl rfl rfl rfl rfl rfl rfl (hVs hx) ?_
        refine T_yes rfl rfl rfl ?_ rfl
        refine T_loadFS 4 S118 rfl rfl rfl rfl rfl rfl rfl rfl rfl (hVs hy) ?_
        refine T_yes rfl rfl rfl ?_ rfl
        refine T_neB (xs := x) (ys := y) rfl rfl rfl rfl rfl rfl rfl rfl rfl rfl rfl hx hy ?_
        refine T_yes rfl rfl rfl ?_ rfl
        refine T_pev rfl rfl rfl rfl ?_
        refine T_part (t := 102) rfl (List.cons_ne_nil _ _) (fun h122' => ?_) (fun h122' => ?_)
        · have h122 := of_ndec_t h122'
          refine T_no rfl rfl rfl rfl rfl rfl ?_
          refine T_no rfl rfl rfl rfl rfl rfl ?_
          refine T_no rfl rfl rfl rfl rfl rfl ?_
          refine T_no rfl rfl rfl rfl rfl rfl ?_
          refine T_yes rfl rfl rfl ?_ rfl
          refine T_pev rfl rfl rfl rfl ?_
          refine T_pev rfl rfl rfl rfl ?_
          refine T_pev rfl rfl rfl rfl ?_
          refine T_nil ?_
          refine W_seq ?_
          refine W_region ?_
          refine T_pev rfl rfl rfl rfl ?_
          refine T_pev rfl rfl rfl rfl ?_
          refine T_beq rfl rfl rfl rfl rfl rfl rfl ?_
          refine T_pev rfl rfl rfl rfl ?_
          refine T_bool 112 true rfl (decide_eq_true (brk_m4 hx hy ((hr10.mono (hl31.trans hl48))).1 ((hr17.mono (hl31.trans hl48))).1 h119 h120 h121 h122)) ?_
          refine T_yes rfl rfl rfl ?_ rfl
          refine T_callS rfl rfl g_aumbry_aumbrylaw07_wakes rfl rfl rfl rfl ((wakes_ok S118.le (hT.mono (hl31.trans hl48))).mono ?_)
          rintro e w124 ⟨rfl, hB123⟩
          have S125 := S118.call hB123
          refine ⟨_, rfl, trivial, ?_⟩
          refine T_pev rfl rfl rfl rfl ?_
          refine T_pev rfl rfl rfl rfl ?_
          refine T_nil ?_
          refine W_ret ?_
          refine ⟨_, ⟨_, _, rfl, rfl, rfl⟩, ?_⟩
          exact ⟨rfl, S125.below⟩
        have h122 := of_ndec_f h122'
        refine T_yes rfl rfl rfl ?_ rfl
        refine T_pev rfl rfl rfl rfl ?_
        refine T_yes rfl rfl rfl ?_ rfl
        refine T_pev rfl rfl rfl rfl ?_
        refine T_yes rfl rfl rfl ?_ rfl
        refine T_callS rfl rfl g_aumbry_aumbrykeep_Same_aumbry_api_Hash rfl rfl rfl rfl ((sameH_ok S118.le (hr10.mono (hl31.trans hl48)) (hr17.mono (hl31.trans hl48)) (by first | omega | (simp; done) | (simp only [List.length_take, List.length_drop]; omega))).mono ?_)
        rintro e w127 ⟨rfl, hB126⟩
        have S128 := S118.call hB126
        refine ⟨_, rfl, trivial, ?_⟩
        refine T_yes rfl rfl rfl ?_ rfl
        refine T_pev rfl rfl rfl rfl ?_
        refine T_yes rfl rfl rfl ?_ rfl
        refine T_pev rfl rfl rfl rfl ?_
        refine T_pev rfl rfl rfl rfl ?_
        refine T_pev rfl rfl rfl rfl ?_
        refine T_nil ?_
        refine W_seq ?_
        refine W_region ?_
        refine T_pev rfl rfl rfl rfl ?_
        refine T_pev rfl rfl rfl rfl ?_
        refine T_beq rfl rfl rfl rfl rfl rfl rfl ?_
        refine T_pev rfl rfl rfl rfl ?_
        refine T_bool 112 true rfl (decide_eq_true (brk_m5 hx hy ((hr10.mono (hl31.trans hl48))).1 ((hr17.mono (hl31.trans hl48))).1 h119 h120 h121 h122)) ?_
        refine T_yes rfl rfl rfl ?_ rfl
        refine T_callS rfl rfl g_aumbry_aumbrylaw07_wakes rfl rfl rfl rfl ((wakes_ok S128.le (hT.mono (hl31.trans hl48))).mono ?_)
        rintro e w130 ⟨rfl, hB129⟩
        have S131 := S128.call hB129
        refine ⟨_, rfl, trivial, ?_⟩
        refine T_pev rfl rfl rfl rfl ?_
        refine T_pev rfl rfl rfl rfl ?_
        refine T_nil ?_
        refine W_ret ?_
        refine ⟨_, ⟨_, _, rfl, rfl, rfl⟩, ?_⟩
        exact ⟨rfl, S131.below⟩
      have h121 := of_decide_eq_false h121'
      refine T_no rfl rfl rfl rfl rfl rfl ?_
      refine T_no rfl rfl rfl rfl rfl rfl ?_
      refine T_no rfl rfl rfl rfl rfl rfl ?_
      refine T_no rfl rfl rfl rfl rfl rfl ?_
      refine T_un rfl rfl rfl rfl rfl ?_
      refine T_un rfl rfl rfl rfl rfl ?_
      refine T_un rfl rfl rfl rfl rfl ?_
      refine T_un rfl rfl rfl rfl rfl ?_
      refine T_no rfl rfl rfl rfl rfl rfl ?_
      refine T_pev rfl rfl rfl rfl ?_
      refine T_pev rfl rfl rfl rfl ?_
      refine T_nil ?_
      refine W_seq ?_
      refine W_region ?_
      refine T_pev rfl rfl rfl rfl ?_
      refine T_pev rfl rfl rfl rfl ?_
      refine T_beq rfl rfl rfl rfl rfl rfl rfl ?_
      refine T_pev rfl rfl rfl rfl ?_
      refine T_bool 112 true rfl (decide_eq_true (brk_m3 h121)) ?_
      refine T_yes rfl rfl rfl ?_ rfl
      refine T_callS rfl rfl g_aumbry_aumbrylaw07_wakes rfl rfl rfl rfl ((wakes_ok S118.le (hT.mono (hl31.trans hl48))).mono ?_)
      rintro e w133 ⟨rfl, hB132⟩
      have S134 := S118.call hB132
      refine ⟨_, rfl, trivial, ?_⟩
      refine T_pev rfl rfl rfl rfl ?_
      refine T_pev rfl rfl rfl rfl ?_
      refine T_nil ?_
      refine W_ret ?_
      refine ⟨_, ⟨_, _, rfl, rfl, rfl⟩, ?_⟩
      exact ⟨rfl, S134.below⟩
    have h120 := h120'
    refine T_no rfl rfl rfl rfl rfl rfl ?_
    refine T_no rfl rfl rfl rfl rfl rfl ?_
    refine T_no rfl rfl rfl rfl rfl rfl ?_
    refine T_pev rfl rfl rfl rfl ?_
    refine T_pev rfl rfl rfl rfl ?_
    refine T_no rfl rfl rfl rfl rfl rfl ?_
    refine T_no rfl rfl rfl rfl rfl rfl ?_
    refine T_no rfl rfl rfl rfl rfl rfl ?_
    refine T_no rfl rfl rfl rfl rfl rfl ?_
    refine T_un rfl rfl rfl rfl rfl ?_
    refine T_un rfl rfl rfl rfl rfl ?_
    refine T_un rfl rfl rfl rfl rfl ?_
    refine T_un rfl rfl rfl rfl rfl ?_
    refine T_no rfl rfl rfl rfl rfl rfl ?_
    refine T_pev rfl rfl rfl rfl ?_
    refine T_pev rfl rfl rfl rfl ?_
    refine T_nil ?_
    refine W_seq ?_
    refine W_region ?_
    refine T_pev rfl rfl rfl rfl ?_
    refine T_pev rfl rfl rfl rfl ?_
    refine T_beq rfl rfl rfl rfl rfl rfl rfl ?_
    refine T_pev rfl rfl rfl rfl ?_
    refine T_bool 112 true rfl (decide_eq_true (brk_m2 h120)) ?_
    refine T_yes rfl rfl rfl ?_ rfl
    refine T_callS rfl rfl g_aumbry_aumbrylaw07_wakes rfl rfl rfl rfl ((wakes_ok S118.le (hT.mono (hl31.trans hl48))).mono ?_)
    rintro e w136 ⟨rfl, hB135⟩
    have S137 := S118.call hB135
    refine ⟨_, rfl, trivial, ?_⟩
    refine T_pev rfl rfl rfl rfl ?_
    refine T_pev rfl rfl rfl rfl ?_
    refine T_nil ?_
    refine W_ret ?_
    refine ⟨_, ⟨_, _, rfl, rfl, rfl⟩, ?_⟩
    exact ⟨rfl, S137.below⟩
  have h119 := h119'
  refine T_no rfl rfl rfl rfl rfl rfl ?_
  refine T_pev rfl rfl rfl rfl ?_
  refine T_pev rfl rfl rfl rfl ?_
  refine T_no rfl rfl rfl rfl rfl rfl ?_
  refine T_no rfl rfl rfl rfl rfl rfl ?_
  refine T_no rfl rfl rfl rfl rfl rfl ?_
  refine T_pev rfl rfl rfl rfl ?_
  refine T_pev rfl rfl rfl rfl ?_
  refine T_no rfl rfl rfl rfl rfl rfl ?_
  refine T_no rfl rfl rfl rfl rfl rfl ?_
  refine T_no rfl rfl rfl rfl rfl rfl ?_
  refine T_no rfl rfl rfl rfl rfl rfl ?_
  refine T_un rfl rfl rfl rfl rfl ?_
  refine T_un rfl rfl rfl rfl rfl ?_
  refine T_un rfl rfl rfl rfl rfl ?_
  refine T_un rfl rfl rfl rfl rfl ?_
  refine T_no rfl rfl rfl rfl rfl rfl ?_
  refine T_pev rfl rfl rfl rfl ?_
  refine T_pev rfl rfl rfl rfl ?_
  refine T_nil ?_
  refine W_seq ?_
  refine W_region ?_
  refine T_pev rfl rfl rfl rfl ?_
  refine T_pev rfl rfl rfl rfl ?_
  refine T_beq rfl rfl rfl rfl rfl rfl rfl ?_
  refine T_pev rfl rfl rfl rfl ?_
  refine T_bool 112 true rfl (decide_eq_true (brk_m1 h119)) ?_
  refine T_yes rfl rfl rfl ?_ rfl
  refine T_callS rfl rfl g_aumbry_aumbrylaw07_wakes rfl rfl rfl rfl ((wakes_ok S118.le (hT.mono (hl31.trans hl48))).mono ?_)
  rintro e w139 ⟨rfl, hB138⟩
  have S140 := S118.call hB138
  refine ⟨_, rfl, trivial, ?_⟩
  refine T_pev rfl rfl rfl rfl ?_
  refine T_pev rfl rfl rfl rfl ?_
  refine T_nil ?_
  refine W_ret ?_
  refine ⟨_, ⟨_, _, rfl, rfl, rfl⟩, ?_⟩
  exact ⟨rfl, S140.below⟩

end Go.Proofs.YtadiakpbodlecaaDoor
