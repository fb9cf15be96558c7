/- The statements of chapter 9, walked: any signature at all. -/
import Derived.Test.YtbkdncmjfhbafaaDoorLaw09c
import Derived.Test.YtbkdncmjfhbafaaDoorMssE
set_option linter.unusedVariables false
set_option linter.unusedSimpArgs false
set_option maxRecDepth 8192
namespace Go.Proofs.YtbkdncmjfhbafaaDoor
open Go Go.F Go.RowKit

set_option maxHeartbeats 2000000 in
theorem mssRaw_y {H : Hp} {w : World} (hH : H.le (hw w)) (hT : Tabs H) {fp : List UInt8} (hf : fp.length = 32) {m : List UInt8} {aa1 : Option Addr} {nn1 cc1 : Nat} (hv : Rd H (.slice aa1 nn1 cc1) nn1 1 (m.map bV)) (sh sl : Int) {v p : List (List UInt8)} {a1 a2 : Option Addr} {n1 n2 c1 c2 : Nat} (h1 : RdH H (.slice a1 n1 c1) 32 v) (h2 : RdH H (.slice a2 n2 c2) 32 p) {b : List UInt8} {aa3 : Option Addr} {nn3 cc3 : Nat} (hu : Rd H (.slice aa3 nn3 cc3) nn3 1 (b.map bV)) (hsh : sh ≤ 9223372036854775807) (hsl : sl ≤ 9223372036854775807) (hok : Go.Au.okU (b.take 2400)) :
    Calls Tryd.prog 9 #[hV fp, .slice aa1 nn1 cc1, .agg #[.int .i64 sh, .int .i64 sl, .slice a1 n1 c1, .slice a2 n2 c2], .slice aa3 nn3 cc3] w fun e w' => e = .returned (.bool true) ∧ Below w.heap.size w w' := by
  obtain rfl : nn1 = m.length := hv.lenB
  have hvcap : m.length ≤ cc1 := hv.capOf
  obtain rfl : nn3 = b.length := hu.lenB
  have hucap : b.length ≤ cc3 := hu.capOf
  obtain rfl : n1 = v.length := h1.len
  obtain rfl : n2 = p.length := h2.len
  have hm40 : (m.take 40).length ≤ 40 := by rw [List.length_take]; omega
  have hb24 : (b.take 2400).length ≤ 2400 := by rw [List.length_take]; omega
  have hv70 : (v.take 70).length ≤ 70 := by rw [List.length_take]; omega
  have hp6 : (p.take 6).length ≤ 6 := by rw [List.length_take]; omega
  have hpkl := Go.Au.pack_len (h := sh) (l := sl) (v := (v.take 70)) (p := (p.take 6)) (fun x hx => h1.1 x (List.mem_of_mem_take hx)) (fun x hx => h2.1 x (List.mem_of_mem_take hx))
  refine enter4 _ Tryd.func9 rfl Tryd.ntmps9 Tryd.results9 rfl ?_
  have S0 := St.start w hH
  refine W_seq ?_
  refine W_region ?_
  refine T_boxS S0 (fun _ _ => trivial) rfl rfl rfl rfl rfl rfl fun b1 w2 S3 => ?_
  refine T_boxS S3 (fun _ _ => trivial) rfl rfl rfl rfl rfl rfl fun b4 w5 S6 => ?_
  refine T_pev rfl rfl rfl rfl ?_
  refine T_nil ?_
  refine W_seq ?_
  refine W_region ?_
  refine T_pev rfl rfl rfl rfl ?_
  refine T_callS rfl rfl g_aumbry_aumbrykeep_Cut_byte rfl rfl rfl rfl ((cutB_ok S6.le hv 40).mono ?_)
  rintro e w12 ⟨a7, c8, hc9, rfl, hr10, hB11⟩
  have S13 := S6.call hB11
  refine ⟨_, rfl, trivial, ?_⟩
  refine T_pev rfl rfl rfl rfl ?_
  refine T_nil ?_
  refine W_seq ?_
  refine W_tree (plan Tryd.prog) (.step 0 (.step 1 (.step 3 (.fork 2 4 (.step 4 (.step 5 (.step 6 (.step 7 (.step 8 (.step 9 .done)))))) (.step 2 (.step 5 (.step 6 (.step 7 (.step 8 (.step 9 .done)))))))))) rfl (by kernel_rfl) trivial ?_
  have S14 := S13.drew
  refine TT_step rfl ?_
  refine T_fldm 2 rfl rfl rfl rfl rfl rfl (by decide) rfl rfl rfl ?_
  refine T_nil ?_
  refine TT_step rfl ?_
  refine T_loadS 0 2 S14 rfl rfl rfl rfl rfl rfl rfl rfl rfl rfl ?_
  refine T_nil ?_
  refine TT_step rfl ?_
  refine T_fldm 3 rfl rfl rfl rfl rfl rfl (by decide) rfl rfl rfl ?_
  refine T_nil ?_
  refine TT_fork rfl rfl ?_ ?_
  · refine T_callS rfl rfl g_aumbry_aumbrykeep_Cut_aumbry_api_Hash rfl rfl rfl rfl ((cutH_ok S14.le h1 70).mono ?_)
    rintro e w20 ⟨a15, c16, hc17, rfl, hr18, hB19⟩
    have S21 := S14.call hB19
    refine ⟨_, rfl, trivial, ?_⟩
    refine T_nil ?_
    refine TT_step rfl ?_
    refine T_loadS 0 3 S21 rfl rfl rfl rfl rfl rfl rfl rfl rfl rfl ?_
    refine T_nil ?_
    refine TT_step rfl ?_
    refine T_callS rfl rfl g_aumbry_aumbrykeep_Cut_aumbry_api_Hash rfl rfl rfl rfl ((cutH_ok S21.le h2 6).mono ?_)
    rintro e w27 ⟨a22, c23, hc24, rfl, hr25, hB26⟩
    have S28 := S21.call hB26
    refine ⟨_, rfl, trivial, ?_⟩
    refine T_nil ?_
    refine TT_step rfl ?_
    refine T_fldm 2 rfl rfl rfl rfl rfl rfl (by decide) rfl rfl rfl ?_
    refine T_nil ?_
    refine TT_step rfl ?_
    refine T_store1S 0 2 S28 (fun _ _ => trivial) rfl rfl rfl rfl rfl rfl rfl rfl rfl rfl rfl rfl (show 2 < 4 by decide) fun w29 S30 => ?_
    have hE31 : (.agg #[.int .i64 sh, .int .i64 sl, .slice a1 v.length c1, .slice a2 p.length c2] : Value).cells.setIfInBounds 2 (.slice a15 (v.take 70).length c16) = (.agg #[.int .i64 sh, .int .i64 sl, .slice a15 (v.take 70).length c16, .slice a2 p.length c2] : Value).cells := rfl
    rw [hE31] at S30
    refine T_nil ?_
    refine TT_step rfl ?_
    refine T_fldm 3 rfl rfl rfl rfl rfl rfl (by decide) rfl rfl rfl ?_
    refine T_nil ?_
    refine TT_step rfl ?_
    refine T_store1S 0 3 S30 (fun _ _ => trivial) rfl rfl rfl rfl rfl rfl rfl rfl rfl rfl rfl rfl (show 3 < 4 by decide) fun w32 S33 => ?_
    have hE34 : (.agg #[.int .i64 sh, .int .i64 sl, .slice a15 (v.take 70).length c16, .slice a2 p.length c2] : Value).cells.setIfInBounds 3 (.slice a22 (p.take 6).length c23) = (.agg #[.int .i64 sh, .int .i64 sl, .slice a15 (v.take 70).length c16, .slice a22 (p.take 6).length c23] : Value).cells := rfl
    rw [hE34] at S33
    refine T_nil ?_
    refine TT_done ?_
    refine W_seq ?_
    refine W_region ?_
    refine T_pev rfl rfl rfl rfl ?_
    refine T_callS rfl rfl g_aumbry_aumbrykeep_Cut_byte rfl rfl rfl rfl ((cutB_ok S33.le hu 2400).mono ?_)
    rintro e w40 ⟨a35, c36, hc37, rfl, hr38, hB39⟩
    have S41 := S33.call hB39
    refine ⟨_, rfl, trivial, ?_⟩
    refine T_pev rfl rfl rfl rfl ?_
    refine T_nil ?_
    refine W_seq ?_
    refine W_region ?_
    refine T_pev rfl rfl rfl rfl ?_
    refine T_callS rfl rfl g_aumbry_mss_Unpack rfl rfl rfl rfl ((unpack_ok S41.le hT hr38 (by omega) hok).mono ?_)
    rintro e w51 ⟨a42, n43, c44, a45, n46, c47, rfl, r48, r49, hB50⟩
    obtain ⟨G53, eG55⟩ : ∃ G, G = F.ext H w40.heap.size w51 := ⟨_, rfl⟩
    obtain ⟨hl54, S52⟩ := S41.ext hB50
    rw [← eG55] at hl54 S52 r48 r49
    refine ⟨_, rfl, trivial, ?_⟩
    refine T_pev rfl rfl rfl rfl ?_
    refine T_pev rfl rfl rfl rfl ?_
    refine T_pev rfl rfl rfl rfl ?_
    refine T_allocS S52 (fun _ _ => trivial) rfl rfl rfl rfl rfl rfl rfl fun b56 w57 S58 => ?_
    refine T_storeFS 0 S58 (fun _ _ => trivial) rfl rfl rfl rfl rfl rfl rfl rfl rfl (by first | rfl | simp [hVs, *]) (by first | rfl | simp [hVs, *]) (one_all rfl) fun w59 S60 => ?_
    refine T_pev rfl rfl rfl rfl ?_
    refine T_nil ?_
    refine W_seq ?_
    refine W_region ?_
    refine T_pev rfl rfl rfl rfl ?_
    refine T_callS rfl rfl g_aumbry_aumbryref07_Unpack rfl rfl rfl rfl ((unpackR_ok S60.le (hr38.mono hl54) (by omega) hok).mono ?_)
    rintro e w70 ⟨a61, n62, c63, a64, n65, c66, rfl, r67, r68, hB69⟩
    obtain ⟨G72, eG74⟩ : ∃ G, G = F.ext G53 w59.heap.size w70 := ⟨_, rfl⟩
    obtain ⟨hl73, S71⟩ := S60.ext hB69
    rw [← eG74] at hl73 S71 r67 r68
    refine ⟨_, rfl, trivial, ?_⟩
    refine T_pev rfl rfl rfl rfl ?_
    refine T_pev rfl rfl rfl rfl ?_
    refine T_pev rfl rfl rfl rfl ?_
    refine T_allocS S71 (fun _ _ => trivial) rfl rfl rfl rfl rfl rfl rfl fun b75 w76 S77 => ?_
    refine T_storeFS 0 S77 (fun _ _ => trivial) rfl rfl rfl rfl rfl rfl rfl rfl rfl (by first | rfl | simp [hVs, *]) (by first | rfl | simp [hVs, *]) (one_all rfl) fun w78 S79 => ?_
    refine T_pev rfl rfl rfl rfl ?_
    refine T_nil ?_
    refine W_seq ?_
    obtain ⟨G81, hl82, S80, r83⟩ := S79.stillBlk 3 rfl
    obtain ⟨G85, hl86, S84, r87⟩ := S80.stillBlk 2 rfl
    refine W_plan (planF Tryd.prog G85 [39, 41, 47]) rfl (by kernel_rfl) S84.le ?_
    have S88 := S84.drew
    refine T_loadGA _ S88 (still_cells (hl86 _ _ r83)) rfl rfl rfl rfl rfl rfl rfl rfl (hVs hf) ?_
    refine T_pev rfl rfl rfl rfl ?_
    refine T_loadGA _ S88 (still_cells r87) rfl rfl rfl rfl rfl rfl rfl rfl (by first | rfl | simp [hVs, *]) ?_
    refine T_callS rfl rfl g_aumbry_mss_Verify rfl rfl rfl rfl ((verify_ok S88.le (hT.mono (hl54.trans (hl73.trans (hl82.trans hl86)))) hf sh sl (hr18.mono (hl54.trans (hl73.trans (hl82.trans hl86)))) (hr25.mono (hl54.trans (hl73.trans (hl82.trans hl86)))) (hr10.mono (hl54.trans (hl73.trans (hl82.trans hl86)))) (by omega)).mono ?_)
    rintro e w90 ⟨rfl, hB89⟩
    have S91 := S88.call hB89
    refine ⟨_, rfl, (((Hp.le.refl _)).trans S91.le), ?_⟩
    refine T_loadGAP _ (fun _ h => h) (still_cells (hl86 _ _ r83)) rfl rfl rfl rfl rfl rfl rfl rfl (hVs hf) ?_
    refine T_pev rfl rfl rfl rfl ?_
    refine T_loadGAP _ (fun _ h => h) (still_cells r87) rfl rfl rfl rfl rfl rfl rfl rfl (by first | rfl | simp [hVs, *]) ?_
    refine T_callS rfl rfl g_aumbry_aumbryref07_Verify rfl rfl rfl rfl ((verifyR_ok S91.le hf sh sl (hr18.mono (hl54.trans (hl73.trans (hl82.trans hl86)))) (hr25.mono (hl54.trans (hl73.trans (hl82.trans hl86)))) (hr10.mono (hl54.trans (hl73.trans (hl82.trans hl86)))) (by omega)).mono ?_)
    rintro e w93 ⟨rfl, hB92⟩
    have S94 := S91.call hB92
    refine ⟨_, rfl, (((Hp.le.refl _)).trans S94.le), ?_⟩
    refine T_beq rfl rfl rfl rfl rfl rfl rfl ?_
    refine T_pev rfl rfl rfl rfl ?_
    refine T_bool 44 true rfl (decide_eq_true rfl) ?_
    refine T_yes rfl rfl rfl ?_ rfl
    refine T_loadGA _ S94 (still_cells r87) rfl rfl rfl rfl rfl rfl rfl rfl (by first | rfl | simp [hVs, *]) ?_
    refine T_yes rfl rfl rfl ?_ rfl
    refine T_callS rfl rfl g_aumbry_mss_Pack rfl rfl rfl rfl ((pack_ok S94.le sh sl (hr18.mono (hl54.trans (hl73.trans (hl82.trans hl86)))) (hr25.mono (hl54.trans (hl73.trans (hl82.trans hl86)))) (by omega) (by omega) (by omega) (by omega)).mono ?_)
    rintro e w100 ⟨a95, c96, hc97, rfl, ho98, hB99⟩
    have S101 := S94.own hB99 ho98
    refine ⟨_, rfl, (((Hp.le.refl _)).trans S101.le), ?_⟩
    refine T_yes rfl rfl rfl ?_ rfl
    refine T_loadGAP _ (fun _ h => h) (still_cells r87) rfl rfl rfl rfl rfl rfl rfl rfl (by first | rfl | simp [hVs, *]) ?_
    refine T_yes rfl rfl rfl ?_ rfl
    refine T_callS rfl rfl g_aumbry_aumbryref07_Pack rfl rfl rfl rfl ((packR_ok S101.le sh sl (hr18.mono (hl54.trans (hl73.trans (hl82.trans hl86)))) (hr25.mono (hl54.trans (hl73.trans (hl82.trans hl86)))) (by omega) (by omega) (by omega) (by omega)).mono ?_)
    rintro e w107 ⟨a102, c103, hc104, rfl, ho105, hB106⟩
    have S108 := S101.own hB106 ho105
    refine ⟨_, rfl, (((Hp.le.refl _)).trans S108.le), ?_⟩
    refine T_yes rfl rfl rfl ?_ rfl
    obtain ⟨G110, hl111, S109, r112⟩ := S108.stillRow 1 rfl
    obtain ⟨G114, hl115, S113, r116⟩ := S109.stillRow 0 rfl
    refine T_callS rfl rfl g_aumbry_aumbrykeep_Same_byte rfl rfl rfl rfl ((sameB_ok S113.le (r112.mono hl115) r116 (by first | omega | (simp; done) | (simp only [List.length_take, List.length_drop]; omega))).mono ?_)
    rintro e w118 ⟨rfl, hB117⟩
    have S119 := S113.call hB117
    refine ⟨_, rfl, (((hl111.trans hl115)).trans S119.le), ?_⟩
    refine T_pev rfl rfl rfl rfl ?_
    refine T_pev rfl rfl rfl rfl ?_
    refine T_bool 51 true rfl (decide_eq_true rfl) ?_
    refine T_yes rfl rfl rfl ?_ rfl
    refine T_pev rfl rfl rfl rfl ?_
    refine T_yes rfl rfl rfl ?_ rfl
    refine T_pev rfl rfl rfl rfl ?_
    refine T_yes rfl rfl rfl ?_ rfl
    refine T_beq rfl rfl rfl rfl rfl rfl rfl ?_
    refine T_pev rfl rfl rfl rfl ?_
    refine T_pev rfl rfl rfl rfl ?_
    refine T_bool 56 true rfl (decide_eq_true rfl) ?_
    refine T_yes rfl rfl rfl ?_ rfl
    refine T_loadFS 1 S119 rfl rfl rfl rfl rfl rfl rfl rfl rfl (by first | rfl | simp [hVs, *]) ?_
    refine T_yes rfl rfl rfl ?_ rfl
    refine T_loadFS 0 S119 rfl rfl rfl rfl rfl rfl rfl rfl rfl (by first | rfl | simp [hVs, *]) ?_
    refine T_yes rfl rfl rfl ?_ rfl
    refine T_callS rfl rfl g_aumbry_aumbrykeep_Sig rfl rfl rfl rfl ((keepSig_ok S119.le ((((b.take 2400).getD 0 0).toNat : Nat) : Int) (((Go.Au.gval (((b.take 2400).drop 1).take (3 - 1))) : Nat) : Int) (r48.mono (hl73.trans (hl82.trans (hl86.trans (hl111.trans hl115))))) (r49.mono (hl73.trans (hl82.trans (hl86.trans (hl111.trans hl115))))) (r67.mono (hl82.trans (hl86.trans (hl111.trans hl115)))) (r68.mono (hl82.trans (hl86.trans (hl111.trans hl115)))) (by rw [List.length_take]; omega) (Nat.le_trans (Nat.le_trans (List.length_take_le _ _) (Nat.sub_le _ _)) (by rw [List.length_drop]; omega))).mono ?_)
    rintro e w121 ⟨rfl, hB120⟩
    have S122 := S119.call hB120
    refine ⟨_, rfl, (((hl111.trans hl115)).trans S122.le), ?_⟩
    refine T_pev rfl rfl rfl rfl ?_
    refine T_pev rfl rfl rfl rfl ?_
    refine T_yes rfl rfl rfl ?_ rfl
    refine T_callS rfl rfl g_aumbry_aumbrylaw09_wakes rfl rfl rfl rfl ((wakes_ok S122.le (hT.mono (hl54.trans (hl73.trans (hl82.trans (hl86.trans (hl111.trans hl115))))))).mono ?_)
    rintro e w124 ⟨rfl, hB123⟩
    have S125 := S122.call hB123
    refine ⟨_, rfl, (((hl111.trans hl115)).trans S125.le), ?_⟩
    refine T_pev rfl rfl rfl rfl ?_
    refine T_pev rfl rfl rfl rfl ?_
    refine T_nil ?_
    refine W_ret ?_
    refine ⟨_, ⟨_, _, rfl, rfl, rfl⟩, ?_⟩
    exact ⟨rfl, S125.below⟩
  refine T_loadS 0 3 S14 rfl rfl rfl rfl rfl rfl rfl rfl rfl rfl ?_
  refine T_nil ?_
  refine TT_step rfl ?_
  refine T_callS rfl rfl g_aumbry_aumbrykeep_Cut_aumbry_api_Hash rfl rfl rfl rfl ((cutH_ok S14.le h1 70).mono ?_)
  rintro e w131 ⟨a126, c127, hc128, rfl, hr129, hB130⟩
  have S132 := S14.call hB130
  refine ⟨_, rfl, trivial, ?_⟩
  refine T_nil ?_
  refine TT_step rfl ?_
  refine T_callS rfl rfl g_aumbry_aumbrykeep_Cut_aumbry_api_Hash rfl rfl rfl rfl ((cutH_ok S132.le h2 6).mono ?_)
  rintro e w138 ⟨a133, c134, hc135, rfl, hr136, hB137⟩
  have S139 := S132.call hB137
  refine ⟨_, rfl, trivial, ?_⟩
  refine T_nil ?_
  refine TT_step rfl ?_
  refine T_fldm 2 rfl rfl rfl rfl rfl rfl (by decide) rfl rfl rfl ?_
  refine T_nil ?_
  refine TT_step rfl ?_
  refine T_store1S 0 2 S139 (fun _ _ => trivial) rfl rfl rfl rfl rfl rfl rfl rfl rfl rfl rfl rfl (show 2 < 4 by decide) fun w140 S141 => ?_
  have hE142 : (.agg #[.int .i64 sh, .int .i64 sl, .slice a1 v.length c1, .slice a2 p.length c2] : Value).cells.setIfInBounds 2 (.slice a126 (v.take 70).length c127) = (.agg #[.int .i64 sh, .int .i64 sl, .slice a126 (v.take 70).length c127, .slice a2 p.length c2] : Value).cells := rfl
  rw [hE142] at S141
  refine T_nil ?_
  refine TT_step rfl ?_
  refine T_fldm 3 rfl rfl rfl rfl rfl rfl (by decide) rfl rfl rfl ?_
  refine T_nil ?_
  refine TT_step rfl ?_
  refine T_store1S 0 3 S141 (fun _ _ => trivial) rfl rfl rfl rfl rfl rfl rfl rfl rfl rfl rfl rfl (show 3 < 4 by decide) fun w143 S144 => ?_
  have hE145 : (.agg #[.int .i64 sh, .int .i64 sl, .slice a126 (v.take 70).length c127, .slice a2 p.length c2] : Value).cells.setIfInBounds 3 (.slice a133 (p.take 6).length c134) = (.agg #[.int .i64 sh, .int .i64 sl, .slice a126 (v.take 70).length c127, .slice a133 (p.take 6).length c134] : Value).cells := rfl
  rw [hE145] at S144
  refine T_nil ?_
  refine TT_done ?_
  refine W_seq ?_
  refine W_region ?_
  refine T_pev rfl rfl rfl rfl ?_
  refine T_callS rfl rfl g_aumbry_aumbrykeep_Cut_byte rfl rfl rfl rfl ((cutB_ok S144.le hu 2400).mono ?_)
  rintro e w151 ⟨a146, c147, hc148, rfl, hr149, hB150⟩
  have S152 := S144.call hB150
  refine ⟨_, rfl, trivial, ?_⟩
  refine T_pev rfl rfl rfl rfl ?_
  refine T_nil ?_
  refine W_seq ?_
  refine W_region ?_
  refine T_pev rfl rfl rfl rfl ?_
  refine T_callS rfl rfl g_aumbry_mss_Unpack rfl rfl rfl rfl ((unpack_ok S152.le hT hr149 (by omega) hok).mono ?_)
  rintro e w162 ⟨a153, n154, c155, a156, n157, c158, rfl, r159, r160, hB161⟩
  obtain ⟨G164, eG166⟩ : ∃ G, G = F.ext H w151.heap.size w162 := ⟨_, rfl⟩
  obtain ⟨hl165, S163⟩ := S152.ext hB161
  rw [← eG166] at hl165 S163 r159 r160
  refine ⟨_, rfl, trivial, ?_⟩
  refine T_pev rfl rfl rfl rfl ?_
  refine T_pev rfl rfl rfl rfl ?_
  refine T_pev rfl rfl rfl rfl ?_
  refine T_allocS S163 (fun _ _ => trivial) rfl rfl rfl rfl rfl rfl rfl fun b167 w168 S169 => ?_
  refine T_storeFS 0 S169 (fun _ _ => trivial) rfl rfl rfl rfl rfl rfl rfl rfl rfl (by first | rfl | simp [hVs, *]) (by first | rfl | simp [hVs, *]) (one_all rfl) fun w170 S171 => ?_
  refine T_pev rfl rfl rfl rfl ?_
  refine T_nil ?_
  refine W_seq ?_
  refine W_region ?_
  refine T_pev rfl rfl rfl rfl ?_
  refine T_callS rfl rfl g_aumbry_aumbryref07_Unpack rfl rfl rfl rfl ((unpackR_ok S171.le (hr149.mono hl165) (by omega) hok).mono ?_)
  rintro e w181 ⟨a172, n173, c174, a175, n176, c177, rfl, r178, r179, hB180⟩
  obtain ⟨G183, eG185⟩ : ∃ G, G = F.ext G164 w170.heap.size w181 := ⟨_, rfl⟩
  obtain ⟨hl184, S182⟩ := S171.ext hB180
  rw [← eG185] at hl184 S182 r178 r179
  refine ⟨_, rfl, trivial, ?_⟩
  refine T_pev rfl rfl rfl rfl ?_
  refine T_pev rfl rfl rfl rfl ?_
  refine T_pev rfl rfl rfl rfl ?_
  refine T_allocS S182 (fun _ _ => trivial) rfl rfl rfl rfl rfl rfl rfl fun b186 w187 S188 => ?_
  refine T_storeFS 0 S188 (fun _ _ => trivial) rfl rfl rfl rfl rfl rfl rfl rfl rfl (by first | rfl | simp [hVs, *]) (by first | rfl | simp [hVs, *]) (one_all rfl) fun w189 S190 => ?_
  refine T_pev rfl rfl rfl rfl ?_
  refine T_nil ?_
  refine W_seq ?_
  obtain ⟨G192, hl193, S191, r194⟩ := S190.stillBlk 3 rfl
  obtain ⟨G196, hl197, S195, r198⟩ := S191.stillBlk 2 rfl
  refine W_plan (planF Tryd.prog G196 [39, 41, 47]) rfl (by kernel_rfl) S195.le ?_
  have S199 := S195.drew
  refine T_loadGA _ S199 (still_cells (hl197 _ _ r194)) rfl rfl rfl rfl rfl rfl rfl rfl (hVs hf) ?_
  refine T_pev rfl rfl rfl rfl ?_
  refine T_loadGA _ S199 (still_cells r198) rfl rfl rfl rfl rfl rfl rfl rfl (by first | rfl | simp [hVs, *]) ?_
  refine T_callS rfl rfl g_aumbry_mss_Verify rfl rfl rfl rfl ((verify_ok S199.le (hT.mono (hl165.trans (hl184.trans (hl193.trans hl197)))) hf sh sl (hr129.mono (hl165.trans (hl184.trans (hl193.trans hl197)))) (hr136.mono (hl165.trans (hl184.trans (hl193.trans hl197)))) (hr10.mono (hl165.trans (hl184.trans (hl193.trans hl197)))) (by omega)).mono ?_)
  rintro e w201 ⟨rfl, hB200⟩
  have S202 := S199.call hB200
  refine ⟨_, rfl, (((Hp.le.refl _)).trans S202.le), ?_⟩
  refine T_loadGAP _ (fun _ h => h) (still_cells (hl197 _ _ r194)) rfl rfl rfl rfl rfl rfl rfl rfl (hVs hf) ?_
  refine T_pev rfl rfl rfl rfl ?_
  refine T_loadGAP _ (fun _ h => h) (still_cells r198) rfl rfl rfl rfl rfl rfl rfl rfl (by first | rfl | simp [hVs, *]) ?_
  refine T_callS rfl rfl g_aumbry_aumbryref07_Verify rfl rfl rfl rfl ((verifyR_ok S202.le hf sh sl (hr129.mono (hl165.trans (hl184.trans (hl193.trans hl197)))) (hr136.mono (hl165.trans (hl184.trans (hl193.trans hl197)))) (hr10.mono (hl165.trans (hl184.trans (hl193.trans hl197)))) (by omega)).mono ?_)
  rintro e w204 ⟨rfl, hB203⟩
  have S205 := S202.call hB203
  refine ⟨_, rfl, (((Hp.le.refl _)).trans S205.le), ?_⟩
  refine T_beq rfl rfl rfl rfl rfl rfl rfl ?_
  refine T_pev rfl rfl rfl rfl ?_
  refine T_bool 44 true rfl (decide_eq_true rfl) ?_
  refine T_yes rfl rfl rfl ?_ rfl
  refine T_loadGA _ S205 (still_cells r198) rfl rfl rfl rfl rfl rfl rfl rfl (by first | rfl | simp [hVs, *]) ?_
  refine T_yes rfl rfl rfl ?_ rfl
  refine T_callS rfl rfl g_aumbry_mss_Pack rfl rfl rfl rfl ((pack_ok S205.le sh sl (hr129.mono (hl165.trans (hl184.trans (hl193.trans hl197)))) (hr136.mono (hl165.trans (hl184.trans (hl193.trans hl197)))) (by omega) (by omega) (by omega) (by omega)).mono ?_)
  rintro e w211 ⟨a206, c207, hc208, rfl, ho209, hB210⟩
  have S212 := S205.own hB210 ho209
  refine ⟨_, rfl, (((Hp.le.refl _)).trans S212.le), ?_⟩
  refine T_yes rfl rfl rfl ?_ rfl
  refine T_loadGAP _ (fun _ h => h) (still_cells r198) rfl rfl rfl rfl rfl rfl rfl rfl (by first | rfl | simp [hVs, *]) ?_
  refine T_yes rfl rfl rfl ?_ rfl
  refine T_callS rfl rfl g_aumbry_aumbryref07_Pack rfl rfl rfl rfl ((packR_ok S212.le sh sl (hr129.mono (hl165.trans (hl184.trans (hl193.trans hl197)))) (hr136.mono (hl165.trans (hl184.trans (hl193.trans hl197)))) (by omega) (by omega) (by omega) (by omega)).mono ?_)
  rintro e w218 ⟨a213, c214, hc215, rfl, ho216, hB217⟩
  have S219 := S212.own hB217 ho216
  refine ⟨_, rfl, (((Hp.le.refl _)).trans S219.le), ?_⟩
  refine T_yes rfl rfl rfl ?_ rfl
  obtain ⟨G221, hl222, S220, r223⟩ := S219.stillRow 1 rfl
  obtain ⟨G225, hl226, S224, r227⟩ := S220.stillRow 0 rfl
  refine T_callS rfl rfl g_aumbry_aumbrykeep_Same_byte rfl rfl rfl rfl ((sameB_ok S224.le (r223.mono hl226) r227 (by first | omega | (simp; done) | (simp only [List.length_take, List.length_drop]; omega))).mono ?_)
  rintro e w229 ⟨rfl, hB228⟩
  have S230 := S224.call hB228
  refine ⟨_, rfl, (((hl222.trans hl226)).trans S230.le), ?_⟩
  refine T_pev rfl rfl rfl rfl ?_
  refine T_pev rfl rfl rfl rfl ?_
  refine T_bool 51 true rfl (decide_eq_true rfl) ?_
  refine T_yes rfl rfl rfl ?_ rfl
  refine T_pev rfl rfl rfl rfl ?_
  refine T_yes rfl rfl rfl ?_ rfl
  refine T_pev rfl rfl rfl rfl ?_
  refine T_yes rfl rfl rfl ?_ rfl
  refine T_beq rfl rfl rfl rfl rfl rfl rfl ?_
  refine T_pev rfl rfl rfl rfl ?_
  refine T_pev rfl rfl rfl rfl ?_
  refine T_bool 56 true rfl (decide_eq_true rfl) ?_
  refine T_yes rfl rfl rfl ?_ rfl
  refine T_loadFS 1 S230 rfl rfl rfl rfl rfl rfl rfl rfl rfl (by first | rfl | simp [hVs, *]) ?_
  refine T_yes rfl rfl rfl ?_ rfl
  refine T_loadFS 0 S230 rfl rfl rfl rfl rfl rfl rfl rfl rfl (by first | rfl | simp [hVs, *]) ?_
  refine T_yes rfl rfl rfl ?_ rfl
  refine T_callS rfl rfl g_aumbry_aumbrykeep_Sig rfl rfl rfl rfl ((keepSig_ok S230.le ((((b.take 2400).getD 0 0).toNat : Nat) : Int) (((Go.Au.gval (((b.take 2400).drop 1).take (3 - 1))) : Nat) : Int) (r159.mono (hl184.trans (hl193.trans (hl197.trans (hl222.trans hl226))))) (r160.mono (hl184.trans (hl193.trans (hl197.trans (hl222.trans hl226))))) (r178.mono (hl193.trans (hl197.trans (hl222.trans hl226)))) (r179.mono (hl193.trans (hl197.trans (hl222.trans hl226)))) (by rw [List.length_take]; omega) (Nat.le_trans (Nat.le_trans (List.length_take_le _ _) (Nat.sub_le _ _)) (by rw [List.length_drop]; omega))).mono ?_)
  rintro e w232 ⟨rfl, hB231⟩
  have S233 := S230.call hB231
  refine ⟨_, rfl, (((hl222.trans hl226)).trans S233.le), ?_⟩
  refine T_pev rfl rfl rfl rfl ?_
  refine T_pev rfl rfl rfl rfl ?_
  refine T_yes rfl rfl rfl ?_ rfl
  refine T_callS rfl rfl g_aumbry_aumbrylaw09_wakes rfl rfl rfl rfl ((wakes_ok S233.le (hT.mono (hl165.trans (hl184.trans (hl193.trans (hl197.trans (hl222.trans hl226))))))).mono ?_)
  rintro e w235 ⟨rfl, hB234⟩
  have S236 := S233.call hB234
  refine ⟨_, rfl, (((hl222.trans hl226)).trans S236.le), ?_⟩
  refine T_pev rfl rfl rfl rfl ?_
  refine T_pev rfl rfl rfl rfl ?_
  refine T_nil ?_
  refine W_ret ?_
  refine ⟨_, ⟨_, _, rfl, rfl, rfl⟩, ?_⟩
  exact ⟨rfl, S236.below⟩


set_option maxHeartbeats 2000000 in
theorem mssRaw_n {H : Hp} {w : World} (hH : H.le (hw w)) (hT : Tabs H) {fp : List UInt8} (hf : fp.length = 32) {m : List UInt8} {aa1 : Option Addr} {nn1 cc1 : Nat} (hv : Rd H (.slice aa1 nn1 cc1) nn1 1 (m.map bV)) (sh sl : Int) {v p : List (List UInt8)} {a1 a2 : Option Addr} {n1 n2 c1 c2 : Nat} (h1 : RdH H (.slice a1 n1 c1) 32 v) (h2 : RdH H (.slice a2 n2 c2) 32 p) {b : List UInt8} {aa3 : Option Addr} {nn3 cc3 : Nat} (hu : Rd H (.slice aa3 nn3 cc3) nn3 1 (b.map bV)) (hsh : sh ≤ 9223372036854775807) (hsl : sl ≤ 9223372036854775807) (hno : ¬ Go.Au.okU (b.take 2400)) :
    Calls Tryd.prog 9 #[hV fp, .slice aa1 nn1 cc1, .agg #[.int .i64 sh, .int .i64 sl, .slice a1 n1 c1, .slice a2 n2 c2], .slice aa3 nn3 cc3] w fun e w' => e = .returned (.bool true) ∧ Below w.heap.size w w' := by
  obtain rfl : nn1 = m.length := hv.lenB
  have hvcap : m.length ≤ cc1 := hv.capOf
  obtain rfl : nn3 = b.length := hu.lenB
  have hucap : b.length ≤ cc3 := hu.capOf
  obtain rfl : n1 = v.length := h1.len
  obtain rfl : n2 = p.length := h2.len
  have hm40 : (m.take 40).length ≤ 40 := by rw [List.length_take]; omega
  have hb24 : (b.take 2400).length ≤ 2400 := by rw [List.length_take]; omega
  have hv70 : (v.take 70).length ≤ 70 := by rw [List.length_take]; omega
  have hp6 : (p.take 6).length ≤ 6 := by rw [List.length_take]; omega
  have hpkl := Go.Au.pack_len (h := sh) (l := sl) (v := (v.take 70)) (p := (p.take 6)) (fun x hx => h1.1 x (List.mem_of_mem_take hx)) (fun x hx => h2.1 x (List.mem_of_mem_take hx))
  refine enter4 _ Tryd.func9 rfl Tryd.ntmps9 Tryd.results9 rfl ?_
  have S0 := St.start w hH
  refine W_seq ?_
  refine W_region ?_
  refine T_boxS S0 (fun _ _ => trivial) rfl rfl rfl rfl rfl rfl fun b1 w2 S3 => ?_
  refine T_boxS S3 (fun _ _ => trivial) rfl rfl rfl rfl rfl rfl fun b4 w5 S6 => ?_
  refine T_pev rfl rfl rfl rfl ?_
  refine T_nil ?_
  refine W_seq ?_
  refine W_region ?_
  refine T_pev rfl rfl rfl rfl ?_
  refine T_callS rfl rfl g_aumbry_aumbrykeep_Cut_byte rfl rfl rfl rfl ((cutB_ok S6.le hv 40).mono ?_)
  rintro e w12 ⟨a7, c8, hc9, rfl, hr10, hB11⟩
  have S13 := S6.call hB11
  refine ⟨_, rfl, trivial, ?_⟩
  refine T_pev rfl rfl rfl rfl ?_
  refine T_nil ?_
  refine W_seq ?_
  refine W_tree (plan Tryd.prog) (.step 0 (.step 1 (.step 3 (.fork 2 4 (.step 4 (.step 5 (.step 6 (.step 7 (.step 8 (.step 9 .done)))))) (.step 2 (.step 5 (.step 6 (.step 7 (.step 8 (.step 9 .done)))))))))) rfl (by kernel_rfl) trivial ?_
  have S14 := S13.drew
  refine TT_step rfl ?_
  refine T_fldm 2 rfl rfl rfl rfl rfl rfl (by decide) rfl rfl rfl ?_
  refine T_nil ?_
  refine TT_step rfl ?_
  refine T_loadS 0 2 S14 rfl rfl rfl rfl rfl rfl rfl rfl rfl rfl ?_
  refine T_nil ?_
  refine TT_step rfl ?_
  refine T_fldm 3 rfl rfl rfl rfl rfl rfl (by decide) rfl rfl rfl ?_
  refine T_nil ?_
  refine TT_fork rfl rfl ?_ ?_
  · refine T_callS rfl rfl g_aumbry_aumbrykeep_Cut_aumbry_api_Hash rfl rfl rfl rfl ((cutH_ok S14.le h1 70).mono ?_)
    rintro e w20 ⟨a15, c16, hc17, rfl, hr18, hB19⟩
    have S21 := S14.call hB19
    refine ⟨_, rfl, trivial, ?_⟩
    refine T_nil ?_
    refine TT_step rfl ?_
    refine T_loadS 0 3 S21 rfl rfl rfl rfl rfl rfl rfl rfl rfl rfl ?_
    refine T_nil ?_
    refine TT_step rfl ?_
    refine T_callS rfl rfl g_aumbry_aumbrykeep_Cut_aumbry_api_Hash rfl rfl rfl rfl ((cutH_ok S21.le h2 6).mono ?_)
    rintro e w27 ⟨a22, c23, hc24, rfl, hr25, hB26⟩
    have S28 := S21.call hB26
    refine ⟨_, rfl, trivial, ?_⟩
    refine T_nil ?_
    refine TT_step rfl ?_
    refine T_fldm 2 rfl rfl rfl rfl rfl rfl (by decide) rfl rfl rfl ?_
    refine T_nil ?_
    refine TT_step rfl ?_
    refine T_store1S 0 2 S28 (fun _ _ => trivial) rfl rfl rfl rfl rfl rfl rfl rfl rfl rfl rfl rfl (show 2 < 4 by decide) fun w29 S30 => ?_
    have hE31 : (.agg #[.int .i64 sh, .int .i64 sl, .slice a1 v.length c1, .slice a2 p.length c2] : Value).cells.setIfInBounds 2 (.slice a15 (v.take 70).length c16) = (.agg #[.int .i64 sh, .int .i64 sl, .slice a15 (v.take 70).length c16, .slice a2 p.length c2] : Value).cells := rfl
    rw [hE31] at S30
    refine T_nil ?_
    refine TT_step rfl ?_
    refine T_fldm 3 rfl rfl rfl rfl rfl rfl (by decide) rfl rfl rfl ?_
    refine T_nil ?_
    refine TT_step rfl ?_
    refine T_store1S 0 3 S30 (fun _ _ => trivial) rfl rfl rfl rfl rfl rfl rfl rfl rfl rfl rfl rfl (show 3 < 4 by decide) fun w32 S33 => ?_
    have hE34 : (.agg #[.int .i64 sh, .int .i64 sl, .slice a15 (v.take 70).length c16, .slice a2 p.length c2] : Value).cells.setIfInBounds 3 (.slice a22 (p.take 6).length c23) = (.agg #[.int .i64 sh, .int .i64 sl, .slice a15 (v.take 70).length c16, .slice a22 (p.take 6).length c23] : Value).cells := rfl
    rw [hE34] at S33
    refine T_nil ?_
    refine TT_done ?_
    refine W_seq ?_
    refine W_region ?_
    refine T_pev rfl rfl rfl rfl ?_
    refine T_callS rfl rfl g_aumbry_aumbrykeep_Cut_byte rfl rfl rfl rfl ((cutB_ok S33.le hu 2400).mono ?_)
    rintro e w40 ⟨a35, c36, hc37, rfl, hr38, hB39⟩
    have S41 := S33.call hB39
    refine ⟨_, rfl, trivial, ?_⟩
    refine T_pev rfl rfl rfl rfl ?_
    refine T_nil ?_
    refine W_seq ?_
    refine W_region ?_
    refine T_pev rfl rfl rfl rfl ?_
    refine T_callS rfl rfl g_aumbry_mss_Unpack rfl rfl rfl rfl ((unpackNo_ok S41.le hT hr38 hno).mono ?_)
    rintro e w43 ⟨rfl, hB42⟩
    have S44 := S41.call hB42
    refine ⟨_, rfl, trivial, ?_⟩
    refine T_pev rfl rfl rfl rfl ?_
    refine T_pev rfl rfl rfl rfl ?_
    refine T_pev rfl rfl rfl rfl ?_
    refine T_allocS S44 (fun _ _ => trivial) rfl rfl rfl rfl rfl rfl rfl fun b45 w46 S47 => ?_
    refine T_storeFS 0 S47 (fun _ _ => trivial) rfl rfl rfl rfl rfl rfl rfl rfl rfl (by first | rfl | simp [hVs, *]) (by first | rfl | simp [hVs, *]) (one_all rfl) fun w48 S49 => ?_
    refine T_pev rfl rfl rfl rfl ?_
    refine T_nil ?_
    refine W_seq ?_
    refine W_region ?_
    refine T_pev rfl rfl rfl rfl ?_
    refine T_callS rfl rfl g_aumbry_aumbryref07_Unpack rfl rfl rfl rfl ((unpackRNo_ok S49.le hr38 hno).mono ?_)
    rintro e w51 ⟨rfl, hB50⟩
    have S52 := S49.call hB50
    refine ⟨_, rfl, trivial, ?_⟩
    refine T_pev rfl rfl rfl rfl ?_
    refine T_pev rfl rfl rfl rfl ?_
    refine T_pev rfl rfl rfl rfl ?_
    refine T_allocS S52 (fun _ _ => trivial) rfl rfl rfl rfl rfl rfl rfl fun b53 w54 S55 => ?_
    refine T_storeFS 0 S55 (fun _ _ => trivial) rfl rfl rfl rfl rfl rfl rfl rfl rfl (by first | rfl | simp [hVs, *]) (by first | rfl | simp [hVs, *]) (one_all rfl) fun w56 S57 => ?_
    refine T_pev rfl rfl rfl rfl ?_
    refine T_nil ?_
    refine W_seq ?_
    obtain ⟨G59, hl60, S58, r61⟩ := S57.stillBlk 3 rfl
    obtain ⟨G63, hl64, S62, r65⟩ := S58.stillBlk 2 rfl
    refine W_plan (planF Tryd.prog G63 [39, 41, 47]) rfl (by kernel_rfl) S62.le ?_
    have S66 := S62.drew
    refine T_loadGA _ S66 (still_cells (hl64 _ _ r61)) rfl rfl rfl rfl rfl rfl rfl rfl (hVs hf) ?_
    refine T_pev rfl rfl rfl rfl ?_
    refine T_loadGA _ S66 (still_cells r65) rfl rfl rfl rfl rfl rfl rfl rfl (by first | rfl | simp [hVs, *]) ?_
    refine T_callS rfl rfl g_aumbry_mss_Verify rfl rfl rfl rfl ((verify_ok S66.le (hT.mono (hl60.trans hl64)) hf sh sl (hr18.mono (hl60.trans hl64)) (hr25.mono (hl60.trans hl64)) (hr10.mono (hl60.trans hl64)) (by omega)).mono ?_)
    rintro e w68 ⟨rfl, hB67⟩
    have S69 := S66.call hB67
    refine ⟨_, rfl, (((Hp.le.refl _)).trans S69.le), ?_⟩
    refine T_loadGAP _ (fun _ h => h) (still_cells (hl64 _ _ r61)) rfl rfl rfl rfl rfl rfl rfl rfl (hVs hf) ?_
    refine T_pev rfl rfl rfl rfl ?_
    refine T_loadGAP _ (fun _ h => h) (still_cells r65) rfl rfl rfl rfl rfl rfl rfl rfl (by first | rfl | simp [hVs, *]) ?_
    refine T_callS rfl rfl g_aumbry_aumbryref07_Verify rfl rfl rfl rfl ((verifyR_ok S69.le hf sh sl (hr18.mono (hl60.trans hl64)) (hr25.mono (hl60.trans hl64)) (hr10.mono (hl60.trans hl64)) (by omega)).mono ?_)
    rintro e w71 ⟨rfl, hB70⟩
    have S72 := S69.call hB70
    refine ⟨_, rfl, (((Hp.le.refl _)).trans S72.le), ?_⟩
    refine T_beq rfl rfl rfl rfl rfl rfl rfl ?_
    refine T_pev rfl rfl rfl rfl ?_
    refine T_bool 44 true rfl (decide_eq_true rfl) ?_
    refine T_yes rfl rfl rfl ?_ rfl
    refine T_loadGA _ S72 (still_cells r65) rfl rfl rfl rfl rfl rfl rfl rfl (by first | rfl | simp [hVs, *]) ?_
    refine T_yes rfl rfl rfl ?_ rfl
    refine T_callS rfl rfl g_aumbry_mss_Pack rfl rfl rfl rfl ((pack_ok S72.le sh sl (hr18.mono (hl60.trans hl64)) (hr25.mono (hl60.trans hl64)) (by omega) (by omega) (by omega) (by omega)).mono ?_)
    rintro e w78 ⟨a73, c74, hc75, rfl, ho76, hB77⟩
    have S79 := S72.own hB77 ho76
    refine ⟨_, rfl, (((Hp.le.refl _)).trans S79.le), ?_⟩
    refine T_yes rfl rfl rfl ?_ rfl
    refine T_loadGAP _ (fun _ h => h) (still_cells r65) rfl rfl rfl rfl rfl rfl rfl rfl (by first | rfl | simp [hVs, *]) ?_
    refine T_yes rfl rfl rfl ?_ rfl
    refine T_callS rfl rfl g_aumbry_aumbryref07_Pack rfl rfl rfl rfl ((packR_ok S79.le sh sl (hr18.mono (hl60.trans hl64)) (hr25.mono (hl60.trans hl64)) (by omega) (by omega) (by omega) (by omega)).mono ?_)
    rintro e w85 ⟨a80, c81, hc82, rfl, ho83, hB84⟩
    have S86 := S79.own hB84 ho83
    refine ⟨_, rfl, (((Hp.le.refl _)).trans S86.le), ?_⟩
    refine T_yes rfl rfl rfl ?_ rfl
    obtain ⟨G88, hl89, S87, r90⟩ := S86.stillRow 1 rfl
    obtain ⟨G92, hl93, S91, r94⟩ := S87.stillRow 0 rfl
    refine T_callS rfl rfl g_aumbry_aumbrykeep_Same_byte rfl rfl rfl rfl ((sameB_ok S91.le (r90.mono hl93) r94 (by first | omega | (simp; done) | (simp only [List.length_take, List.length_drop]; omega))).mono ?_)
    rintro e w96 ⟨rfl, hB95⟩
    have S97 := S91.call hB95
    refine ⟨_, rfl, (((hl89.trans hl93)).trans S97.le), ?_⟩
    refine T_pev rfl rfl rfl rfl ?_
    refine T_pev rfl rfl rfl rfl ?_
    refine T_bool 51 true rfl (decide_eq_true rfl) ?_
    refine T_yes rfl rfl rfl ?_ rfl
    refine T_pev rfl rfl rfl rfl ?_
    refine T_yes rfl rfl rfl ?_ rfl
    refine T_pev rfl rfl rfl rfl ?_
    refine T_yes rfl rfl rfl ?_ rfl
    refine T_beq rfl rfl rfl rfl rfl rfl rfl ?_
    refine T_pev rfl rfl rfl rfl ?_
    refine T_pev rfl rfl rfl rfl ?_
    refine T_bool 56 true rfl (decide_eq_true rfl) ?_
    refine T_yes rfl rfl rfl ?_ rfl
    refine T_loadFS 1 S97 rfl rfl rfl rfl rfl rfl rfl rfl rfl (by first | rfl | simp [hVs, *]) ?_
    refine T_yes rfl rfl rfl ?_ rfl
    refine T_loadFS 0 S97 rfl rfl rfl rfl rfl rfl rfl rfl rfl (by first | rfl | simp [hVs, *]) ?_
    refine T_yes rfl rfl rfl ?_ rfl
    refine T_callS rfl rfl g_aumbry_aumbrykeep_Sig rfl rfl rfl rfl ((keepSig_ok S97.le (0 : Int) (0 : Int) (nilH _) (nilH _) (nilH _) (nilH _) (Nat.zero_le 1000000) (Nat.zero_le 1000000)).mono ?_)
    rintro e w99 ⟨rfl, hB98⟩
    have S100 := S97.call hB98
    refine ⟨_, rfl, (((hl89.trans hl93)).trans S100.le), ?_⟩
    refine T_pev rfl rfl rfl rfl ?_
    refine T_pev rfl rfl rfl rfl ?_
    refine T_yes rfl rfl rfl ?_ rfl
    refine T_callS rfl rfl g_aumbry_aumbrylaw09_wakes rfl rfl rfl rfl ((wakes_ok S100.le (hT.mono (hl60.trans (hl64.trans (hl89.trans hl93))))).mono ?_)
    rintro e w102 ⟨rfl, hB101⟩
    have S103 := S100.call hB101
    refine ⟨_, rfl, (((hl89.trans hl93)).trans S103.le), ?_⟩
    refine T_pev rfl rfl rfl rfl ?_
    refine T_pev rfl rfl rfl rfl ?_
    refine T_nil ?_
    refine W_ret ?_
    refine ⟨_, ⟨_, _, rfl, rfl, rfl⟩, ?_⟩
    exact ⟨rfl, S103.below⟩
  refine T_loadS 0 3 S14 rfl rfl rfl rfl rfl rfl rfl rfl rfl rfl ?_
  refine T_nil ?_
  refine TT_step rfl ?_
  refine T_callS rfl rfl g_aumbry_aumbrykeep_Cut_aumbry_api_Hash rfl rfl rfl rfl ((cutH_ok S14.le h1 70).mono ?_)
  rintro e w109 ⟨a104, c105, hc106, rfl, hr107, hB108⟩
  have S110 := S14.call hB108
  refine ⟨_, rfl, trivial, ?_⟩
  refine T_nil ?_
  refine TT_step rfl ?_
  refine T_callS rfl rfl g_aumbry_aumbrykeep_Cut_aumbry_api_Hash rfl rfl rfl rfl ((cutH_ok S110.le h2 6).mono ?_)
  rintro e w116 ⟨a111, c112, hc113, rfl, hr114, hB115⟩
  have S117 := S110.call hB115
  refine ⟨_, rfl, trivial, ?_⟩
  refine T_nil ?_
  refine TT_step rfl ?_
  refine T_fldm 2 rfl rfl rfl rfl rfl rfl (by decide) rfl rfl rfl ?_
  refine T_nil ?_
  refine TT_step rfl ?_
  refine T_store1S 0 2 S117 (fun _ _ => trivial) rfl rfl rfl rfl rfl rfl rfl rfl rfl rfl rfl rfl (show 2 < 4 by decide) fun w118 S119 => ?_
  have hE120 : (.agg #[.int .i64 sh, .int .i64 sl, .slice a1 v.length c1, .slice a2 p.length c2] : Value).cells.setIfInBounds 2 (.slice a104 (v.take 70).length c105) = (.agg #[.int .i64 sh, .int .i64 sl, .slice a104 (v.take 70).length c105, .slice a2 p.length c2] : Value).cells := rfl
  rw [hE120] at S119
  refine T_nil ?_
  refine TT_step rfl ?_
  refine T_fldm 3 rfl rfl rfl rfl rfl rfl (by decide) rfl rfl rfl ?_
  refine T_nil ?_
  refine TT_step rfl ?_
  refine T_store1S 0 3 S119 (fun _ _ => trivial) rfl rfl rfl rfl rfl rfl rfl rfl rfl rfl rfl rfl (show 3 < 4 by decide) fun w121 S122 => ?_
  have hE123 : (.agg #[.int .i64 sh, .int .i64 sl, .slice a104 (v.take 70).length c105, .slice a2 p.length c2] : Value).cells.setIfInBounds 3 (.slice a111 (p.take 6).length c112) = (.agg #[.int .i64 sh, .int .i64 sl, .slice a104 (v.take 70).length c105, .slice a111 (p.take 6).length c112] : Value).cells := rfl
  rw [hE123] at S122
  refine T_nil ?_
  refine TT_done ?_
  refine W_seq ?_
  refine W_region ?_
  refine T_pev rfl rfl rfl rfl ?_
  refine T_callS rfl rfl g_aumbry_aumbrykeep_Cut_byte rfl rfl rfl rfl ((cutB_ok S122.le hu 2400).mono ?_)
  rintro e w129 ⟨a124, c125, hc126, rfl, hr127, hB128⟩
  have S130 := S122.call hB128
  refine ⟨_, rfl, trivial, ?_⟩
  refine T_pev rfl rfl rfl rfl ?_
  refine T_nil ?_
  refine W_seq ?_
  refine W_region ?_
  refine T_pev rfl rfl rfl rfl ?_
  refine T_callS rfl rfl g_aumbry_mss_Unpack rfl rfl rfl rfl ((unpackNo_ok S130.le hT hr127 hno).mono ?_)
  rintro e w132 ⟨rfl, hB131⟩
  have S133 := S130.call hB131
  refine ⟨_, rfl, trivial, ?_⟩
  refine T_pev rfl rfl rfl rfl ?_
  refine T_pev rfl rfl rfl rfl ?_
  refine T_pev rfl rfl rfl rfl ?_
  refine T_allocS S133 (fun _ _ => trivial) rfl rfl rfl rfl rfl rfl rfl fun b134 w135 S136 => ?_
  refine T_storeFS 0 S136 (fun _ _ => trivial) rfl rfl rfl rfl rfl rfl rfl rfl rfl (by first | rfl | simp [hVs, *]) (by first | rfl | simp [hVs, *]) (one_all rfl) fun w137 S138 => ?_
  refine T_pev rfl rfl rfl rfl ?_
  refine T_nil ?_
  refine W_seq ?_
  refine W_region ?_
  refine T_pev rfl rfl rfl rfl ?_
  refine T_callS rfl rfl g_aumbry_aumbryref07_Unpack rfl rfl rfl rfl ((unpackRNo_ok S138.le hr127 hno).mono ?_)
  rintro e w140 ⟨rfl, hB139⟩
  have S141 := S138.call hB139
  refine ⟨_, rfl, trivial, ?_⟩
  refine T_pev rfl rfl rfl rfl ?_
  refine T_pev rfl rfl rfl rfl ?_
  refine T_pev rfl rfl rfl rfl ?_
  refine T_allocS S141 (fun _ _ => trivial) rfl rfl rfl rfl rfl rfl rfl fun b142 w143 S144 => ?_
  refine T_storeFS 0 S144 (fun _ _ => trivial) rfl rfl rfl rfl rfl rfl rfl rfl rfl (by first | rfl | simp [hVs, *]) (by first | rfl | simp [hVs, *]) (one_all rfl) fun w145 S146 => ?_
  refine T_pev rfl rfl rfl rfl ?_
  refine T_nil ?_
  refine W_seq ?_
  obtain ⟨G148, hl149, S147, r150⟩ := S146.stillBlk 3 rfl
  obtain ⟨G152, hl153, S151, r154⟩ := S147.stillBlk 2 rfl
  refine W_plan (planF Tryd.prog G152 [39, 41, 47]) rfl (by kernel_rfl) S151.le ?_
  have S155 := S151.drew
  refine T_loadGA _ S155 (still_cells (hl153 _ _ r150)) rfl rfl rfl rfl rfl rfl rfl rfl (hVs hf) ?_
  refine T_pev rfl rfl rfl rfl ?_
  refine T_loadGA _ S155 (still_cells r154) rfl rfl rfl rfl rfl rfl rfl rfl (by first | rfl | simp [hVs, *]) ?_
  refine T_callS rfl rfl g_aumbry_mss_Verify rfl rfl rfl rfl ((verify_ok S155.le (hT.mono (hl149.trans hl153)) hf sh sl (hr107.mono (hl149.trans hl153)) (hr114.mono (hl149.trans hl153)) (hr10.mono (hl149.trans hl153)) (by omega)).mono ?_)
  rintro e w157 ⟨rfl, hB156⟩
  have S158 := S155.call hB156
  refine ⟨_, rfl, (((Hp.le.refl _)).trans S158.le), ?_⟩
  refine T_loadGAP _ (fun _ h => h) (still_cells (hl153 _ _ r150)) rfl rfl rfl rfl rfl rfl rfl rfl (hVs hf) ?_
  refine T_pev rfl rfl rfl rfl ?_
  refine T_loadGAP _ (fun _ h => h) (still_cells r154) rfl rfl rfl rfl rfl rfl rfl rfl (by first | rfl | simp [hVs, *]) ?_
  refine T_callS rfl rfl g_aumbry_aumbryref07_Verify rfl rfl rfl rfl ((verifyR_ok S158.le hf sh sl (hr107.mono (hl149.trans hl153)) (hr114.mono (hl149.trans hl153)) (hr10.mono (hl149.trans hl153)) (by omega)).mono ?_)
  rintro e w160 ⟨rfl, hB159⟩
  have S161 := S158.call hB159
  refine ⟨_, rfl, (((Hp.le.refl _)).trans S161.le), ?_⟩
  refine T_beq rfl rfl rfl rfl rfl rfl rfl ?_
  refine T_pev rfl rfl rfl rfl ?_
  refine T_bool 44 true rfl (decide_eq_true rfl) ?_
  refine T_yes rfl rfl rfl ?_ rfl
  refine T_loadGA _ S161 (still_cells r154) rfl rfl rfl rfl rfl rfl rfl rfl (by first | rfl | simp [hVs, *]) ?_
  refine T_yes rfl rfl rfl ?_ rfl
  refine T_callS rfl rfl g_aumbry_mss_Pack rfl rfl rfl rfl ((pack_ok S161.le sh sl (hr107.mono (hl149.trans hl153)) (hr114.mono (hl149.trans hl153)) (by omega) (by omega) (by omega) (by omega)).mono ?_)
  rintro e w167 ⟨a162, c163, hc164, rfl, ho165, hB166⟩
  have S168 := S161.own hB166 ho165
  refine ⟨_, rfl, (((Hp.le.refl _)).trans S168.le), ?_⟩
  refine T_yes rfl rfl rfl ?_ rfl
  refine T_loadGAP _ (fun _ h => h) (still_cells r154) rfl rfl rfl rfl rfl rfl rfl rfl (by first | rfl | simp [hVs, *]) ?_
  refine T_yes rfl rfl rfl ?_ rfl
  refine T_callS rfl rfl g_aumbry_aumbryref07_Pack rfl rfl rfl rfl ((packR_ok S168.le sh sl (hr107.mono (hl149.trans hl153)) (hr114.mono (hl149.trans hl153)) (by omega) (by omega) (by omega) (by omega)).mono ?_)
  rintro e w174 ⟨a169, c170, hc171, rfl, ho172, hB173⟩
  have S175 := S168.own hB173 ho172
  refine ⟨_, rfl, (((Hp.le.refl _)).trans S175.le), ?_⟩
  refine T_yes rfl rfl rfl ?_ rfl
  obtain ⟨G177, hl178, S176, r179⟩ := S175.stillRow 1 rfl
  obtain ⟨G181, hl182, S180, r183⟩ := S176.stillRow 0 rfl
  refine T_callS rfl rfl g_aumbry_aumbrykeep_Same_byte rfl rfl rfl rfl ((sameB_ok S180.le (r179.mono hl182) r183 (by first | omega | (simp; done) | (simp only [List.length_take, List.length_drop]; omega))).mono ?_)
  rintro e w185 ⟨rfl, hB184⟩
  have S186 := S180.call hB184
  refine ⟨_, rfl, (((hl178.trans hl182)).trans S186.le), ?_⟩
  refine T_pev rfl rfl rfl rfl ?_
  refine T_pev rfl rfl rfl rfl ?_
  refine T_bool 51 true rfl (decide_eq_true rfl) ?_
  refine T_yes rfl rfl rfl ?_ rfl
  refine T_pev rfl rfl rfl rfl ?_
  refine T_yes rfl rfl rfl ?_ rfl
  refine T_pev rfl rfl rfl rfl ?_
  refine T_yes rfl rfl rfl ?_ rfl
  refine T_beq rfl rfl rfl rfl rfl rfl rfl ?_
  refine T_pev rfl rfl rfl rfl ?_
  refine T_pev rfl rfl rfl rfl ?_
  refine T_bool 56 true rfl (decide_eq_true rfl) ?_
  refine T_yes rfl rfl rfl ?_ rfl
  refine T_loadFS 1 S186 rfl rfl rfl rfl rfl rfl rfl rfl rfl (by first | rfl | simp [hVs, *]) ?_
  refine T_yes rfl rfl rfl ?_ rfl
  refine T_loadFS 0 S186 rfl rfl rfl rfl rfl rfl rfl rfl rfl (by first | rfl | simp [hVs, *]) ?_
  refine T_yes rfl rfl rfl ?_ rfl
  refine T_callS rfl rfl g_aumbry_aumbrykeep_Sig rfl rfl rfl rfl ((keepSig_ok S186.le (0 : Int) (0 : Int) (nilH _) (nilH _) (nilH _) (nilH _) (Nat.zero_le 1000000) (Nat.zero_le 1000000)).mono ?_)
  rintro e w188 ⟨rfl, hB187⟩
  have S189 := S186.call hB187
  refine ⟨_, rfl, (((hl178.trans hl182)).trans S189.le), ?_⟩
  refine T_pev rfl rfl rfl rfl ?_
  refine T_pev rfl rfl rfl rfl ?_
  refine T_yes rfl rfl rfl ?_ rfl
  refine T_callS rfl rfl g_aumbry_aumbrylaw09_wakes rfl rfl rfl rfl ((wakes_ok S189.le (hT.mono (hl149.trans (hl153.trans (hl178.trans hl182))))).mono ?_)
  rintro e w191 ⟨rfl, hB190⟩
  have S192 := S189.call hB190
  refine ⟨_, rfl, (((hl178.trans hl182)).trans S192.le), ?_⟩
  refine T_pev rfl rfl rfl rfl ?_
  refine T_pev rfl rfl rfl rfl ?_
  refine T_nil ?_
  refine W_ret ?_
  refine ⟨_, ⟨_, _, rfl, rfl, rfl⟩, ?_⟩
  exact ⟨rfl, S192.below⟩


theorem mssRaw_ok {H : Hp} {w : World} (hH : H.le (hw w)) (hT : Tabs H) {fp : List UInt8} (hf : fp.length = 32) {m : List UInt8} {aa1 : Option Addr} {nn1 cc1 : Nat} (hv : Rd H (.slice aa1 nn1 cc1) nn1 1 (m.map bV)) (sh sl : Int) {v p : List (List UInt8)} {a1 a2 : Option Addr} {n1 n2 c1 c2 : Nat} (h1 : RdH H (.slice a1 n1 c1) 32 v) (h2 : RdH H (.slice a2 n2 c2) 32 p) {b : List UInt8} {aa3 : Option Addr} {nn3 cc3 : Nat} (hu : Rd H (.slice aa3 nn3 cc3) nn3 1 (b.map bV)) (hsh : sh ≤ 9223372036854775807) (hsl : sl ≤ 9223372036854775807) :
    Calls Tryd.prog 9 #[hV fp, .slice aa1 nn1 cc1, .agg #[.int .i64 sh, .int .i64 sl, .slice a1 n1 c1, .slice a2 n2 c2], .slice aa3 nn3 cc3] w fun e w' => e = .returned (.bool true) ∧ Below w.heap.size w w' := by
  by_cases hok : Go.Au.okU (b.take 2400)
  · exact mssRaw_y hH hT hf hv sh sl h1 h2 hu hsh hsl hok
  · exact mssRaw_n hH hT hf hv sh sl h1 h2 hu hsh hsl hok
end Go.Proofs.YtbkdncmjfhbafaaDoor
