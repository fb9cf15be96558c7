/- The statements of chapter 9, walked: signatures as bytes. -/
import Derived.Test.YtbkdncmjfhbafaaDoorLaw09b
import Derived.Test.YtbkdncmjfhbafaaDoorMssD
set_option linter.unusedVariables false
set_option linter.unusedSimpArgs false
set_option maxRecDepth 8192
namespace Go.Proofs.YtbkdncmjfhbafaaDoor
open Go Go.F Go.RowKit

theorem mssPacks_ok {H : Hp} {w : World} (hH : H.le (hw w)) (hT : Tabs H) (h leaf : Int) {seed : List UInt8} (hs : seed.length = 16) {m : List UInt8} {aa3 : Option Addr} {nn3 cc3 : Nat} (hv : Rd H (.slice aa3 nn3 cc3) nn3 1 (m.map bV)) :
    Calls Tryd.prog 8 #[hV seed, .int .i64 h, .int .i64 leaf, .slice aa3 nn3 cc3] w fun e w' => e = .returned (.bool true) ∧ Below w.heap.size w w' := by
  obtain rfl : nn3 = m.length := hv.lenB
  have hvcap : m.length ≤ cc3 := hv.capOf
  have hm40 : (m.take 40).length ≤ 40 := by rw [List.length_take]; omega
  have hp16 := Go.Au.pow16 (h := (h % 3)) (by omega) (by omega)
  have hp0 : 0 < 2 ^ (h % 3).toNat := Nat.pow_pos (by omega)
  have hl1 := Int.emod_nonneg leaf (show ((2 ^ (h % 3).toNat : Nat) : Int) ≠ 0 by omega)
  have hl2 := Int.emod_lt_of_pos leaf (show 0 < ((2 ^ (h % 3).toNat : Nat) : Int) by omega)
  have hll := Go.Au.lg_mleaves seed (h % 3).toNat
  have hml := Go.Au.mleaves_len seed (h % 3).toNat
  have hsl := Go.Au.sign_len seed (leaf % ((2 ^ (h % 3).toNat : Nat) : Int)) (m.take 40) 67
  have hbl := Go.Au.beside_len (Go.Au.rowP (Go.Au.mleaves seed (h % 3).toNat)) (leaf % ((2 ^ (h % 3).toNat : Nat) : Int)).toNat (Go.Au.lg (Go.Au.mleaves seed (h % 3).toNat).length)
  have ht9 : (h % 3).toNat ≤ 4 := by omega
  have hbs := Go.Au.beside_all (Go.Au.mleaves_all seed (h % 3).toNat) (i := (leaf % ((2 ^ (h % 3).toNat : Nat) : Int)).toNat) (by omega) (Nat.le_refl _)
  have hss := Go.Au.sign_all seed (leaf % ((2 ^ (h % 3).toNat : Nat) : Int)) (m.take 40) 67
  have hpkl := Go.Au.pack_len (h := (h % 3)) (l := (leaf % ((2 ^ (h % 3).toNat : Nat) : Int))) hss hbs
  have hok := Go.Au.pack_okU (h := (h % 3)) (l := (leaf % ((2 ^ (h % 3).toNat : Nat) : Int))) (by omega) (by omega) hss hbs hsl (hbl.trans hll)
  refine enter4 _ Tryd.func8 rfl Tryd.ntmps8 Tryd.results8 rfl ?_
  have S0 := St.start w hH
  refine W_seq ?_
  refine W_region ?_
  refine T_boxS S0 (fun _ _ => trivial) rfl rfl rfl rfl rfl rfl fun b1 w2 S3 => ?_
  refine T_pev rfl rfl rfl rfl ?_
  refine T_nil ?_
  refine W_seq ?_
  refine W_region ?_
  refine T_pev rfl rfl rfl rfl ?_
  refine T_callS rfl rfl g_aumbry_aumbrykeep_Within rfl rfl rfl rfl ((withinN_ok S3.le h (3 : Int) (by omega)).mono ?_)
  rintro e w5 ⟨rfl, hB4⟩
  have S6 := S3.call hB4
  refine ⟨_, rfl, trivial, ?_⟩
  refine T_pev rfl rfl rfl rfl ?_
  refine T_nil ?_
  refine W_seq ?_
  refine W_region ?_
  refine T_pev rfl rfl rfl rfl ?_
  refine T_pev rfl rfl rfl rfl ?_
  refine T_pev rfl rfl rfl rfl ?_
  refine T_re (v' := .int .u64 (h % 3)) (congrArg (Value.int .u64) (by rw [IntKind.wrap_u64]; omega)) ?_
  refine T_shl rfl rfl rfl rfl rfl rfl (by omega) ?_
  refine T_re (v' := .int .i64 ((2 ^ (h % 3).toNat : Nat) : Int)) (congrArg (Value.int .i64) (shlI (by omega) (by omega))) ?_
  refine T_callS rfl rfl g_aumbry_aumbrykeep_Within rfl rfl rfl rfl ((withinN_ok S6.le leaf ((2 ^ (h % 3).toNat : Nat) : Int) (by omega)).mono ?_)
  rintro e w8 ⟨rfl, hB7⟩
  have S9 := S6.call hB7
  refine ⟨_, rfl, trivial, ?_⟩
  refine T_pev rfl rfl rfl rfl ?_
  refine T_nil ?_
  refine W_seq ?_
  obtain ⟨G11, hl12, S10, r13⟩ := S9.stillBlk 0 rfl
  refine W_tree (planF Tryd.prog G11 [26]) (.step 0 (.step 1 (.step 2 (.step 3 (.fork 4 9 (.fork 5 9 (.step 6 (.step 7 (.step 8 (.step 9 (.step 10 (.step 11 .done)))))) (.step 5 (.step 6 (.step 7 (.step 8 (.step 10 (.step 11 .done))))))) (.step 4 (.step 5 (.step 6 (.step 7 (.step 8 (.step 10 (.step 11 .done)))))))))))) rfl (by kernel_rfl) S10.le ?_
  have S14 := S10.drew
  refine TT_step rfl ?_
  refine T_loadGAP _ (fun _ h => h) (still_cells r13) rfl rfl rfl rfl rfl rfl rfl rfl (hVs hs) ?_
  refine T_nil ?_
  refine TT_step rfl ?_
  refine T_pev rfl rfl rfl rfl ?_
  refine T_nil ?_
  refine TT_step rfl ?_
  refine T_pev rfl rfl rfl rfl ?_
  refine T_nil ?_
  refine TT_step rfl ?_
  refine T_pev rfl rfl rfl rfl ?_
  refine T_nil ?_
  refine TT_fork rfl rfl ?_ ?_
  · refine T_callS rfl rfl g_aumbry_aumbrykeep_Cut_byte rfl rfl rfl rfl ((cutB_ok S14.le (hv.mono hl12) 40).mono ?_)
    rintro e w20 ⟨a15, c16, hc17, rfl, hr18, hB19⟩
    have S21 := S14.call hB19
    refine ⟨_, rfl, (((Hp.le.refl _)).trans S21.le), ?_⟩
    refine T_nil ?_
    refine TT_fork rfl rfl ?_ ?_
    · refine T_callS rfl rfl g_aumbry_mss_Sign rfl rfl rfl rfl ((mssSign_ok S21.le (hT.mono hl12) (h % (3 : Int)) (leaf % ((2 ^ (h % 3).toNat : Nat) : Int)) hs hr18 (by omega) ⟨hl1, hl2⟩ (by omega)).mono ?_)
      rintro e w29 ⟨a22, c23, a24, c25, rfl, r26, r27, hB28⟩
      obtain ⟨G31, eG33⟩ : ∃ G, G = F.ext G11 w20.heap.size w29 := ⟨_, rfl⟩
      obtain ⟨hl32, S30⟩ := S21.ext hB28
      rw [← eG33] at hl32 S30 r26 r27
      refine ⟨_, rfl, ((hl32).trans S30.le), ?_⟩
      refine T_nil ?_
      refine TT_step rfl ?_
      refine T_pev rfl rfl rfl rfl ?_
      refine T_nil ?_
      refine TT_step rfl ?_
      refine T_pev rfl rfl rfl rfl ?_
      refine T_nil ?_
      refine TT_step rfl ?_
      refine T_pev rfl rfl rfl rfl ?_
      refine T_nil ?_
      refine TT_step rfl ?_
      refine T_allocS S30 (fun _ h => (hl32).trans h) rfl rfl rfl rfl rfl rfl rfl fun b34 w35 S36 => ?_
      refine T_nil ?_
      refine TT_step rfl ?_
      refine T_storeFS 0 S36 (fun _ h => (hl32).trans h) rfl rfl rfl rfl rfl rfl rfl rfl rfl (by first | rfl | simp [hVs, *]) (by first | rfl | simp [hVs, *]) (one_all rfl) fun w37 S38 => ?_
      refine T_nil ?_
      refine TT_step rfl ?_
      refine T_pev rfl rfl rfl rfl ?_
      refine T_nil ?_
      refine TT_done ?_
      refine W_seq ?_
      refine W_region ?_
      refine T_loadFS 0 S38 rfl rfl rfl rfl rfl rfl rfl rfl rfl (by first | rfl | simp [hVs, *]) ?_
      refine T_callS rfl rfl g_aumbry_mss_Pack rfl rfl rfl rfl ((pack_ok S38.le (h % (3 : Int)) (leaf % ((2 ^ (h % 3).toNat : Nat) : Int)) r26 r27 (by omega) (by omega) (by omega) (by omega)).mono ?_)
      rintro e w44 ⟨a39, c40, hc41, rfl, ho42, hB43⟩
      have S45 := S38.own hB43 ho42
      refine ⟨_, rfl, trivial, ?_⟩
      refine T_pev rfl rfl rfl rfl ?_
      refine T_nil ?_
      refine W_seq ?_
      refine W_region ?_
      refine T_pev rfl rfl rfl rfl ?_
      obtain ⟨G47, hl48, S46, r49⟩ := S45.stillRow 0 rfl
      refine T_callS rfl rfl g_aumbry_mss_Unpack rfl rfl rfl rfl ((unpackP_ok S46.le (hT.mono (hl12.trans (hl32.trans hl48))) (h % 3) (leaf % ((2 ^ (h % 3).toNat : Nat) : Int)) (v := (Go.Au.sign seed (leaf % ((2 ^ (h % 3).toNat : Nat) : Int)) (m.take 40) 67)) (p := (Go.Au.beside (Go.Au.rowP (Go.Au.mleaves seed (h % 3).toNat)) (leaf % ((2 ^ (h % 3).toNat : Nat) : Int)).toNat (Go.Au.lg (Go.Au.mleaves seed (h % 3).toNat).length))) r49 ⟨by omega, by omega⟩ ⟨hl1, by omega⟩ hss hbs hsl (hbl.trans hll)).mono ?_)
      rintro e w59 ⟨a50, n51, c52, a53, n54, c55, rfl, r56, r57, hB58⟩
      obtain ⟨G61, eG63⟩ : ∃ G, G = F.ext G47 w44.heap.size w59 := ⟨_, rfl⟩
      obtain ⟨hl62, S60⟩ := S46.ext hB58
      rw [← eG63] at hl62 S60 r56 r57
      refine ⟨_, rfl, trivial, ?_⟩
      refine T_pev rfl rfl rfl rfl ?_
      refine T_pev rfl rfl rfl rfl ?_
      refine T_pev rfl rfl rfl rfl ?_
      refine T_allocS S60 (fun _ _ => trivial) rfl rfl rfl rfl rfl rfl rfl fun b64 w65 S66 => ?_
      refine T_storeFS 0 S66 (fun _ _ => trivial) rfl rfl rfl rfl rfl rfl rfl rfl rfl (by first | rfl | simp [hVs, *]) (by first | rfl | simp [hVs, *]) (one_all rfl) fun w67 S68 => ?_
      refine T_pev rfl rfl rfl rfl ?_
      refine T_nil ?_
      refine W_seq ?_
      refine W_seq ?_
      refine W_region ?_
      refine T_pev rfl rfl rfl rfl ?_
      refine T_pev rfl rfl rfl rfl ?_
      refine T_pev rfl rfl rfl rfl ?_
      refine T_bool 43 false rfl (ndec_f rfl) ?_
      refine T_yes rfl rfl rfl ?_ rfl
      refine T_pev rfl rfl rfl rfl ?_
      refine T_yes rfl rfl rfl ?_ rfl
      refine T_pev rfl rfl rfl rfl ?_
      refine T_pev rfl rfl rfl rfl ?_
      refine T_pev rfl rfl rfl rfl ?_
      refine T_yes rfl rfl rfl ?_ rfl
      refine T_loadFS 0 S68 rfl rfl rfl rfl rfl rfl rfl rfl rfl (by first | rfl | simp [hVs, *]) ?_
      refine T_yes rfl rfl rfl ?_ rfl
      refine T_loadFS 1 S68 rfl rfl rfl rfl rfl rfl rfl rfl rfl (by first | rfl | simp [hVs, *]) ?_
      refine T_yes rfl rfl rfl ?_ rfl
      refine T_callS rfl rfl g_aumbry_aumbrykeep_Sig rfl rfl rfl rfl ((keepSig_ok S68.le (h % 3) (leaf % ((2 ^ (h % 3).toNat : Nat) : Int)) r56 r57 (r26.mono (hl48.trans hl62)) (r27.mono (hl48.trans hl62)) (by omega) (by omega)).mono ?_)
      rintro e w70 ⟨rfl, hB69⟩
      have S71 := S68.call hB69
      refine ⟨_, rfl, trivial, ?_⟩
      refine T_yes rfl rfl rfl ?_ rfl
      refine T_pev rfl rfl rfl rfl ?_
      refine T_pev rfl rfl rfl rfl ?_
      refine T_pev rfl rfl rfl rfl ?_
      refine T_yes rfl rfl rfl ?_ rfl
      refine T_pev rfl rfl rfl rfl ?_
      refine T_yes rfl rfl rfl ?_ rfl
      refine T_pev rfl rfl rfl rfl ?_
      refine T_yes rfl rfl rfl ?_ rfl
      refine T_pev rfl rfl rfl rfl ?_
      refine T_yes rfl rfl rfl ?_ rfl
      refine T_ari rfl rfl rfl rfl (by omega) ?_
      refine T_yes rfl rfl rfl ?_ rfl
      refine T_ari rfl rfl rfl rfl (by omega) ?_
      refine T_yes rfl rfl rfl ?_ rfl
      refine T_ari rfl rfl rfl rfl (by omega) ?_
      refine T_yes rfl rfl rfl ?_ rfl
      refine T_pev rfl rfl rfl rfl ?_
      refine T_pev rfl rfl rfl rfl ?_
      refine T_nil ?_
      refine W_bool 61 false rfl (ndec_f (by omega)) ?_
      refine W_cond_false rfl ?_
      refine W_skip ?_
      refine W_seq ?_
      refine W_region ?_
      refine T_pev rfl rfl rfl rfl ?_
      refine T_pev rfl rfl rfl rfl ?_
      refine T_pev rfl rfl rfl rfl ?_
      refine T_ari rfl rfl rfl rfl (by omega) ?_
      refine T_sliceR 0 ((Go.Au.pack (h % 3) (leaf % ((2 ^ (h % 3).toNat : Nat) : Int)) (Go.Au.sign seed (leaf % ((2 ^ (h % 3).toNat : Nat) : Int)) (m.take 40) 67) (Go.Au.beside (Go.Au.rowP (Go.Au.mleaves seed (h % 3).toNat)) (leaf % ((2 ^ (h % 3).toNat : Nat) : Int)).toNat (Go.Au.lg (Go.Au.mleaves seed (h % 3).toNat).length))).length - 1) (r49.mono hl62) rfl rfl rfl rfl rfl rfl rfl rfl rfl rfl (bound_of (by omega)) rfl (by omega) (by omega) fun a72 c73 hc74 r75 => ?_
      have r76 := Rd.cutB r75
      refine T_callS rfl rfl g_aumbry_mss_Unpack rfl rfl rfl rfl ((unpackNo_ok S71.le (hT.mono (hl12.trans (hl32.trans (hl48.trans hl62)))) r76 (Go.Au.okU_less hok)).mono ?_)
      rintro e w78 ⟨rfl, hB77⟩
      have S79 := S71.call hB77
      refine ⟨_, rfl, trivial, ?_⟩
      refine T_pev rfl rfl rfl rfl ?_
      refine T_pev rfl rfl rfl rfl ?_
      refine T_pev rfl rfl rfl rfl ?_
      refine T_allocS S79 (fun _ _ => trivial) rfl rfl rfl rfl rfl rfl rfl fun b80 w81 S82 => ?_
      refine T_storeFS 0 S82 (fun _ _ => trivial) rfl rfl rfl rfl rfl rfl rfl rfl rfl (by first | rfl | simp [hVs, *]) (by first | rfl | simp [hVs, *]) (one_all rfl) fun w83 S84 => ?_
      refine T_pev rfl rfl rfl rfl ?_
      refine T_nil ?_
      refine W_seq ?_
      refine W_region ?_
      refine T_pev rfl rfl rfl rfl ?_
      refine T_callS rfl rfl g_aumbry_aumbrykeep_Copy_byte rfl rfl rfl rfl ((copyB_ok S84.le (r49.mono hl62) (by omega)).mono ?_)
      rintro e w90 ⟨a85, c86, hc87, rfl, ho88, hB89⟩
      have S91 := S84.own hB89 ho88
      refine ⟨_, rfl, trivial, ?_⟩
      refine T_litS ([(0 : UInt8)].map bV) rfl rfl rfl rfl rfl rfl rfl rfl rfl rfl rfl rfl rfl (by simp [Value.cells]; rfl) rfl fun a92 w93 hB94 ho95 => ?_
      have S96 := S91.own hB94 ho95
      refine ⟨trivial, ?_⟩
      refine T_appendS 1 (((Go.Au.pack (h % (3 : Int)) (leaf % ((2 ^ (h % 3).toNat : Nat) : Int)) (Go.Au.sign seed (leaf % ((2 ^ (h % 3).toNat : Nat) : Int)) (m.take 40) 67) (Go.Au.beside (Go.Au.rowP (Go.Au.mleaves seed (h % (3 : Int)).toNat)) (leaf % ((2 ^ (h % 3).toNat : Nat) : Int)).toNat (Go.Au.lg (Go.Au.mleaves seed (h % (3 : Int)).toNat).length))) ++ [(0 : UInt8)]).length) (((Go.Au.pack (h % (3 : Int)) (leaf % ((2 ^ (h % 3).toNat : Nat) : Int)) (Go.Au.sign seed (leaf % ((2 ^ (h % 3).toNat : Nat) : Int)) (m.take 40) 67) (Go.Au.beside (Go.Au.rowP (Go.Au.mleaves seed (h % (3 : Int)).toNat)) (leaf % ((2 ^ (h % 3).toNat : Nat) : Int)).toNat (Go.Au.lg (Go.Au.mleaves seed (h % (3 : Int)).toNat).length))) ++ [(0 : UInt8)]).map bV) S96 (fun _ _ => trivial) rfl rfl rfl rfl rfl rfl rfl rfl rfl rfl rfl rfl rfl rfl (S96.rd 0 rfl) (one_bV _) (by first | rfl | (simp; done) | (simp; omega) | omega) (by simp) (by unfold maxLen; simp only [List.length_append, List.length_cons, List.length_nil]; omega) (by show _ * 1 ≤ _; simp only [List.length_append, List.length_cons, List.length_nil]; omega) fun a97 c98 w99 hc100 S101 => ?_
      obtain ⟨G103, hl104, S102, r105⟩ := S101.stillRow 1 rfl
      refine T_callS rfl rfl g_aumbry_mss_Unpack rfl rfl rfl rfl ((unpackNo_ok S102.le (hT.mono (hl12.trans (hl32.trans (hl48.trans (hl62.trans hl104))))) r105 (Go.Au.okU_more hok rfl)).mono ?_)
      rintro e w107 ⟨rfl, hB106⟩
      have S108 := S102.call hB106
      refine ⟨_, rfl, trivial, ?_⟩
      refine T_pev rfl rfl rfl rfl ?_
      refine T_pev rfl rfl rfl rfl ?_
      refine T_pev rfl rfl rfl rfl ?_
      refine T_allocS S108 (fun _ _ => trivial) rfl rfl rfl rfl rfl rfl rfl fun b109 w110 S111 => ?_
      refine T_storeFS 0 S111 (fun _ _ => trivial) rfl rfl rfl rfl rfl rfl rfl rfl rfl (by first | rfl | simp [hVs, *]) (by first | rfl | simp [hVs, *]) (one_all rfl) fun w112 S113 => ?_
      refine T_pev rfl rfl rfl rfl ?_
      refine T_nil ?_
      refine W_seq ?_
      refine W_region ?_
      refine T_pev rfl rfl rfl rfl ?_
      refine T_pev rfl rfl rfl rfl ?_
      refine T_pev rfl rfl rfl rfl ?_
      refine T_yes rfl rfl rfl ?_ rfl
      refine T_pev rfl rfl rfl rfl ?_
      refine T_yes rfl rfl rfl ?_ rfl
      refine T_pev rfl rfl rfl rfl ?_
      refine T_pev rfl rfl rfl rfl ?_
      refine T_pev rfl rfl rfl rfl ?_
      refine T_yes rfl rfl rfl ?_ rfl
      refine T_callS rfl rfl g_aumbry_aumbrylaw09_wakes rfl rfl rfl rfl ((wakes_ok S113.le (hT.mono (hl12.trans (hl32.trans (hl48.trans (hl62.trans hl104)))))).mono ?_)
      rintro e w115 ⟨rfl, hB114⟩
      have S116 := S113.call hB114
      refine ⟨_, rfl, trivial, ?_⟩
      refine T_pev rfl rfl rfl rfl ?_
      refine T_pev rfl rfl rfl rfl ?_
      refine T_nil ?_
      refine W_ret ?_
      refine ⟨_, ⟨_, _, rfl, rfl, rfl⟩, ?_⟩
      exact ⟨rfl, S116.below⟩
    refine T_allocS S21 (fun _ h => ((Hp.le.refl _)).trans h) rfl rfl rfl rfl rfl rfl rfl fun b117 w118 S119 => ?_
    refine T_nil ?_
    refine TT_step rfl ?_
    refine T_callS rfl rfl g_aumbry_mss_Sign rfl rfl rfl rfl ((mssSign_ok S119.le (hT.mono hl12) (h % (3 : Int)) (leaf % ((2 ^ (h % 3).toNat : Nat) : Int)) hs hr18 (by omega) ⟨hl1, hl2⟩ (by omega)).mono ?_)
    rintro e w127 ⟨a120, c121, a122, c123, rfl, r124, r125, hB126⟩
    obtain ⟨G129, eG131⟩ : ∃ G, G = F.ext G11 w118.heap.size w127 := ⟨_, rfl⟩
    obtain ⟨hl130, S128⟩ := S119.ext hB126
    rw [← eG131] at hl130 S128 r124 r125
    refine ⟨_, rfl, ((hl130).trans S128.le), ?_⟩
    refine T_nil ?_
    refine TT_step rfl ?_
    refine T_pev rfl rfl rfl rfl ?_
    refine T_nil ?_
    refine TT_step rfl ?_
    refine T_pev rfl rfl rfl rfl ?_
    refine T_nil ?_
    refine TT_step rfl ?_
    refine T_pev rfl rfl rfl rfl ?_
    refine T_nil ?_
    refine TT_step rfl ?_
    refine T_storeFS 0 S128 (fun _ h => (hl130).trans h) rfl rfl rfl rfl rfl rfl rfl rfl rfl (by first | rfl | simp [hVs, *]) (by first | rfl | simp [hVs, *]) (one_all rfl) fun w132 S133 => ?_
    refine T_nil ?_
    refine TT_step rfl ?_
    refine T_pev rfl rfl rfl rfl ?_
    refine T_nil ?_
    refine TT_done ?_
    refine W_seq ?_
    refine W_region ?_
    refine T_loadFS 0 S133 rfl rfl rfl rfl rfl rfl rfl rfl rfl (by first | rfl | simp [hVs, *]) ?_
    refine T_callS rfl rfl g_aumbry_mss_Pack rfl rfl rfl rfl ((pack_ok S133.le (h % (3 : Int)) (leaf % ((2 ^ (h % 3).toNat : Nat) : Int)) r124 r125 (by omega) (by omega) (by omega) (by omega)).mono ?_)
    rintro e w139 ⟨a134, c135, hc136, rfl, ho137, hB138⟩
    have S140 := S133.own hB138 ho137
    refine ⟨_, rfl, trivial, ?_⟩
    refine T_pev rfl rfl rfl rfl ?_
    refine T_nil ?_
    refine W_seq ?_
    refine W_region ?_
    refine T_pev rfl rfl rfl rfl ?_
    obtain ⟨G142, hl143, S141, r144⟩ := S140.stillRow 0 rfl
    refine T_callS rfl rfl g_aumbry_mss_Unpack rfl rfl rfl rfl ((unpackP_ok S141.le (hT.mono (hl12.trans (hl130.trans hl143))) (h % 3) (leaf % ((2 ^ (h % 3).toNat : Nat) : Int)) (v := (Go.Au.sign seed (leaf % ((2 ^ (h % 3).toNat : Nat) : Int)) (m.take 40) 67)) (p := (Go.Au.beside (Go.Au.rowP (Go.Au.mleaves seed (h % 3).toNat)) (leaf % ((2 ^ (h % 3).toNat : Nat) : Int)).toNat (Go.Au.lg (Go.Au.mleaves seed (h % 3).toNat).length))) r144 ⟨by omega, by omega⟩ ⟨hl1, by omega⟩ hss hbs hsl (hbl.trans hll)).mono ?_)
    rintro e w154 ⟨a145, n146, c147, a148, n149, c150, rfl, r151, r152, hB153⟩
    obtain ⟨G156, eG158⟩ : ∃ G, G = F.ext G142 w139.heap.size w154 := ⟨_, rfl⟩
    obtain ⟨hl157, S155⟩ := S141.ext hB153
    rw [← eG158] at hl157 S155 r151 r152
    refine ⟨_, rfl, trivial, ?_⟩
    refine T_pev rfl rfl rfl rfl ?_
    refine T_pev rfl rfl rfl rfl ?_
    refine T_pev rfl rfl rfl rfl ?_
    refine T_allocS S155 (fun _ _ => trivial) rfl rfl rfl rfl rfl rfl rfl fun b159 w160 S161 => ?_
    refine T_storeFS 0 S161 (fun _ _ => trivial) rfl rfl rfl rfl rfl rfl rfl rfl rfl (by first | rfl | simp [hVs, *]) (by first | rfl | simp [hVs, *]) (one_all rfl) fun w162 S163 => ?_
    refine T_pev rfl rfl rfl rfl ?_
    refine T_nil ?_
    refine W_seq ?_
    refine W_seq ?_
    refine W_region ?_
    refine T_pev rfl rfl rfl rfl ?_
    refine T_pev rfl rfl rfl rfl ?_
    refine T_pev rfl rfl rfl rfl ?_
    refine T_bool 43 false rfl (ndec_f rfl) ?_
    refine T_yes rfl rfl rfl ?_ rfl
    refine T_pev rfl rfl rfl rfl ?_
    refine T_yes rfl rfl rfl ?_ rfl
    refine T_pev rfl rfl rfl rfl ?_
    refine T_pev rfl rfl rfl rfl ?_
    refine T_pev rfl rfl rfl rfl ?_
    refine T_yes rfl rfl rfl ?_ rfl
    refine T_loadFS 0 S163 rfl rfl rfl rfl rfl rfl rfl rfl rfl (by first | rfl | simp [hVs, *]) ?_
    refine T_yes rfl rfl rfl ?_ rfl
    refine T_loadFS 1 S163 rfl rfl rfl rfl rfl rfl rfl rfl rfl (by first | rfl | simp [hVs, *]) ?_
    refine T_yes rfl rfl rfl ?_ rfl
    refine T_callS rfl rfl g_aumbry_aumbrykeep_Sig rfl rfl rfl rfl ((keepSig_ok S163.le (h % 3) (leaf % ((2 ^ (h % 3).toNat : Nat) : Int)) r151 r152 (r124.mono (hl143.trans hl157)) (r125.mono (hl143.trans hl157)) (by omega) (by omega)).mono ?_)
    rintro e w165 ⟨rfl, hB164⟩
    have S166 := S163.call hB164
    refine ⟨_, rfl, trivial, ?_⟩
    refine T_yes rfl rfl rfl ?_ rfl
    refine T_pev rfl rfl rfl rfl ?_
    refine T_pev rfl rfl rfl rfl ?_
    refine T_pev rfl rfl rfl rfl ?_
    refine T_yes rfl rfl rfl ?_ rfl
    refine T_pev rfl rfl rfl rfl ?_
    refine T_yes rfl rfl rfl ?_ rfl
    refine T_pev rfl rfl rfl rfl ?_
    refine T_yes rfl rfl rfl ?_ rfl
    refine T_pev rfl rfl rfl rfl ?_
    refine T_yes rfl rfl rfl ?_ rfl
    refine T_ari rfl rfl rfl rfl (by omega) ?_
    refine T_yes rfl rfl rfl ?_ rfl
    refine T_ari rfl rfl rfl rfl (by omega) ?_
    refine T_yes rfl rfl rfl ?_ rfl
    refine T_ari rfl rfl rfl rfl (by omega) ?_
    refine T_yes rfl rfl rfl ?_ rfl
    refine T_pev rfl rfl rfl rfl ?_
    refine T_pev rfl rfl rfl rfl ?_
    refine T_nil ?_
    refine W_bool 61 false rfl (ndec_f (by omega)) ?_
    refine W_cond_false rfl ?_
    refine W_skip ?_
    refine W_seq ?_
    refine W_region ?_
    refine T_pev rfl rfl rfl rfl ?_
    refine T_pev rfl rfl rfl rfl ?_
    refine T_pev rfl rfl rfl rfl ?_
    refine T_ari rfl rfl rfl rfl (by omega) ?_
    refine T_sliceR 0 ((Go.Au.pack (h % 3) (leaf % ((2 ^ (h % 3).toNat : Nat) : Int)) (Go.Au.sign seed (leaf % ((2 ^ (h % 3).toNat : Nat) : Int)) (m.take 40) 67) (Go.Au.beside (Go.Au.rowP (Go.Au.mleaves seed (h % 3).toNat)) (leaf % ((2 ^ (h % 3).toNat : Nat) : Int)).toNat (Go.Au.lg (Go.Au.mleaves seed (h % 3).toNat).length))).length - 1) (r144.mono hl157) rfl rfl rfl rfl rfl rfl rfl rfl rfl rfl (bound_of (by omega)) rfl (by omega) (by omega) fun a167 c168 hc169 r170 => ?_
    have r171 := Rd.cutB r170
    refine T_callS rfl rfl g_aumbry_mss_Unpack rfl rfl rfl rfl ((unpackNo_ok S166.le (hT.mono (hl12.trans (hl130.trans (hl143.trans hl157)))) r171 (Go.Au.okU_less hok)).mono ?_)
    rintro e w173 ⟨rfl, hB172⟩
    have S174 := S166.call hB172
    refine ⟨_, rfl, trivial, ?_⟩
    refine T_pev rfl rfl rfl rfl ?_
    refine T_pev rfl rfl rfl rfl ?_
    refine T_pev rfl rfl rfl rfl ?_
    refine T_allocS S174 (fun _ _ => trivial) rfl rfl rfl rfl rfl rfl rfl fun b175 w176 S177 => ?_
    refine T_storeFS 0 S177 (fun _ _ => trivial) rfl rfl rfl rfl rfl rfl rfl rfl rfl (by first | rfl | simp [hVs, *]) (by first | rfl | simp [hVs, *]) (one_all rfl) fun w178 S179 => ?_
    refine T_pev rfl rfl rfl rfl ?_
    refine T_nil ?_
    refine W_seq ?_
    refine W_region ?_
    refine T_pev rfl rfl rfl rfl ?_
    refine T_callS rfl rfl g_aumbry_aumbrykeep_Copy_byte rfl rfl rfl rfl ((copyB_ok S179.le (r144.mono hl157) (by omega)).mono ?_)
    rintro e w185 ⟨a180, c181, hc182, rfl, ho183, hB184⟩
    have S186 := S179.own hB184 ho183
    refine ⟨_, rfl, trivial, ?_⟩
    refine T_litS ([(0 : UInt8)].map bV) rfl rfl rfl rfl rfl rfl rfl rfl rfl rfl rfl rfl rfl (by simp [Value.cells]; rfl) rfl fun a187 w188 hB189 ho190 => ?_
    have S191 := S186.own hB189 ho190
    refine ⟨trivial, ?_⟩
    refine T_appendS 1 (((Go.Au.pack (h % (3 : Int)) (leaf % ((2 ^ (h % 3).toNat : Nat) : Int)) (Go.Au.sign seed (leaf % ((2 ^ (h % 3).toNat : Nat) : Int)) (m.take 40) 67) (Go.Au.beside (Go.Au.rowP (Go.Au.mleaves seed (h % (3 : Int)).toNat)) (leaf % ((2 ^ (h % 3).toNat : Nat) : Int)).toNat (Go.Au.lg (Go.Au.mleaves seed (h % (3 : Int)).toNat).length))) ++ [(0 : UInt8)]).length) (((Go.Au.pack (h % (3 : Int)) (leaf % ((2 ^ (h % 3).toNat : Nat) : Int)) (Go.Au.sign seed (leaf % ((2 ^ (h % 3).toNat : Nat) : Int)) (m.take 40) 67) (Go.Au.beside (Go.Au.rowP (Go.Au.mleaves seed (h % (3 : Int)).toNat)) (leaf % ((2 ^ (h % 3).toNat : Nat) : Int)).toNat (Go.Au.lg (Go.Au.mleaves seed (h % (3 : Int)).toNat).length))) ++ [(0 : UInt8)]).map bV) S191 (fun _ _ => trivial) rfl rfl rfl rfl rfl rfl rfl rfl rfl rfl rfl rfl rfl rfl (S191.rd 0 rfl) (one_bV _) (by first | rfl | (simp; done) | (simp; omega) | omega) (by simp) (by unfold maxLen; simp only [List.length_append, List.length_cons, List.length_nil]; omega) (by show _ * 1 ≤ _; simp only [List.length_append, List.length_cons, List.length_nil]; omega) fun a192 c193 w194 hc195 S196 => ?_
    obtain ⟨G198, hl199, S197, r200⟩ := S196.stillRow 1 rfl
    refine T_callS rfl rfl g_aumbry_mss_Unpack rfl rfl rfl rfl ((unpackNo_ok S197.le (hT.mono (hl12.trans (hl130.trans (hl143.trans (hl157.trans hl199))))) r200 (Go.Au.okU_more hok rfl)).mono ?_)
    rintro e w202 ⟨rfl, hB201⟩
    have S203 := S197.call hB201
    refine ⟨_, rfl, trivial, ?_⟩
    refine T_pev rfl rfl rfl rfl ?_
    refine T_pev rfl rfl rfl rfl ?_
    refine T_pev rfl rfl rfl rfl ?_
    refine T_allocS S203 (fun _ _ => trivial) rfl rfl rfl rfl rfl rfl rfl fun b204 w205 S206 => ?_
    refine T_storeFS 0 S206 (fun _ _ => trivial) rfl rfl rfl rfl rfl rfl rfl rfl rfl (by first | rfl | simp [hVs, *]) (by first | rfl | simp [hVs, *]) (one_all rfl) fun w207 S208 => ?_
    refine T_pev rfl rfl rfl rfl ?_
    refine T_nil ?_
    refine W_seq ?_
    refine W_region ?_
    refine T_pev rfl rfl rfl rfl ?_
    refine T_pev rfl rfl rfl rfl ?_
    refine T_pev rfl rfl rfl rfl ?_
    refine T_yes rfl rfl rfl ?_ rfl
    refine T_pev rfl rfl rfl rfl ?_
    refine T_yes rfl rfl rfl ?_ rfl
    refine T_pev rfl rfl rfl rfl ?_
    refine T_pev rfl rfl rfl rfl ?_
    refine T_pev rfl rfl rfl rfl ?_
    refine T_yes rfl rfl rfl ?_ rfl
    refine T_callS rfl rfl g_aumbry_aumbrylaw09_wakes rfl rfl rfl rfl ((wakes_ok S208.le (hT.mono (hl12.trans (hl130.trans (hl143.trans (hl157.trans hl199)))))).mono ?_)
    rintro e w210 ⟨rfl, hB209⟩
    have S211 := S208.call hB209
    refine ⟨_, rfl, trivial, ?_⟩
    refine T_pev rfl rfl rfl rfl ?_
    refine T_pev rfl rfl rfl rfl ?_
    refine T_nil ?_
    refine W_ret ?_
    refine ⟨_, ⟨_, _, rfl, rfl, rfl⟩, ?_⟩
    exact ⟨rfl, S211.below⟩
  refine T_allocS S14 (fun _ h => ((Hp.le.refl _)).trans h) rfl rfl rfl rfl rfl rfl rfl fun b212 w213 S214 => ?_
  refine T_nil ?_
  refine TT_step rfl ?_
  refine T_callS rfl rfl g_aumbry_aumbrykeep_Cut_byte rfl rfl rfl rfl ((cutB_ok S214.le (hv.mono hl12) 40).mono ?_)
  rintro e w220 ⟨a215, c216, hc217, rfl, hr218, hB219⟩
  have S221 := S214.call hB219
  refine ⟨_, rfl, (((Hp.le.refl _)).trans S221.le), ?_⟩
  refine T_nil ?_
  refine TT_step rfl ?_
  refine T_callS rfl rfl g_aumbry_mss_Sign rfl rfl rfl rfl ((mssSign_ok S221.le (hT.mono hl12) (h % (3 : Int)) (leaf % ((2 ^ (h % 3).toNat : Nat) : Int)) hs hr218 (by omega) ⟨hl1, hl2⟩ (by omega)).mono ?_)
  rintro e w229 ⟨a222, c223, a224, c225, rfl, r226, r227, hB228⟩
  obtain ⟨G231, eG233⟩ : ∃ G, G = F.ext G11 w220.heap.size w229 := ⟨_, rfl⟩
  obtain ⟨hl232, S230⟩ := S221.ext hB228
  rw [← eG233] at hl232 S230 r226 r227
  refine ⟨_, rfl, ((hl232).trans S230.le), ?_⟩
  refine T_nil ?_
  refine TT_step rfl ?_
  refine T_pev rfl rfl rfl rfl ?_
  refine T_nil ?_
  refine TT_step rfl ?_
  refine T_pev rfl rfl rfl rfl ?_
  refine T_nil ?_
  refine TT_step rfl ?_
  refine T_pev rfl rfl rfl rfl ?_
  refine T_nil ?_
  refine TT_step rfl ?_
  refine T_storeFS 0 S230 (fun _ h => (hl232).trans h) rfl rfl rfl rfl rfl rfl rfl rfl rfl (by first | rfl | simp [hVs, *]) (by first | rfl | simp [hVs, *]) (one_all rfl) fun w234 S235 => ?_
  refine T_nil ?_
  refine TT_step rfl ?_
  refine T_pev rfl rfl rfl rfl ?_
  refine T_nil ?_
  refine TT_done ?_
  refine W_seq ?_
  refine W_region ?_
  refine T_loadFS 0 S235 rfl rfl rfl rfl rfl rfl rfl rfl rfl (by first | rfl | simp [hVs, *]) ?_
  refine T_callS rfl rfl g_aumbry_mss_Pack rfl rfl rfl rfl ((pack_ok S235.le (h % (3 : Int)) (leaf % ((2 ^ (h % 3).toNat : Nat) : Int)) r226 r227 (by omega) (by omega) (by omega) (by omega)).mono ?_)
  rintro e w241 ⟨a236, c237, hc238, rfl, ho239, hB240⟩
  have S242 := S235.own hB240 ho239
  refine ⟨_, rfl, trivial, ?_⟩
  refine T_pev rfl rfl rfl rfl ?_
  refine T_nil ?_
  refine W_seq ?_
  refine W_region ?_
  refine T_pev rfl rfl rfl rfl ?_
  obtain ⟨G244, hl245, S243, r246⟩ := S242.stillRow 0 rfl
  refine T_callS rfl rfl g_aumbry_mss_Unpack rfl rfl rfl rfl ((unpackP_ok S243.le (hT.mono (hl12.trans (hl232.trans hl245))) (h % 3) (leaf % ((2 ^ (h % 3).toNat : Nat) : Int)) (v := (Go.Au.sign seed (leaf % ((2 ^ (h % 3).toNat : Nat) : Int)) (m.take 40) 67)) (p := (Go.Au.beside (Go.Au.rowP (Go.Au.mleaves seed (h % 3).toNat)) (leaf % ((2 ^ (h % 3).toNat : Nat) : Int)).toNat (Go.Au.lg (Go.Au.mleaves seed (h % 3).toNat).length))) r246 ⟨by omega, by omega⟩ ⟨hl1, by omega⟩ hss hbs hsl (hbl.trans hll)).mono ?_)
  rintro e w256 ⟨a247, n248, c249, a250, n251, c252, rfl, r253, r254, hB255⟩
  obtain ⟨G258, eG260⟩ : ∃ G, G = F.ext G244 w241.heap.size w256 := ⟨_, rfl⟩
  obtain ⟨hl259, S257⟩ := S243.ext hB255
  rw [← eG260] at hl259 S257 r253 r254
  refine ⟨_, rfl, trivial, ?_⟩
  refine T_pev rfl rfl rfl rfl ?_
  refine T_pev rfl rfl rfl rfl ?_
  refine T_pev rfl rfl rfl rfl ?_
  refine T_allocS S257 (fun _ _ => trivial) rfl rfl rfl rfl rfl rfl rfl fun b261 w262 S263 => ?_
  refine T_storeFS 0 S263 (fun _ _ => trivial) rfl rfl rfl rfl rfl rfl rfl rfl rfl (by first | rfl | simp [hVs, *]) (by first | rfl | simp [hVs, *]) (one_all rfl) fun w264 S265 => ?_
  refine T_pev rfl rfl rfl rfl ?_
  refine T_nil ?_
  refine W_seq ?_
  refine W_seq ?_
  refine W_region ?_
  refine T_pev rfl rfl rfl rfl ?_
  refine T_pev rfl rfl rfl rfl ?_
  refine T_pev rfl rfl rfl rfl ?_
  refine T_bool 43 false rfl (ndec_f rfl) ?_
  refine T_yes rfl rfl rfl ?_ rfl
  refine T_pev rfl rfl rfl rfl ?_
  refine T_yes rfl rfl rfl ?_ rfl
  refine T_pev rfl rfl rfl rfl ?_
  refine T_pev rfl rfl rfl rfl ?_
  refine T_pev rfl rfl rfl rfl ?_
  refine T_yes rfl rfl rfl ?_ rfl
  refine T_loadFS 0 S265 rfl rfl rfl rfl rfl rfl rfl rfl rfl (by first | rfl | simp [hVs, *]) ?_
  refine T_yes rfl rfl rfl ?_ rfl
  refine T_loadFS 1 S265 rfl rfl rfl rfl rfl rfl rfl rfl rfl (by first | rfl | simp [hVs, *]) ?_
  refine T_yes rfl rfl rfl ?_ rfl
  refine T_callS rfl rfl g_aumbry_aumbrykeep_Sig rfl rfl rfl rfl ((keepSig_ok S265.le (h % 3) (leaf % ((2 ^ (h % 3).toNat : Nat) : Int)) r253 r254 (r226.mono (hl245.trans hl259)) (r227.mono (hl245.trans hl259)) (by omega) (by omega)).mono ?_)
  rintro e w267 ⟨rfl, hB266⟩
  have S268 := S265.call hB266
  refine ⟨_, rfl, trivial, ?_⟩
  refine T_yes rfl rfl rfl ?_ rfl
  refine T_pev rfl rfl rfl rfl ?_
  refine T_pev rfl rfl rfl rfl ?_
  refine T_pev rfl rfl rfl rfl ?_
  refine T_yes rfl rfl rfl ?_ rfl
  refine T_pev rfl rfl rfl rfl ?_
  refine T_yes rfl rfl rfl ?_ rfl
  refine T_pev rfl rfl rfl rfl ?_
  refine T_yes rfl rfl rfl ?_ rfl
  refine T_pev rfl rfl rfl rfl ?_
  refine T_yes rfl rfl rfl ?_ rfl
  refine T_ari rfl rfl rfl rfl (by omega) ?_
  refine T_yes rfl rfl rfl ?_ rfl
  refine T_ari rfl rfl rfl rfl (by omega) ?_
  refine T_yes rfl rfl rfl ?_ rfl
  refine T_ari rfl rfl rfl rfl (by omega) ?_
  refine T_yes rfl rfl rfl ?_ rfl
  refine T_pev rfl rfl rfl rfl ?_
  refine T_pev rfl rfl rfl rfl ?_
  refine T_nil ?_
  refine W_bool 61 false rfl (ndec_f (by omega)) ?_
  refine W_cond_false rfl ?_
  refine W_skip ?_
  refine W_seq ?_
  refine W_region ?_
  refine T_pev rfl rfl rfl rfl ?_
  refine T_pev rfl rfl rfl rfl ?_
  refine T_pev rfl rfl rfl rfl ?_
  refine T_ari rfl rfl rfl rfl (by omega) ?_
  refine T_sliceR 0 ((Go.Au.pack (h % 3) (leaf % ((2 ^ (h % 3).toNat : Nat) : Int)) (Go.Au.sign seed (leaf % ((2 ^ (h % 3).toNat : Nat) : Int)) (m.take 40) 67) (Go.Au.beside (Go.Au.rowP (Go.Au.mleaves seed (h % 3).toNat)) (leaf % ((2 ^ (h % 3).toNat : Nat) : Int)).toNat (Go.Au.lg (Go.Au.mleaves seed (h % 3).toNat).length))).length - 1) (r246.mono hl259) rfl rfl rfl rfl rfl rfl rfl rfl rfl rfl (bound_of (by omega)) rfl (by omega) (by omega) fun a269 c270 hc271 r272 => ?_
  have r273 := Rd.cutB r272
  refine T_callS rfl rfl g_aumbry_mss_Unpack rfl rfl rfl rfl ((unpackNo_ok S268.le (hT.mono (hl12.trans (hl232.trans (hl245.trans hl259)))) r273 (Go.Au.okU_less hok)).mono ?_)
  rintro e w275 ⟨rfl, hB274⟩
  have S276 := S268.call hB274
  refine ⟨_, rfl, trivial, ?_⟩
  refine T_pev rfl rfl rfl rfl ?_
  refine T_pev rfl rfl rfl rfl ?_
  refine T_pev rfl rfl rfl rfl ?_
  refine T_allocS S276 (fun _ _ => trivial) rfl rfl rfl rfl rfl rfl rfl fun b277 w278 S279 => ?_
  refine T_storeFS 0 S279 (fun _ _ => trivial) rfl rfl rfl rfl rfl rfl rfl rfl rfl (by first | rfl | simp [hVs, *]) (by first | rfl | simp [hVs, *]) (one_all rfl) fun w280 S281 => ?_
  refine T_pev rfl rfl rfl rfl ?_
  refine T_nil ?_
  refine W_seq ?_
  refine W_region ?_
  refine T_pev rfl rfl rfl rfl ?_
  refine T_callS rfl rfl g_aumbry_aumbrykeep_Copy_byte rfl rfl rfl rfl ((copyB_ok S281.le (r246.mono hl259) (by omega)).mono ?_)
  rintro e w287 ⟨a282, c283, hc284, rfl, ho285, hB286⟩
  have S288 := S281.own hB286 ho285
  refine ⟨_, rfl, trivial, ?_⟩
  refine T_litS ([(0 : UInt8)].map bV) rfl rfl rfl rfl rfl rfl rfl rfl rfl rfl rfl rfl rfl (by simp [Value.cells]; rfl) rfl fun a289 w290 hB291 ho292 => ?_
  have S293 := S288.own hB291 ho292
  refine ⟨trivial, ?_⟩
  refine T_appendS 1 (((Go.Au.pack (h % (3 : Int)) (leaf % ((2 ^ (h % 3).toNat : Nat) : Int)) (Go.Au.sign seed (leaf % ((2 ^ (h % 3).toNat : Nat) : Int)) (m.take 40) 67) (Go.Au.beside (Go.Au.rowP (Go.Au.mleaves seed (h % (3 : Int)).toNat)) (leaf % ((2 ^ (h % 3).toNat : Nat) : Int)).toNat (Go.Au.lg (Go.Au.mleaves seed (h % (3 : Int)).toNat).length))) ++ [(0 : UInt8)]).length) (((Go.Au.pack (h % (3 : Int)) (leaf % ((2 ^ (h % 3).toNat : Nat) : Int)) (Go.Au.sign seed (leaf % ((2 ^ (h % 3).toNat : Nat) : Int)) (m.take 40) 67) (Go.Au.beside (Go.Au.rowP (Go.Au.mleaves seed (h % (3 : Int)).toNat)) (leaf % ((2 ^ (h % 3).toNat : Nat) : Int)).toNat (Go.Au.lg (Go.Au.mleaves seed (h % (3 : Int)).toNat).length))) ++ [(0 : UInt8)]).map bV) S293 (fun _ _ => trivial) rfl rfl rfl rfl rfl rfl rfl rfl rfl rfl rfl rfl rfl rfl (S293.rd 0 rfl) (one_bV _) (by first | rfl | (simp; done) | (simp; omega) | omega) (by simp) (by unfold maxLen; simp only [List.length_append, List.length_cons, List.length_nil]; omega) (by show _ * 1 ≤ _; simp only [List.length_append, List.length_cons, List.length_nil]; omega) fun a294 c295 w296 hc297 S298 => ?_
  obtain ⟨G300, hl301, S299, r302⟩ := S298.stillRow 1 rfl
  refine T_callS rfl rfl g_aumbry_mss_Unpack rfl rfl rfl rfl ((unpackNo_ok S299.le (hT.mono (hl12.trans (hl232.trans (hl245.trans (hl259.trans hl301))))) r302 (Go.Au.okU_more hok rfl)).mono ?_)
  rintro e w304 ⟨rfl, hB303⟩
  have S305 := S299.call hB303
  refine ⟨_, rfl, trivial, ?_⟩
  refine T_pev rfl rfl rfl rfl ?_
  refine T_pev rfl rfl rfl rfl ?_
  refine T_pev rfl rfl rfl rfl ?_
  refine T_allocS S305 (fun _ _ => trivial) rfl rfl rfl rfl rfl rfl rfl fun b306 w307 S308 => ?_
  refine T_storeFS 0 S308 (fun _ _ => trivial) rfl rfl rfl rfl rfl rfl rfl rfl rfl (by first | rfl | simp [hVs, *]) (by first | rfl | simp [hVs, *]) (one_all rfl) fun w309 S310 => ?_
  refine T_pev rfl rfl rfl rfl ?_
  refine T_nil ?_
  refine W_seq ?_
  refine W_region ?_
  refine T_pev rfl rfl rfl rfl ?_
  refine T_pev rfl rfl rfl rfl ?_
  refine T_pev rfl rfl rfl rfl ?_
  refine T_yes rfl rfl rfl ?_ rfl
  refine T_pev rfl rfl rfl rfl ?_
  refine T_yes rfl rfl rfl ?_ rfl
  refine T_pev rfl rfl rfl rfl ?_
  refine T_pev rfl rfl rfl rfl ?_
  refine T_pev rfl rfl rfl rfl ?_
  refine T_yes rfl rfl rfl ?_ rfl
  refine T_callS rfl rfl g_aumbry_aumbrylaw09_wakes rfl rfl rfl rfl ((wakes_ok S310.le (hT.mono (hl12.trans (hl232.trans (hl245.trans (hl259.trans hl301)))))).mono ?_)
  rintro e w312 ⟨rfl, hB311⟩
  have S313 := S310.call hB311
  refine ⟨_, rfl, trivial, ?_⟩
  refine T_pev rfl rfl rfl rfl ?_
  refine T_pev rfl rfl rfl rfl ?_
  refine T_nil ?_
  refine W_ret ?_
  refine ⟨_, ⟨_, _, rfl, rfl, rfl⟩, ?_⟩
  exact ⟨rfl, S313.below⟩

end Go.Proofs.YtbkdncmjfhbafaaDoor
