/- The statements of chapter 9, walked: whether signatures are right. -/
import Derived.Test.YtbkdncmjfhbafaaDoorLaw09
import Derived.Test.YtbkdncmjfhbafaaDoorMssC
import Derived.Test.YtbkdncmjfhbafaaDoorFMss
set_option linter.unusedVariables false
set_option linter.unusedSimpArgs false
set_option maxRecDepth 8192
namespace Go.Proofs.YtbkdncmjfhbafaaDoor
open Go Go.F Go.RowKit

theorem mssVerifies_ok {H : Hp} {w : World} (hH : H.le (hw w)) (hT : Tabs H) (h leaf w0 b : Int) {seed : List UInt8} (hs : seed.length = 16) {m : List UInt8} {aa3 : Option Addr} {nn3 cc3 : Nat} (hv : Rd H (.slice aa3 nn3 cc3) nn3 1 (m.map bV)) {q : List UInt8} {aa4 : Option Addr} {nn4 cc4 : Nat} (hu : Rd H (.slice aa4 nn4 cc4) nn4 1 (q.map bV)) (hb2 : -9223372036854775808 ≤ b ∧ b ≤ 9223372036854775807) :
    Calls Tryd.prog 6 #[hV seed, .int .i64 h, .int .i64 leaf, .slice aa3 nn3 cc3, .slice aa4 nn4 cc4, .int .i64 w0, .int .i64 b] w fun e w' => e = .returned (.bool true) ∧ Below w.heap.size w w' := by
  obtain rfl : nn3 = m.length := hv.lenB
  have hvcap : m.length ≤ cc3 := hv.capOf
  obtain rfl : nn4 = q.length := hu.lenB
  have hucap : q.length ≤ cc4 := hu.capOf
  have hm40 : (m.take 40).length ≤ 40 := by rw [List.length_take]; omega
  have hq40 : (q.take 40).length ≤ 40 := by rw [List.length_take]; omega
  have hp16 := Go.Au.pow16 (h := (h % 3)) (by omega) (by omega)
  have hp0 : 0 < 2 ^ (h % 3).toNat := Nat.pow_pos (by omega)
  have hl1 := Int.emod_nonneg leaf (show ((2 ^ (h % 3).toNat : Nat) : Int) ≠ 0 by omega)
  have hl2 := Int.emod_lt_of_pos leaf (show 0 < ((2 ^ (h % 3).toNat : Nat) : Int) by omega)
  have hll := Go.Au.lg_mleaves seed (h % 3).toNat
  have hsl := Go.Au.sign_len seed (leaf % ((2 ^ (h % 3).toNat : Nat) : Int)) (m.take 40) 67
  have hbl := Go.Au.beside_len (Go.Au.rowP (Go.Au.mleaves seed (h % 3).toNat)) (leaf % ((2 ^ (h % 3).toNat : Nat) : Int)).toNat (Go.Au.lg (Go.Au.mleaves seed (h % 3).toNat).length)
  have ht9 : (h % 3).toNat ≤ 4 := by omega
  refine enter7 _ Tryd.func6 rfl Tryd.ntmps6 Tryd.results6 rfl ?_
  have S0 := St.start w hH
  refine W_seq ?_
  refine W_region ?_
  refine T_boxS S0 (fun _ _ => trivial) rfl rfl rfl rfl rfl rfl fun b1 w2 S3 => ?_
  refine T_pev rfl rfl rfl rfl ?_
  refine T_nil ?_
  refine W_seq ?_
  refine W_region ?_
  refine T_pev rfl rfl rfl rfl ?_
  refine T_callS rfl rfl g_aumbry_aumbrykeep_Within rfl rfl rfl rfl ((withinN_ok S3.le h (3 : Int) (by omega)).mono ?_)
  rintro e w5 ⟨rfl, hB4⟩
  have S6 := S3.call hB4
  refine ⟨_, rfl, trivial, ?_⟩
  refine T_pev rfl rfl rfl rfl ?_
  refine T_nil ?_
  refine W_seq ?_
  refine W_region ?_
  refine T_pev rfl rfl rfl rfl ?_
  refine T_pev rfl rfl rfl rfl ?_
  refine T_pev rfl rfl rfl rfl ?_
  refine T_re (v' := .int .u64 (h % 3)) (congrArg (Value.int .u64) (by rw [IntKind.wrap_u64]; omega)) ?_
  refine T_shl rfl rfl rfl rfl rfl rfl (by omega) ?_
  refine T_re (v' := .int .i64 ((2 ^ (h % 3).toNat : Nat) : Int)) (congrArg (Value.int .i64) (shlI (by omega) (by omega))) ?_
  refine T_callS rfl rfl g_aumbry_aumbrykeep_Within rfl rfl rfl rfl ((withinN_ok S6.le leaf ((2 ^ (h % 3).toNat : Nat) : Int) (by omega)).mono ?_)
  rintro e w8 ⟨rfl, hB7⟩
  have S9 := S6.call hB7
  refine ⟨_, rfl, trivial, ?_⟩
  refine T_pev rfl rfl rfl rfl ?_
  refine T_nil ?_
  refine W_seq ?_
  refine W_region ?_
  refine T_pev rfl rfl rfl rfl ?_
  refine T_callS rfl rfl g_aumbry_aumbrykeep_Cut_byte rfl rfl rfl rfl ((cutB_ok S9.le hv 40).mono ?_)
  rintro e w15 ⟨a10, c11, hc12, rfl, hr13, hB14⟩
  have S16 := S9.call hB14
  refine ⟨_, rfl, trivial, ?_⟩
  refine T_pev rfl rfl rfl rfl ?_
  refine T_callS rfl rfl g_aumbry_aumbrykeep_Cut_byte rfl rfl rfl rfl ((cutB_ok S16.le hu 40).mono ?_)
  rintro e w22 ⟨a17, c18, hc19, rfl, hr20, hB21⟩
  have S23 := S16.call hB21
  refine ⟨_, rfl, trivial, ?_⟩
  refine T_pev rfl rfl rfl rfl ?_
  refine T_pev rfl rfl rfl rfl ?_
  refine T_nil ?_
  refine W_seq ?_
  refine W_region ?_
  refine T_loadFS 0 S23 rfl rfl rfl rfl rfl rfl rfl rfl rfl (hVs hs) ?_
  refine T_pev rfl rfl rfl rfl ?_
  refine T_callS rfl rfl g_aumbry_aumbryref07_Print rfl rfl rfl rfl ((printR_ok S23.le (h % (3 : Int)) hs (by omega)).mono ?_)
  rintro e w25 ⟨rfl, hB24⟩
  have S26 := S23.call hB24
  refine ⟨_, rfl, trivial, ?_⟩
  refine T_allocS S26 (fun _ _ => trivial) rfl rfl rfl rfl rfl rfl rfl fun b27 w28 S29 => ?_
  refine T_storeFS 0 S29 (fun _ _ => trivial) rfl rfl rfl rfl rfl rfl rfl rfl rfl (hVs (Go.Au.mprint_len _ _)) (hVs (Go.Au.mprint_len _ _)) (one_hA _) fun w30 S31 => ?_
  refine T_nil ?_
  refine W_seq ?_
  refine W_region ?_
  refine T_loadFS 1 S31 rfl rfl rfl rfl rfl rfl rfl rfl rfl (hVs hs) ?_
  refine T_pev rfl rfl rfl rfl ?_
  refine T_pev rfl rfl rfl rfl ?_
  refine T_pev rfl rfl rfl rfl ?_
  refine T_callS rfl rfl g_aumbry_aumbryref07_Sign rfl rfl rfl rfl ((mssSignR_ok S31.le (h % (3 : Int)) (leaf % ((2 ^ (h % 3).toNat : Nat) : Int)) hs hr13 (by omega) ⟨hl1, hl2⟩ (by omega)).mono ?_)
  rintro e w39 ⟨a32, c33, a34, c35, rfl, r36, r37, hB38⟩
  obtain ⟨G41, eG43⟩ : ∃ G, G = F.ext H w30.heap.size w39 := ⟨_, rfl⟩
  obtain ⟨hl42, S40⟩ := S31.ext hB38
  rw [← eG43] at hl42 S40 r36 r37
  refine ⟨_, rfl, trivial, ?_⟩
  refine T_pev rfl rfl rfl rfl ?_
  refine T_pev rfl rfl rfl rfl ?_
  refine T_callS rfl rfl g_aumbry_aumbrylaw09_spoilt rfl rfl rfl rfl ((spoilt_ok S40.le (h % (3 : Int)) (leaf % ((2 ^ (h % 3).toNat : Nat) : Int)) r36 r37 w0 b (by omega) (by omega) (by omega) (by omega) (by omega)).mono ?_)
  rintro e w53 ⟨a44, n45, c46, a47, n48, c49, rfl, r50, r51, hB52⟩
  obtain ⟨G55, eG57⟩ : ∃ G, G = F.ext G41 w39.heap.size w53 := ⟨_, rfl⟩
  obtain ⟨hl56, S54⟩ := S40.ext hB52
  rw [← eG57] at hl56 S54 r50 r51
  refine ⟨_, rfl, trivial, ?_⟩
  refine T_allocS S54 (fun _ _ => trivial) rfl rfl rfl rfl rfl rfl rfl fun b58 w59 S60 => ?_
  refine T_storeFS 0 S60 (fun _ _ => trivial) rfl rfl rfl rfl rfl rfl rfl rfl rfl (by first | rfl | simp [hVs, *]) (by first | rfl | simp [hVs, *]) (one_all rfl) fun w61 S62 => ?_
  refine T_nil ?_
  refine W_seq ?_
  obtain ⟨G64, hl65, S63, r66⟩ := S62.stillBlk 1 rfl
  obtain ⟨G68, hl69, S67, r70⟩ := S63.stillBlk 0 rfl
  refine W_plan (planF Tryd.prog G68 [43, 45, 53, 55]) rfl (by kernel_rfl) S67.le ?_
  have S71 := S67.drew
  refine T_loadGA _ S71 (still_cells (hl69 _ _ r66)) rfl rfl rfl rfl rfl rfl rfl rfl (hVs (Go.Au.mprint_len _ _)) ?_
  refine T_pev rfl rfl rfl rfl ?_
  refine T_loadGA _ S71 (still_cells r70) rfl rfl rfl rfl rfl rfl rfl rfl (by first | rfl | simp [hVs, *]) ?_
  refine T_callS rfl rfl g_aumbry_mss_Verify rfl rfl rfl rfl ((verify_ok S71.le (hT.mono (hl42.trans (hl56.trans (hl65.trans hl69)))) (Go.Au.mprint_len _ _) (Go.Au.spH w0 b (h % (3 : Int))) (Go.Au.spL w0 b (leaf % ((2 ^ (h % 3).toNat : Nat) : Int))) (r50.mono (hl65.trans hl69)) (r51.mono (hl65.trans hl69)) (hr13.mono (hl42.trans (hl56.trans (hl65.trans hl69)))) (by omega)).mono ?_)
  rintro e w73 ⟨rfl, hB72⟩
  have S74 := S71.call hB72
  refine ⟨_, rfl, (((Hp.le.refl _)).trans S74.le), ?_⟩
  refine T_loadGAP _ (fun _ h => h) (still_cells (hl69 _ _ r66)) rfl rfl rfl rfl rfl rfl rfl rfl (hVs (Go.Au.mprint_len _ _)) ?_
  refine T_pev rfl rfl rfl rfl ?_
  refine T_loadGAP _ (fun _ h => h) (still_cells r70) rfl rfl rfl rfl rfl rfl rfl rfl (by first | rfl | simp [hVs, *]) ?_
  refine T_callS rfl rfl g_aumbry_aumbryref07_Verify rfl rfl rfl rfl ((verifyR_ok S74.le (Go.Au.mprint_len _ _) (Go.Au.spH w0 b (h % (3 : Int))) (Go.Au.spL w0 b (leaf % ((2 ^ (h % 3).toNat : Nat) : Int))) (r50.mono (hl65.trans hl69)) (r51.mono (hl65.trans hl69)) (hr13.mono (hl42.trans (hl56.trans (hl65.trans hl69)))) (by omega)).mono ?_)
  rintro e w76 ⟨rfl, hB75⟩
  have S77 := S74.call hB75
  refine ⟨_, rfl, (((Hp.le.refl _)).trans S77.le), ?_⟩
  refine T_beq rfl rfl rfl rfl rfl rfl rfl ?_
  refine T_pev rfl rfl rfl rfl ?_
  refine T_bool 48 true rfl (decide_eq_true rfl) ?_
  refine T_yes rfl rfl rfl ?_ rfl
  refine T_loadGA _ S77 (still_cells (hl69 _ _ r66)) rfl rfl rfl rfl rfl rfl rfl rfl (hVs (Go.Au.mprint_len _ _)) ?_
  refine T_yes rfl rfl rfl ?_ rfl
  refine T_pev rfl rfl rfl rfl ?_
  refine T_yes rfl rfl rfl ?_ rfl
  refine T_loadGA _ S77 (still_cells r70) rfl rfl rfl rfl rfl rfl rfl rfl (by first | rfl | simp [hVs, *]) ?_
  refine T_yes rfl rfl rfl ?_ rfl
  refine T_callS rfl rfl g_aumbry_mss_Verify rfl rfl rfl rfl ((verify_ok S77.le (hT.mono (hl42.trans (hl56.trans (hl65.trans hl69)))) (Go.Au.mprint_len _ _) (Go.Au.spH w0 b (h % (3 : Int))) (Go.Au.spL w0 b (leaf % ((2 ^ (h % 3).toNat : Nat) : Int))) (r50.mono (hl65.trans hl69)) (r51.mono (hl65.trans hl69)) (hr20.mono (hl42.trans (hl56.trans (hl65.trans hl69)))) (by omega)).mono ?_)
  rintro e w79 ⟨rfl, hB78⟩
  have S80 := S77.call hB78
  refine ⟨_, rfl, (((Hp.le.refl _)).trans S80.le), ?_⟩
  refine T_yes rfl rfl rfl ?_ rfl
  refine T_loadGAP _ (fun _ h => h) (still_cells (hl69 _ _ r66)) rfl rfl rfl rfl rfl rfl rfl rfl (hVs (Go.Au.mprint_len _ _)) ?_
  refine T_yes rfl rfl rfl ?_ rfl
  refine T_pev rfl rfl rfl rfl ?_
  refine T_yes rfl rfl rfl ?_ rfl
  refine T_loadGAP _ (fun _ h => h) (still_cells r70) rfl rfl rfl rfl rfl rfl rfl rfl (by first | rfl | simp [hVs, *]) ?_
  refine T_yes rfl rfl rfl ?_ rfl
  refine T_callS rfl rfl g_aumbry_aumbryref07_Verify rfl rfl rfl rfl ((verifyR_ok S80.le (Go.Au.mprint_len _ _) (Go.Au.spH w0 b (h % (3 : Int))) (Go.Au.spL w0 b (leaf % ((2 ^ (h % 3).toNat : Nat) : Int))) (r50.mono (hl65.trans hl69)) (r51.mono (hl65.trans hl69)) (hr20.mono (hl42.trans (hl56.trans (hl65.trans hl69)))) (by omega)).mono ?_)
  rintro e w82 ⟨rfl, hB81⟩
  have S83 := S80.call hB81
  refine ⟨_, rfl, (((Hp.le.refl _)).trans S83.le), ?_⟩
  refine T_yes rfl rfl rfl ?_ rfl
  refine T_beq rfl rfl rfl rfl rfl rfl rfl ?_
  refine T_pev rfl rfl rfl rfl ?_
  refine T_pev rfl rfl rfl rfl ?_
  refine T_bool 59 true rfl (decide_eq_true rfl) ?_
  refine T_yes rfl rfl rfl ?_ rfl
  refine T_callS rfl rfl g_aumbry_aumbrylaw09_wakes rfl rfl rfl rfl ((wakes_ok S83.le (hT.mono (hl42.trans (hl56.trans (hl65.trans hl69))))).mono ?_)
  rintro e w85 ⟨rfl, hB84⟩
  have S86 := S83.call hB84
  refine ⟨_, rfl, (((Hp.le.refl _)).trans S86.le), ?_⟩
  refine T_pev rfl rfl rfl rfl ?_
  refine T_pev rfl rfl rfl rfl ?_
  refine T_nil ?_
  refine W_ret ?_
  refine ⟨_, ⟨_, _, rfl, rfl, rfl⟩, ?_⟩
  exact ⟨rfl, S86.below⟩

end Go.Proofs.YtbkdncmjfhbafaaDoor
