/- The statements of chapter 9, walked: what was signed. -/
import Derived.Test.YtbkdncmjfhbafaaDoorLaw09d
import Derived.Test.YtbkdncmjfhbafaaDoorMssF
set_option linter.unusedVariables false
set_option linter.unusedSimpArgs false
set_option maxRecDepth 8192
namespace Go.Proofs.YtbkdncmjfhbafaaDoor
open Go Go.F Go.RowKit

theorem mssTrue_ok {H : Hp} {w : World} (hH : H.le (hw w)) (hT : Tabs H) (h leaf : Int) {seed : List UInt8} (hs : seed.length = 16) {other : List UInt8} (ho : other.length = 16) {m : List UInt8} {aa4 : Option Addr} {nn4 cc4 : Nat} (hv : Rd H (.slice aa4 nn4 cc4) nn4 1 (m.map bV)) :
    Calls Tryd.prog 10 #[hV seed, hV other, .int .i64 h, .int .i64 leaf, .slice aa4 nn4 cc4] w fun e w' => e = .returned (.bool true) ∧ Below w.heap.size w w' := by
  obtain rfl : nn4 = m.length := hv.lenB
  have hvcap : m.length ≤ cc4 := hv.capOf
  have hm30 : (m.take 30).length ≤ 30 := by rw [List.length_take]; omega
  have hp16 := Go.Au.pow16 (h := (h % 3)) (by omega) (by omega)
  have hp0 : 0 < 2 ^ (h % 3).toNat := Nat.pow_pos (by omega)
  have hl1 := Int.emod_nonneg leaf (show ((2 ^ (h % 3).toNat : Nat) : Int) ≠ 0 by omega)
  have hl2 := Int.emod_lt_of_pos leaf (show 0 < ((2 ^ (h % 3).toNat : Nat) : Int) by omega)
  obtain ⟨lf, hlf⟩ : ∃ zz : Nat, leaf % ((2 ^ (h % 3).toNat : Nat) : Int) = (zz : Int) := ⟨(leaf % ((2 ^ (h % 3).toNat : Nat) : Int)).toNat, by omega⟩
  obtain ⟨M, hM⟩ : ∃ M : List UInt8, [(1 : UInt8)] ++ m.take 30 = M := ⟨_, rfl⟩
  have hMl : M.length = 1 + (m.take 30).length := by rw [← hM, List.length_append]; rfl
  have hll := Go.Au.lg_mleaves seed (h % 3).toNat
  have hsl := Go.Au.sign_len seed ((lf : Nat) : Int) M 67
  have hbl := Go.Au.beside_len (Go.Au.rowP (Go.Au.mleaves seed (h % 3).toNat)) ((lf : Nat) : Int).toNat (Go.Au.lg (Go.Au.mleaves seed (h % 3).toNat).length)
  have ht9 : (h % 3).toNat ≤ 4 := by omega
  refine enter5 _ Tryd.func10 rfl Tryd.ntmps10 Tryd.results10 rfl ?_
  have S0 := St.start w hH
  refine W_seq ?_
  refine W_region ?_
  refine T_boxS S0 (fun _ _ => trivial) rfl rfl rfl rfl rfl rfl fun b1 w2 S3 => ?_
  refine T_boxS S3 (fun _ _ => trivial) rfl rfl rfl rfl rfl rfl fun b4 w5 S6 => ?_
  refine T_pev rfl rfl rfl rfl ?_
  refine T_nil ?_
  refine W_seq ?_
  refine W_region ?_
  refine T_pev rfl rfl rfl rfl ?_
  refine T_callS rfl rfl g_aumbry_aumbrykeep_Within rfl rfl rfl rfl ((withinN_ok S6.le h (3 : Int) (by omega)).mono ?_)
  rintro e w8 ⟨rfl, hB7⟩
  have S9 := S6.call hB7
  refine ⟨_, rfl, trivial, ?_⟩
  refine T_pev rfl rfl rfl rfl ?_
  refine T_nil ?_
  refine W_seq ?_
  refine W_region ?_
  refine T_pev rfl rfl rfl rfl ?_
  refine T_pev rfl rfl rfl rfl ?_
  refine T_pev rfl rfl rfl rfl ?_
  refine T_re (v' := .int .u64 (h % 3)) (congrArg (Value.int .u64) (by rw [IntKind.wrap_u64]; omega)) ?_
  refine T_shl rfl rfl rfl rfl rfl rfl (by omega) ?_
  refine T_re (v' := .int .i64 ((2 ^ (h % 3).toNat : Nat) : Int)) (congrArg (Value.int .i64) (shlI (by omega) (by omega))) ?_
  refine T_callS rfl rfl g_aumbry_aumbrykeep_Within rfl rfl rfl rfl ((withinN_ok S9.le leaf ((2 ^ (h % 3).toNat : Nat) : Int) (by omega)).mono ?_)
  rintro e w11 ⟨rfl, hB10⟩
  have S12 := S9.call hB10
  refine ⟨_, rfl, trivial, ?_⟩
  refine T_re (v' := .int .i64 ((lf : Nat) : Int)) (congrArg (Value.int .i64) hlf) ?_
  refine T_pev rfl rfl rfl rfl ?_
  refine T_nil ?_
  refine W_seq ?_
  refine W_region ?_
  refine T_litS ([(1 : UInt8)].map bV) rfl rfl rfl rfl rfl rfl rfl rfl rfl rfl rfl rfl rfl (by simp [Value.cells]; rfl) rfl fun a13 w14 hB15 ho16 => ?_
  have S17 := S12.own hB15 ho16
  refine ⟨trivial, ?_⟩
  refine T_pev rfl rfl rfl rfl ?_
  refine T_callS rfl rfl g_aumbry_aumbrykeep_Cut_byte rfl rfl rfl rfl ((cutB_ok S17.le hv 30).mono ?_)
  rintro e w23 ⟨a18, c19, hc20, rfl, hr21, hB22⟩
  have S24 := S17.call hB22
  refine ⟨_, rfl, trivial, ?_⟩
  have hD25 : ([(1 : UInt8)] ++ (m.take 30)) = M := hM
  refine T_appendS 0 M.length (M.map bV) S24 (fun _ _ => trivial) rfl rfl rfl rfl rfl rfl rfl rfl rfl rfl rfl rfl rfl rfl (hr21.mono S24.le) (one_bV _) (by rw [← hD25]; first | rfl | (simp; done) | (simp; omega) | omega) (by rw [← hD25]; simp) (by unfold maxLen; rw [← hD25]; simp only [List.length_append, List.length_cons, List.length_nil]; omega) (by show _ * 1 ≤ _; rw [← hD25]; simp only [List.length_append, List.length_cons, List.length_nil]; omega) fun a26 c27 w28 hc29 S30 => ?_
  refine T_pev rfl rfl rfl rfl ?_
  refine T_nil ?_
  refine W_seq ?_
  refine W_region ?_
  refine T_loadFS 2 S30 rfl rfl rfl rfl rfl rfl rfl rfl rfl (hVs hs) ?_
  refine T_pev rfl rfl rfl rfl ?_
  refine T_callS rfl rfl g_aumbry_mss_Print rfl rfl rfl rfl ((print_ok S30.le hT (h % (3 : Int)) hs (by omega)).mono ?_)
  rintro e w32 ⟨rfl, hB31⟩
  have S33 := S30.call hB31
  refine ⟨_, rfl, trivial, ?_⟩
  refine T_pev rfl rfl rfl rfl ?_
  refine T_pev rfl rfl rfl rfl ?_
  refine T_pev rfl rfl rfl rfl ?_
  refine T_allocS S33 (fun _ _ => trivial) rfl rfl rfl rfl rfl rfl rfl fun b34 w35 S36 => ?_
  refine T_storeFS 0 S36 (fun _ _ => trivial) rfl rfl rfl rfl rfl rfl rfl rfl rfl (hVs (Go.Au.mprint_len _ _)) (hVs (Go.Au.mprint_len _ _)) (one_hA _) fun w37 S38 => ?_
  refine T_pev rfl rfl rfl rfl ?_
  refine T_nil ?_
  refine W_seq ?_
  refine W_region ?_
  refine T_loadFS 2 S38 rfl rfl rfl rfl rfl rfl rfl rfl rfl (hVs ho) ?_
  refine T_pev rfl rfl rfl rfl ?_
  refine T_callS rfl rfl g_aumbry_mss_Print rfl rfl rfl rfl ((print_ok S38.le hT (h % (3 : Int)) ho (by omega)).mono ?_)
  rintro e w40 ⟨rfl, hB39⟩
  have S41 := S38.call hB39
  refine ⟨_, rfl, trivial, ?_⟩
  refine T_pev rfl rfl rfl rfl ?_
  refine T_pev rfl rfl rfl rfl ?_
  refine T_pev rfl rfl rfl rfl ?_
  refine T_allocS S41 (fun _ _ => trivial) rfl rfl rfl rfl rfl rfl rfl fun b42 w43 S44 => ?_
  refine T_storeFS 0 S44 (fun _ _ => trivial) rfl rfl rfl rfl rfl rfl rfl rfl rfl (hVs (Go.Au.mprint_len _ _)) (hVs (Go.Au.mprint_len _ _)) (one_hA _) fun w45 S46 => ?_
  refine T_pev rfl rfl rfl rfl ?_
  refine T_nil ?_
  refine W_seq ?_
  refine W_region ?_
  refine T_loadFS 4 S46 rfl rfl rfl rfl rfl rfl rfl rfl rfl (hVs hs) ?_
  refine T_pev rfl rfl rfl rfl ?_
  refine T_pev rfl rfl rfl rfl ?_
  refine T_pev rfl rfl rfl rfl ?_
  obtain ⟨G48, hl49, S47, r50⟩ := S46.stillRow 2 rfl
  refine T_callS rfl rfl g_aumbry_mss_Sign rfl rfl rfl rfl ((mssSign_ok S47.le (hT.mono hl49) (h % (3 : Int)) ((lf : Nat) : Int) hs r50 (by omega) ⟨by omega, by omega⟩ (by omega)).mono ?_)
  rintro e w58 ⟨a51, c52, a53, c54, rfl, r55, r56, hB57⟩
  obtain ⟨G60, eG62⟩ : ∃ G, G = F.ext G48 w45.heap.size w58 := ⟨_, rfl⟩
  obtain ⟨hl61, S59⟩ := S47.ext hB57
  rw [← eG62] at hl61 S59 r55 r56
  refine ⟨_, rfl, trivial, ?_⟩
  refine T_pev rfl rfl rfl rfl ?_
  refine T_pev rfl rfl rfl rfl ?_
  refine T_pev rfl rfl rfl rfl ?_
  refine T_allocS S59 (fun _ _ => trivial) rfl rfl rfl rfl rfl rfl rfl fun b63 w64 S65 => ?_
  refine T_storeFS 0 S65 (fun _ _ => trivial) rfl rfl rfl rfl rfl rfl rfl rfl rfl (by first | rfl | simp [hVs, *]) (by first | rfl | simp [hVs, *]) (one_all rfl) fun w66 S67 => ?_
  refine T_pev rfl rfl rfl rfl ?_
  refine T_nil ?_
  refine W_seq ?_
  refine W_seq ?_
  refine W_region ?_
  refine T_pev rfl rfl rfl rfl ?_
  refine T_pev rfl rfl rfl rfl ?_
  refine T_pev rfl rfl rfl rfl ?_
  refine T_bool 53 false rfl (ndec_f rfl) ?_
  refine T_yes rfl rfl rfl ?_ rfl
  refine T_pev rfl rfl rfl rfl ?_
  refine T_yes rfl rfl rfl ?_ rfl
  refine T_pev rfl rfl rfl rfl ?_
  refine T_pev rfl rfl rfl rfl ?_
  refine T_pev rfl rfl rfl rfl ?_
  refine T_bool 57 false rfl (ndec_f rfl) ?_
  refine T_yes rfl rfl rfl ?_ rfl
  refine T_pev rfl rfl rfl rfl ?_
  refine T_yes rfl rfl rfl ?_ rfl
  refine T_pev rfl rfl rfl rfl ?_
  refine T_pev rfl rfl rfl rfl ?_
  refine T_pev rfl rfl rfl rfl ?_
  refine T_bool 61 false rfl (ndec_f rfl) ?_
  refine T_yes rfl rfl rfl ?_ rfl
  refine T_loadFS 2 S67 rfl rfl rfl rfl rfl rfl rfl rfl rfl (hVs (Go.Au.mprint_len _ _)) ?_
  refine T_yes rfl rfl rfl ?_ rfl
  refine T_pev rfl rfl rfl rfl ?_
  refine T_yes rfl rfl rfl ?_ rfl
  refine T_loadFS 0 S67 rfl rfl rfl rfl rfl rfl rfl rfl rfl (by first | rfl | simp [hVs, *]) ?_
  refine T_yes rfl rfl rfl ?_ rfl
  refine T_callS rfl rfl g_aumbry_mss_Verify rfl rfl rfl rfl ((verify_ok S67.le (hT.mono (hl49.trans hl61)) (Go.Au.mprint_len _ _) (h % (3 : Int)) ((lf : Nat) : Int) r55 r56 (r50.mono hl61) (by omega)).mono ?_)
  rintro e w69 ⟨rfl, hB68⟩
  have S70 := S67.call hB68
  refine ⟨_, rfl, trivial, ?_⟩
  refine T_yes rfl rfl rfl ?_ rfl
  refine T_pev rfl rfl rfl rfl ?_
  refine T_pev rfl rfl rfl rfl ?_
  refine T_nil ?_
  refine W_bool 67 false rfl (by rw [Go.Au.vrf_self ⟨by omega, by omega⟩ ⟨by omega, by omega⟩]; rfl) ?_
  refine W_cond_false rfl ?_
  refine W_skip ?_
  refine W_seq ?_
  refine W_region ?_
  refine T_pev rfl rfl rfl rfl ?_
  refine T_pev rfl rfl rfl rfl ?_
  refine T_re (v' := .int .u64 (h % 3)) (congrArg (Value.int .u64) (by rw [IntKind.wrap_u64]; omega)) ?_
  refine T_shl rfl rfl rfl rfl rfl rfl (by omega) ?_
  refine T_re (v' := .int .i64 ((2 ^ (h % 3).toNat : Nat) : Int)) (congrArg (Value.int .i64) (shlI (by omega) (by omega))) ?_
  refine T_makeS (2 ^ (h % 3).toNat) S70 (fun _ _ => trivial) rfl rfl rfl rfl rfl rfl rfl rfl rfl rfl (by omega) (by omega) (by show 24 * _ ≤ _; omega) (by unfold maxLen; omega) fun b71 w72 S73 => ?_
  have S74 := S73.toRow (size := 1) (m := (2 ^ (h % 3).toNat)) (xs := (List.replicate (2 ^ (h % 3).toNat) (Value.slice none 0 0))) 0 rfl (made_s rfl) (by rw [List.length_replicate, Nat.mul_one]) (by unfold maxLen; omega)
  have rs75 := Rds.nils G60 (2 ^ (h % 3).toNat)
  refine T_pev rfl rfl rfl rfl ?_
  refine T_nil ?_
  refine W_seq ?_
  refine W_region ?_
  refine T_pev rfl rfl rfl rfl ?_
  refine T_pev rfl rfl rfl rfl ?_
  refine T_pev rfl rfl rfl rfl ?_
  refine T_idxm (lf * 1) rfl rfl rfl rfl rfl rfl rfl rfl (by omega) (by show 0 + Int.toNat _ * 1 = _; omega) ?_
  refine T_storeRow 0 ((List.replicate (2 ^ (h % 3).toNat) (Value.slice none 0 0)).set lf (.slice a26 M.length c27)) S74 (fun _ _ => trivial) rfl rfl rfl rfl rfl rfl rfl rfl rfl (by show _ + 1 ≤ _ * 1; omega) (one_all rfl) (set_cells (by simp; omega) rfl) fun w76 S77 => ?_
  have rs78 := Rds.set rs75 lf (Rd.canonB (r50.mono hl61))
  refine T_nil ?_
  refine W_seq ?_
  refine W_region ?_
  refine T_loadFS 5 S77 rfl rfl rfl rfl rfl rfl rfl rfl rfl (hVs hs) ?_
  refine T_pev rfl rfl rfl rfl ?_
  refine T_pev rfl rfl rfl rfl ?_
  refine T_pev rfl rfl rfl rfl ?_
  refine T_loadFS 1 S77 rfl rfl rfl rfl rfl rfl rfl rfl rfl (by first | rfl | simp [hVs, *]) ?_
  obtain ⟨G80, hl81, S79, r82⟩ := S77.stillRow 0 rfl
  have r83 := RdL.mk r82 (rs78.mono hl81)
  refine T_callS rfl rfl g_aumbry_mss_Explain rfl rfl rfl rfl ((explainNo_ok S79.le (hT.mono (hl49.trans (hl61.trans hl81))) (h % (3 : Int)) hs r83 (r50.mono (hl61.trans hl81)) (h % (3 : Int)) ((lf : Nat) : Int) (r55.mono hl81) (r56.mono hl81) ⟨by omega, by omega⟩ (by omega) (by omega) ⟨by omega, by rw [List.length_set, List.length_replicate]; omega⟩ (Go.Au.set_get (by omega)) (Go.Au.vrf_self ⟨by omega, by omega⟩ ⟨by omega, by omega⟩)).mono ?_)
  rintro e w85 ⟨rfl, hB84⟩
  have S86 := S79.call hB84
  refine ⟨_, rfl, trivial, ?_⟩
  refine T_pev rfl rfl rfl rfl ?_
  refine T_pev rfl rfl rfl rfl ?_
  refine T_pev rfl rfl rfl rfl ?_
  refine T_allocS S86 (fun _ _ => trivial) rfl rfl rfl rfl rfl rfl rfl fun b87 w88 S89 => ?_
  refine T_storeFS 0 S89 (fun _ _ => trivial) rfl rfl rfl rfl rfl rfl rfl rfl rfl (fV_size List.length_replicate) (fV_size List.length_replicate) (fV_one) fun w90 S91 => ?_
  refine T_pev rfl rfl rfl rfl ?_
  refine T_nil ?_
  refine W_seq ?_
  obtain ⟨G93, hl94, S92, r95⟩ := S91.stillBlk 3 rfl
  obtain ⟨G97, hl98, S96, r99⟩ := S92.stillBlk 2 rfl
  refine W_plan (planF Tryd.prog G97 [97, 98]) rfl (by kernel_rfl) S96.le ?_
  have S100 := S96.drew
  refine T_pev rfl rfl rfl rfl ?_
  refine T_pev rfl rfl rfl rfl ?_
  refine T_pev rfl rfl rfl rfl ?_
  refine T_yes rfl rfl rfl ?_ rfl
  refine T_fldm 2 rfl rfl rfl rfl rfl rfl (by decide) rfl rfl rfl ?_
  refine T_yes rfl rfl rfl ?_ rfl
  refine T_loadS 0 2 S100 rfl rfl rfl rfl rfl rfl rfl rfl rfl fV_2 ?_
  refine T_yes rfl rfl rfl ?_ rfl
  refine T_pev rfl rfl rfl rfl ?_
  refine T_pev rfl rfl rfl rfl ?_
  refine T_pev rfl rfl rfl rfl ?_
  refine T_yes rfl rfl rfl ?_ rfl
  refine T_loadGA _ S100 (still_cells r99) rfl rfl rfl rfl rfl rfl rfl rfl (hVs (Go.Au.mprint_len _ _)) ?_
  refine T_yes rfl rfl rfl ?_ rfl
  refine T_pev rfl rfl rfl rfl ?_
  refine T_yes rfl rfl rfl ?_ rfl
  refine T_loadFS 1 S100 rfl rfl rfl rfl rfl rfl rfl rfl rfl (by first | rfl | simp [hVs, *]) ?_
  refine T_yes rfl rfl rfl ?_ rfl
  refine T_callS rfl rfl g_aumbry_mss_Verify rfl rfl rfl rfl ((verify_ok S100.le (hT.mono (hl49.trans (hl61.trans (hl81.trans (hl94.trans hl98))))) (Go.Au.mprint_len _ _) (h % (3 : Int)) ((lf : Nat) : Int) (r55.mono (hl81.trans (hl94.trans hl98))) (r56.mono (hl81.trans (hl94.trans hl98))) (r50.mono (hl61.trans (hl81.trans (hl94.trans hl98)))) (by omega)).mono ?_)
  rintro e w102 ⟨rfl, hB101⟩
  have S103 := S100.call hB101
  refine ⟨_, rfl, (((Hp.le.refl _)).trans S103.le), ?_⟩
  refine T_yes rfl rfl rfl ?_ rfl
  refine T_loadGAP _ (fun _ h => h) (still_cells (hl98 _ _ r95)) rfl rfl rfl rfl rfl rfl rfl rfl (hVs (Go.Au.mprint_len _ _)) ?_
  refine T_yes rfl rfl rfl ?_ rfl
  refine T_loadGAP _ (fun _ h => h) (still_cells r99) rfl rfl rfl rfl rfl rfl rfl rfl (hVs (Go.Au.mprint_len _ _)) ?_
  refine T_yes rfl rfl rfl ?_ rfl
  refine T_eqB (xs := Go.Au.mprint seed (h % (3 : Int))) (ys := Go.Au.mprint other (h % (3 : Int))) rfl rfl rfl rfl rfl rfl rfl rfl rfl rfl rfl (Go.Au.mprint_len _ _) (Go.Au.mprint_len _ _) ?_
  refine T_yes rfl rfl rfl ?_ rfl
  refine T_beq rfl rfl rfl rfl rfl rfl rfl ?_
  refine T_pev rfl rfl rfl rfl ?_
  refine T_pev rfl rfl rfl rfl ?_
  refine T_bool 102 true rfl (decide_eq_true (Go.Au.vrf_own ⟨by omega, by omega⟩ ⟨by omega, by omega⟩)) ?_
  refine T_yes rfl rfl rfl ?_ rfl
  refine T_loadGA _ S103 (still_cells (hl98 _ _ r95)) rfl rfl rfl rfl rfl rfl rfl rfl (hVs (Go.Au.mprint_len _ _)) ?_
  refine T_yes rfl rfl rfl ?_ rfl
  refine T_loadGA _ S103 (still_cells r99) rfl rfl rfl rfl rfl rfl rfl rfl (hVs (Go.Au.mprint_len _ _)) ?_
  refine T_yes rfl rfl rfl ?_ rfl
  refine T_eqB (xs := Go.Au.mprint seed (h % (3 : Int))) (ys := Go.Au.mprint other (h % (3 : Int))) rfl rfl rfl rfl rfl rfl rfl rfl rfl rfl rfl (Go.Au.mprint_len _ _) (Go.Au.mprint_len _ _) ?_
  refine T_yes rfl rfl rfl ?_ rfl
  refine T_pev rfl rfl rfl rfl ?_
  refine T_part (t := 106) rfl (List.cons_ne_nil _ _) (fun h104' => ?_) (fun h104' => ?_)
  · have h104 := of_decide_eq_true h104'
    refine T_no rfl rfl rfl rfl rfl rfl ?_
    refine T_no rfl rfl rfl rfl rfl rfl ?_
    refine T_no rfl rfl rfl rfl rfl rfl ?_
    refine T_yes rfl rfl rfl ?_ rfl
    refine T_pev rfl rfl rfl rfl ?_
    refine T_pev rfl rfl rfl rfl ?_
    refine T_pev rfl rfl rfl rfl ?_
    refine T_yes rfl rfl rfl ?_ rfl
    refine T_callS rfl rfl g_aumbry_aumbrylaw09_wakes rfl rfl rfl rfl ((wakes_ok S103.le (hT.mono (hl49.trans (hl61.trans (hl81.trans (hl94.trans hl98)))))).mono ?_)
    rintro e w106 ⟨rfl, hB105⟩
    have S107 := S103.call hB105
    refine ⟨_, rfl, (((Hp.le.refl _)).trans S107.le), ?_⟩
    refine T_pev rfl rfl rfl rfl ?_
    refine T_pev rfl rfl rfl rfl ?_
    refine T_nil ?_
    refine W_ret ?_
    refine ⟨_, ⟨_, _, rfl, rfl, rfl⟩, ?_⟩
    exact ⟨rfl, S107.below⟩
  have h104 := of_decide_eq_false h104'
  refine T_yes rfl rfl rfl ?_ rfl
  refine T_loadFS 3 S103 rfl rfl rfl rfl rfl rfl rfl rfl rfl (hVs hs) ?_
  refine T_yes rfl rfl rfl ?_ rfl
  refine T_loadFS 2 S103 rfl rfl rfl rfl rfl rfl rfl rfl rfl (hVs ho) ?_
  refine T_yes rfl rfl rfl ?_ rfl
  refine T_neB (xs := seed) (ys := other) rfl rfl rfl rfl rfl rfl rfl rfl rfl rfl rfl hs ho ?_
  refine T_yes rfl rfl rfl ?_ rfl
  refine T_pev rfl rfl rfl rfl ?_
  refine T_pev rfl rfl rfl rfl ?_
  refine T_pev rfl rfl rfl rfl ?_
  refine T_bool 112 true rfl (ndec_t (fun e => h104 (by rw [e]))) ?_
  refine T_yes rfl rfl rfl ?_ rfl
  refine T_callS rfl rfl g_aumbry_aumbrylaw09_wakes rfl rfl rfl rfl ((wakes_ok S103.le (hT.mono (hl49.trans (hl61.trans (hl81.trans (hl94.trans hl98)))))).mono ?_)
  rintro e w109 ⟨rfl, hB108⟩
  have S110 := S103.call hB108
  refine ⟨_, rfl, (((Hp.le.refl _)).trans S110.le), ?_⟩
  refine T_pev rfl rfl rfl rfl ?_
  refine T_pev rfl rfl rfl rfl ?_
  refine T_nil ?_
  refine W_ret ?_
  refine ⟨_, ⟨_, _, rfl, rfl, rfl⟩, ?_⟩
  exact ⟨rfl, S110.below⟩

end Go.Proofs.YtbkdncmjfhbafaaDoor
