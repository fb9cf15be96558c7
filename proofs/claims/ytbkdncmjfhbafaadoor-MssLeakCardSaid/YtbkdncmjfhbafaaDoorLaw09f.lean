/- The statements of chapter 9, walked: leaks. -/
import Derived.Test.YtbkdncmjfhbafaaDoorLaw09e
import Derived.Test.YtbkdncmjfhbafaaDoorMssG
set_option linter.unusedVariables false
set_option linter.unusedSimpArgs false
set_option maxRecDepth 8192
namespace Go.Proofs.YtbkdncmjfhbafaaDoor
open Go Go.F Go.RowKit

theorem lk_bd {n q : Nat} {M : List UInt8} (h : M.length < 1000) : ∀ i, (((List.replicate n ([] : List UInt8)).set q M).getD i []).length < 1000 := by
  intro i
  by_cases e : q = i
  · subst e
    by_cases hq : q < n
    · rw [Go.Au.set_get hq]; exact h
    · rw [List.getD_eq_getElem?_getD, List.getElem?_eq_none (by simp; omega)]; exact of_decide_eq_true rfl
  · rw [Go.Au.set_oth e]; exact of_decide_eq_true rfl
set_option maxHeartbeats 1000000 in
theorem mssLeak_ok {H : Hp} {w : World} (hH : H.le (hw w)) (hT : Tabs H) (leaf chain place : Int) {x : List UInt8} (hx : x.length = 32) {seed : List UInt8} (hs : seed.length = 16) {m : List UInt8} {aa4 : Option Addr} {nn4 cc4 : Nat} (hv : Rd H (.slice aa4 nn4 cc4) nn4 1 (m.map bV)) :
    Calls Tryd.prog 7 #[hV seed, .int .i64 leaf, .int .i64 chain, .int .i64 place, .slice aa4 nn4 cc4, hV x] w fun e w' => e = .returned (.bool true) ∧ Below w.heap.size w w' := by
  obtain rfl : nn4 = m.length := hv.lenB
  have hvcap : m.length ≤ cc4 := hv.capOf
  have hm30 : (m.take 30).length ≤ 30 := by rw [List.length_take]; omega
  obtain ⟨lf, hlf⟩ : ∃ zz : Nat, leaf % 2 = (zz : Int) := ⟨(leaf % 2).toNat, by omega⟩
  obtain ⟨cc, hcc⟩ : ∃ zz : Nat, chain % 67 = (zz : Int) := ⟨(chain % 67).toNat, by omega⟩
  have hl2 : lf < 2 := by omega
  have hc67 : cc < 67 := by omega
  obtain ⟨M, hM⟩ : ∃ M : List UInt8, [(1 : UInt8)] ++ m.take 30 = M := ⟨_, rfl⟩
  have hMl : M.length = 1 + (m.take 30).length := by rw [← hM, List.length_append]; rfl
  have hLb := lk_bd (n := 2) (q := lf) (M := M) (by omega)
  have hdl := Go.Au.digits_len M
  have hsl1 := Go.Au.sign_len seed ((lf : Nat) : Int) M 67
  have hsl2 := Go.Au.sign_len seed (((1 - lf) : Nat) : Int) M 67
  refine enter6 _ Tryd.func7 rfl Tryd.ntmps7 Tryd.results7 rfl ?_
  have S0 := St.start w hH
  refine W_seq ?_
  refine W_region ?_
  refine T_boxS S0 (fun _ _ => trivial) rfl rfl rfl rfl rfl rfl fun b1 w2 S3 => ?_
  refine T_boxS S3 (fun _ _ => trivial) rfl rfl rfl rfl rfl rfl fun b4 w5 S6 => ?_
  refine T_pev rfl rfl rfl rfl ?_
  refine T_nil ?_
  refine W_seq ?_
  refine W_region ?_
  refine T_pev rfl rfl rfl rfl ?_
  refine T_callS rfl rfl g_aumbry_aumbrykeep_Within rfl rfl rfl rfl ((withinN_ok S6.le leaf (2 : Int) (by omega)).mono ?_)
  rintro e w8 ⟨rfl, hB7⟩
  have S9 := S6.call hB7
  refine ⟨_, rfl, trivial, ?_⟩
  refine T_re (v' := .int .i64 ((lf : Nat) : Int)) (congrArg (Value.int .i64) hlf) ?_
  refine T_pev rfl rfl rfl rfl ?_
  refine T_callS rfl rfl g_aumbry_aumbrykeep_Within rfl rfl rfl rfl ((withinN_ok S9.le chain (67 : Int) (by omega)).mono ?_)
  rintro e w11 ⟨rfl, hB10⟩
  have S12 := S9.call hB10
  refine ⟨_, rfl, trivial, ?_⟩
  refine T_re (v' := .int .i64 ((cc : Nat) : Int)) (congrArg (Value.int .i64) hcc) ?_
  refine T_pev rfl rfl rfl rfl ?_
  refine T_pev rfl rfl rfl rfl ?_
  refine T_nil ?_
  refine W_seq ?_
  refine W_region ?_
  refine T_litS ([(1 : UInt8)].map bV) rfl rfl rfl rfl rfl rfl rfl rfl rfl rfl rfl rfl rfl (by simp [Value.cells]; rfl) rfl fun a13 w14 hB15 ho16 => ?_
  have S17 := S12.own hB15 ho16
  refine ⟨trivial, ?_⟩
  refine T_pev rfl rfl rfl rfl ?_
  refine T_callS rfl rfl g_aumbry_aumbrykeep_Cut_byte rfl rfl rfl rfl ((cutB_ok S17.le hv 30).mono ?_)
  rintro e w23 ⟨a18, c19, hc20, rfl, hr21, hB22⟩
  have S24 := S17.call hB22
  refine ⟨_, rfl, trivial, ?_⟩
  have hD25 : ([(1 : UInt8)] ++ (m.take 30)) = M := hM
  refine T_appendS 0 M.length (M.map bV) S24 (fun _ _ => trivial) rfl rfl rfl rfl rfl rfl rfl rfl rfl rfl rfl rfl rfl rfl (hr21.mono S24.le) (one_bV _) (by rw [← hD25]; first | rfl | (simp; done) | (simp; omega) | omega) (by rw [← hD25]; simp) (by unfold maxLen; rw [← hD25]; simp only [List.length_append, List.length_cons, List.length_nil]; omega) (by show _ * 1 ≤ _; rw [← hD25]; simp only [List.length_append, List.length_cons, List.length_nil]; omega) fun a26 c27 w28 hc29 S30 => ?_
  refine T_pev rfl rfl rfl rfl ?_
  refine T_nil ?_
  refine W_seq ?_
  refine W_region ?_
  refine T_makeS 2 S30 (fun _ _ => trivial) rfl rfl rfl rfl rfl rfl rfl rfl rfl rfl (by omega) (by omega) (by show 24 * _ ≤ _; omega) (by unfold maxLen; omega) fun b31 w32 S33 => ?_
  have S34 := S33.toRow (size := 1) (m := 2) (xs := (List.replicate 2 (Value.slice none 0 0))) 0 rfl (made_s rfl) (by rw [List.length_replicate, Nat.mul_one]) (by unfold maxLen; omega)
  have rs35 := Rds.nils H 2
  refine T_pev rfl rfl rfl rfl ?_
  refine T_nil ?_
  refine W_seq ?_
  refine W_region ?_
  refine T_loadFS 3 S34 rfl rfl rfl rfl rfl rfl rfl rfl rfl (hVs hs) ?_
  refine T_pev rfl rfl rfl rfl ?_
  refine T_pev rfl rfl rfl rfl ?_
  obtain ⟨G37, hl38, S36, r39⟩ := S34.stillRow 1 rfl
  refine T_callS rfl rfl g_aumbry_mss_Sign rfl rfl rfl rfl ((mssSign_ok S36.le (hT.mono hl38) (1 : Int) ((lf : Nat) : Int) hs r39 (by omega) ⟨by omega, by show _ < ((2 : Nat) : Int); omega⟩ (by omega)).mono ?_)
  rintro e w47 ⟨a40, c41, a42, c43, rfl, r44, r45, hB46⟩
  obtain ⟨G49, eG51⟩ : ∃ G, G = F.ext G37 w32.heap.size w47 := ⟨_, rfl⟩
  obtain ⟨hl50, S48⟩ := S36.ext hB46
  rw [← eG51] at hl50 S48 r44 r45
  refine ⟨_, rfl, trivial, ?_⟩
  refine T_pev rfl rfl rfl rfl ?_
  refine T_pev rfl rfl rfl rfl ?_
  refine T_pev rfl rfl rfl rfl ?_
  refine T_allocS S48 (fun _ _ => trivial) rfl rfl rfl rfl rfl rfl rfl fun b52 w53 S54 => ?_
  refine T_storeFS 0 S54 (fun _ _ => trivial) rfl rfl rfl rfl rfl rfl rfl rfl rfl (by first | rfl | simp [hVs, *]) (by first | rfl | simp [hVs, *]) (one_all rfl) fun w55 S56 => ?_
  refine T_pev rfl rfl rfl rfl ?_
  refine T_nil ?_
  refine W_seq ?_
  refine W_region ?_
  refine T_loadFS 3 S56 rfl rfl rfl rfl rfl rfl rfl rfl rfl (hVs hs) ?_
  refine T_pev rfl rfl rfl rfl ?_
  refine T_ari rfl rfl rfl rfl (by omega) ?_
  refine T_re (v' := .int .i64 (((1 - lf) : Nat) : Int)) (congrArg (Value.int .i64) (by omega)) ?_
  refine T_pev rfl rfl rfl rfl ?_
  refine T_callS rfl rfl g_aumbry_mss_Sign rfl rfl rfl rfl ((mssSign_ok S56.le (hT.mono (hl38.trans hl50)) (1 : Int) (((1 - lf) : Nat) : Int) hs (r39.mono hl50) (by omega) ⟨by omega, by show _ < ((2 : Nat) : Int); omega⟩ (by omega)).mono ?_)
  rintro e w64 ⟨a57, c58, a59, c60, rfl, r61, r62, hB63⟩
  obtain ⟨G66, eG68⟩ : ∃ G, G = F.ext G49 w55.heap.size w64 := ⟨_, rfl⟩
  obtain ⟨hl67, S65⟩ := S56.ext hB63
  rw [← eG68] at hl67 S65 r61 r62
  refine ⟨_, rfl, trivial, ?_⟩
  refine T_pev rfl rfl rfl rfl ?_
  refine T_pev rfl rfl rfl rfl ?_
  refine T_pev rfl rfl rfl rfl ?_
  refine T_allocS S65 (fun _ _ => trivial) rfl rfl rfl rfl rfl rfl rfl fun b69 w70 S71 => ?_
  refine T_storeFS 0 S71 (fun _ _ => trivial) rfl rfl rfl rfl rfl rfl rfl rfl rfl (by first | rfl | simp [hVs, *]) (by first | rfl | simp [hVs, *]) (one_all rfl) fun w72 S73 => ?_
  refine T_pev rfl rfl rfl rfl ?_
  refine T_nil ?_
  refine W_seq ?_
  refine W_seq ?_
  refine W_region ?_
  refine T_pev rfl rfl rfl rfl ?_
  refine T_pev rfl rfl rfl rfl ?_
  refine T_pev rfl rfl rfl rfl ?_
  refine T_bool 49 false rfl (ndec_f rfl) ?_
  refine T_yes rfl rfl rfl ?_ rfl
  refine T_pev rfl rfl rfl rfl ?_
  refine T_yes rfl rfl rfl ?_ rfl
  refine T_pev rfl rfl rfl rfl ?_
  refine T_pev rfl rfl rfl rfl ?_
  refine T_pev rfl rfl rfl rfl ?_
  refine T_bool 53 false rfl (ndec_f rfl) ?_
  refine T_yes rfl rfl rfl ?_ rfl
  refine T_fldm 2 rfl rfl rfl rfl rfl rfl (by decide) rfl rfl rfl ?_
  refine T_yes rfl rfl rfl ?_ rfl
  refine T_loadS 1 2 S73 rfl rfl rfl rfl rfl rfl rfl rfl rfl rfl ?_
  refine T_yes rfl rfl rfl ?_ rfl
  refine T_pev rfl rfl rfl rfl ?_
  refine T_yes rfl rfl rfl ?_ rfl
  refine T_pev rfl rfl rfl rfl ?_
  refine T_pev rfl rfl rfl rfl ?_
  refine T_pev rfl rfl rfl rfl ?_
  refine T_bool 59 false rfl (ndec_f rfl) ?_
  refine T_yes rfl rfl rfl ?_ rfl
  refine T_fldm 2 rfl rfl rfl rfl rfl rfl (by decide) rfl rfl rfl ?_
  refine T_yes rfl rfl rfl ?_ rfl
  refine T_loadS 0 2 S73 rfl rfl rfl rfl rfl rfl rfl rfl rfl rfl ?_
  refine T_yes rfl rfl rfl ?_ rfl
  refine T_pev rfl rfl rfl rfl ?_
  refine T_yes rfl rfl rfl ?_ rfl
  refine T_pev rfl rfl rfl rfl ?_
  refine T_pev rfl rfl rfl rfl ?_
  refine T_nil ?_
  refine W_bool 64 false rfl (ndec_f rfl) ?_
  refine W_cond_false rfl ?_
  refine W_skip ?_
  refine W_seq ?_
  refine W_region ?_
  refine T_pev rfl rfl rfl rfl ?_
  refine T_pev rfl rfl rfl rfl ?_
  refine T_pev rfl rfl rfl rfl ?_
  refine T_idxm (lf * 1) rfl rfl rfl rfl rfl rfl rfl rfl (by omega) (by show 0 + Int.toNat _ * 1 = _; omega) ?_
  refine T_storeRow 2 ((List.replicate 2 (Value.slice none 0 0)).set lf (.slice a26 M.length c27)) S73 (fun _ _ => trivial) rfl rfl rfl rfl rfl rfl rfl rfl rfl (by show _ + 1 ≤ _ * 1; omega) (one_all rfl) (set_cells (by simp; omega) rfl) fun w74 S75 => ?_
  have rs76 := Rds.set (rs35.mono (hl38.trans (hl50.trans hl67))) lf (Rd.canonB (r39.mono (hl50.trans hl67)))
  refine T_nil ?_
  refine W_seq ?_
  refine W_region ?_
  refine T_pev rfl rfl rfl rfl ?_
  refine T_callS rfl rfl g_aumbry_aumbryref07_Digits rfl rfl rfl rfl ((digitsR_w_ok S75.le (r39.mono (hl50.trans hl67)) (by omega)).mono ?_)
  rintro e w82 ⟨a77, c78, hc79, rfl, ho80, hB81⟩
  have S83 := S75.own hB81 ho80
  refine ⟨_, rfl, trivial, ?_⟩
  refine T_pev rfl rfl rfl rfl ?_
  obtain ⟨G85, hl86, S84, r87⟩ := S83.stillRow 0 rfl
  refine T_idxR cc r87 rfl rfl rfl rfl rfl rfl rfl rfl rfl (by omega) (by omega) fun b88 o89 hc90 => ?_
  have hc91 := hc90 0 (.int .i64 ((Go.Au.digits M).getD cc 0)) (at_i (Go.Au.digits M) cc (by omega))
  simp only [Nat.add_zero] at hc91
  refine T_loadG S84 hc91 rfl rfl rfl rfl rfl rfl rfl ?_
  refine T_pev rfl rfl rfl rfl ?_
  refine T_nil ?_
  refine W_seq ?_
  refine W_region ?_
  refine T_pev rfl rfl rfl rfl ?_
  refine T_pev rfl rfl rfl rfl ?_
  refine T_pev rfl rfl rfl rfl ?_
  refine T_fldm 2 rfl rfl rfl rfl rfl rfl (by decide) rfl rfl rfl ?_
  refine T_loadS 1 2 S84 rfl rfl rfl rfl rfl rfl rfl rfl rfl rfl ?_
  refine T_pev rfl rfl rfl rfl ?_
  refine T_idxR cc (r44.mono (hl67.trans hl86)).2 rfl rfl rfl rfl rfl rfl rfl rfl rfl (by omega) (by omega) fun b92 o93 hc94 => ?_
  have hc95 := cells_h (r44.mono (hl67.trans hl86)).1 cc (by omega) hc94
  have hl96 := len_h (r44.mono (hl67.trans hl86)).1 cc (by omega)
  refine T_loadGA _ S84 hc95 rfl rfl rfl rfl rfl rfl rfl rfl (hVs hl96) ?_
  refine T_buildS (cells := (fV true ((lf : Nat) : Int) ((cc : Nat) : Int) ((Go.Au.digits M).getD cc 0) ((Go.Au.sign seed ((lf : Nat) : Int) M 67).getD cc []) : Value).cells) rfl rfl rfl rfl rfl rfl (fill_fV5 hl96) rfl rfl rfl ?_
  refine T_allocS S84 (fun _ _ => trivial) rfl rfl rfl rfl rfl rfl rfl fun b97 w98 S99 => ?_
  refine T_storeFS 0 S99 (fun _ _ => trivial) rfl rfl rfl rfl rfl rfl rfl rfl rfl (fV_size hl96) (fV_size hl96) (fV_one) fun w100 S101 => ?_
  refine T_nil ?_
  refine W_seq ?_
  refine W_region ?_
  refine T_pev rfl rfl rfl rfl ?_
  refine T_ari rfl rfl rfl rfl (by omega) ?_
  refine T_re (v' := .int .i64 (((1 - lf) : Nat) : Int)) (congrArg (Value.int .i64) (by omega)) ?_
  refine T_pev rfl rfl rfl rfl ?_
  refine T_pev rfl rfl rfl rfl ?_
  refine T_fldm 2 rfl rfl rfl rfl rfl rfl (by decide) rfl rfl rfl ?_
  refine T_loadS 1 2 S101 rfl rfl rfl rfl rfl rfl rfl rfl rfl rfl ?_
  refine T_pev rfl rfl rfl rfl ?_
  refine T_idxR cc (r61.mono hl86).2 rfl rfl rfl rfl rfl rfl rfl rfl rfl (by omega) (by omega) fun b102 o103 hc104 => ?_
  have hc105 := cells_h (r61.mono hl86).1 cc (by omega) hc104
  have hl106 := len_h (r61.mono hl86).1 cc (by omega)
  refine T_loadGA _ S101 hc105 rfl rfl rfl rfl rfl rfl rfl rfl (hVs hl106) ?_
  refine T_buildS (cells := (fV true (((1 - lf) : Nat) : Int) ((cc : Nat) : Int) ((Go.Au.digits M).getD cc 0) ((Go.Au.sign seed (((1 - lf) : Nat) : Int) M 67).getD cc []) : Value).cells) rfl rfl rfl rfl rfl rfl (fill_fV5 hl106) rfl rfl rfl ?_
  refine T_allocS S101 (fun _ _ => trivial) rfl rfl rfl rfl rfl rfl rfl fun b107 w108 S109 => ?_
  refine T_storeFS 0 S109 (fun _ _ => trivial) rfl rfl rfl rfl rfl rfl rfl rfl rfl (fV_size hl106) (fV_size hl106) (fV_one) fun w110 S111 => ?_
  refine T_nil ?_
  refine W_seq ?_
  obtain ⟨G113, hl114, S112, r115⟩ := S111.stillBlk 5 rfl
  refine W_tree (planF Tryd.prog G113 [97]) (.step 0 (.step 1 (.step 2 (.step 4 (.fork 3 6 (.step 5 (.step 6 (.step 7 .done))) (.step 3 (.step 5 (.step 7 .done)))))))) rfl (by kernel_rfl) S112.le ?_
  have S116 := S112.drew
  refine TT_step rfl ?_
  refine T_pev rfl rfl rfl rfl ?_
  refine T_nil ?_
  refine TT_step rfl ?_
  refine T_pev rfl rfl rfl rfl ?_
  refine T_nil ?_
  refine TT_step rfl ?_
  refine T_pev rfl rfl rfl rfl ?_
  refine T_nil ?_
  refine TT_step rfl ?_
  refine T_loadGAP _ (fun _ h => h) (still_cells r115) rfl rfl rfl rfl rfl rfl rfl rfl (hVs hx) ?_
  refine T_nil ?_
  refine TT_fork rfl rfl ?_ ?_
  · refine T_callS rfl rfl g_aumbry_aumbrykeep_Within rfl rfl rfl rfl ((withinN_ok S116.le place (16 : Int) (by omega)).mono ?_)
    rintro e w118 ⟨rfl, hB117⟩
    have S119 := S116.call hB117
    refine ⟨_, rfl, (((Hp.le.refl _)).trans S119.le), ?_⟩
    refine T_nil ?_
    refine TT_step rfl ?_
    refine T_buildS (cells := (fV true ((lf : Nat) : Int) ((cc : Nat) : Int) (place % (16 : Int)) x : Value).cells) rfl rfl rfl rfl rfl rfl (fill_fV5 hx) rfl rfl rfl ?_
    refine T_nil ?_
    refine TT_step rfl ?_
    refine T_allocS S119 (fun _ h => ((Hp.le.refl _)).trans h) rfl rfl rfl rfl rfl rfl rfl fun b120 w121 S122 => ?_
    refine T_nil ?_
    refine TT_step rfl ?_
    refine T_storeFS 0 S122 (fun _ h => ((Hp.le.refl _)).trans h) rfl rfl rfl rfl rfl rfl rfl rfl rfl (fV_size hx) (fV_size hx) (fV_one) fun w123 S124 => ?_
    refine T_nil ?_
    refine TT_done ?_
    refine W_seq ?_
    refine W_region ?_
    refine T_pev rfl rfl rfl rfl ?_
    refine T_pev rfl rfl rfl rfl ?_
    refine T_fldm 5 rfl rfl rfl rfl rfl rfl (by decide) rfl rfl rfl ?_
    refine T_loadS 0 5 S124 rfl rfl rfl rfl rfl rfl rfl rfl rfl fV_5 ?_
    refine T_loadGA _ S124 (still_cells r115) rfl rfl rfl rfl rfl rfl rfl rfl (hVs hx) ?_
    refine T_buildS (cells := (fV true ((lf : Nat) : Int) ((cc : Nat) : Int) (place % (16 : Int)) x : Value).cells) rfl rfl rfl rfl rfl rfl (fill_fV5 hx) rfl rfl rfl ?_
    refine T_allocS S124 (fun _ _ => trivial) rfl rfl rfl rfl rfl rfl rfl fun b125 w126 S127 => ?_
    refine T_storeFS 0 S127 (fun _ _ => trivial) rfl rfl rfl rfl rfl rfl rfl rfl rfl (fV_size hx) (fV_size hx) (fV_one) fun w128 S129 => ?_
    refine T_nil ?_
    refine W_seq ?_
    obtain ⟨G131, hl132, S130, r133⟩ := S129.stillBlk 7 rfl
    obtain ⟨G135, hl136, S134, r137⟩ := S130.stillBlk 0 rfl
    refine W_plan (planF Tryd.prog G135 [129, 131]) rfl (by kernel_rfl) S134.le ?_
    have S138 := S134.drew
    refine T_loadGA _ S138 (still_cells (hl136 _ _ r133)) rfl rfl rfl rfl rfl rfl rfl rfl (hVs hs) ?_
    refine T_pev rfl rfl rfl rfl ?_
    refine T_loadFS 2 S138 rfl rfl rfl rfl rfl rfl rfl rfl rfl (fV_size hl96) ?_
    obtain ⟨G140, hl141, S139, r142⟩ := S138.stillRow 5 rfl
    have r143 := RdL.mk r142 (rs76.mono (hl86.trans (hl114.trans (hl132.trans (hl136.trans hl141)))))
    refine T_callS rfl rfl g_aumbry_mss_Holds rfl rfl rfl rfl ((holds_ok S139.le (hT.mono (hl38.trans (hl50.trans (hl67.trans (hl86.trans (hl114.trans (hl132.trans (hl136.trans hl141)))))))) hs r143 (1 : Int) ((lf : Nat) : Int) ((cc : Nat) : Int) ((Go.Au.digits M).getD cc 0) hl96 (by omega) (by rw [List.length_set, List.length_replicate]; rfl) hLb (by omega) (by omega)).mono ?_)
    rintro e w145 ⟨rfl, hB144⟩
    have S146 := S139.call hB144
    refine ⟨_, rfl, ((hl141).trans S146.le), ?_⟩
    refine T_pev rfl rfl rfl rfl ?_
    refine T_pev rfl rfl rfl rfl ?_
    refine T_bool 110 true rfl (by rw [Go.Au.leak_was hl2 hc67 (by omega)]; rfl) ?_
    refine T_yes rfl rfl rfl ?_ rfl
    refine T_loadGA _ S146 (still_cells (hl141 _ _ (hl136 _ _ r133))) rfl rfl rfl rfl rfl rfl rfl rfl (hVs hs) ?_
    refine T_yes rfl rfl rfl ?_ rfl
    refine T_pev rfl rfl rfl rfl ?_
    refine T_yes rfl rfl rfl ?_ rfl
    refine T_loadFS 1 S146 rfl rfl rfl rfl rfl rfl rfl rfl rfl (fV_size hl106) ?_
    refine T_yes rfl rfl rfl ?_ rfl
    refine T_callS rfl rfl g_aumbry_mss_Holds rfl rfl rfl rfl ((holds_ok S146.le (hT.mono (hl38.trans (hl50.trans (hl67.trans (hl86.trans (hl114.trans (hl132.trans (hl136.trans hl141)))))))) hs r143 (1 : Int) (((1 - lf) : Nat) : Int) ((cc : Nat) : Int) ((Go.Au.digits M).getD cc 0) hl106 (by omega) (by rw [List.length_set, List.length_replicate]; rfl) hLb (by omega) (by omega)).mono ?_)
    rintro e w148 ⟨rfl, hB147⟩
    have S149 := S146.call hB147
    refine ⟨_, rfl, ((hl141).trans S149.le), ?_⟩
    refine T_pev rfl rfl rfl rfl ?_
    refine T_pev rfl rfl rfl rfl ?_
    refine T_bool 116 true rfl (Go.Au.leak_is hl2 hc67) ?_
    refine T_yes rfl rfl rfl ?_ rfl
    refine T_loadGA _ S149 (still_cells (hl141 _ _ (hl136 _ _ r133))) rfl rfl rfl rfl rfl rfl rfl rfl (hVs hs) ?_
    refine T_yes rfl rfl rfl ?_ rfl
    refine T_pev rfl rfl rfl rfl ?_
    refine T_yes rfl rfl rfl ?_ rfl
    refine T_loadGA _ S149 (still_cells (hl141 _ _ (hl136 _ _ (hl132 _ _ r115)))) rfl rfl rfl rfl rfl rfl rfl rfl (hVs hx) ?_
    refine T_yes rfl rfl rfl ?_ rfl
    refine T_buildS (cells := (fV true (2 : Int) 0 0 x : Value).cells) rfl rfl rfl rfl rfl rfl (fill_fV3 hx) rfl rfl rfl ?_
    refine T_yes rfl rfl rfl ?_ rfl
    refine T_callS rfl rfl g_aumbry_mss_Holds rfl rfl rfl rfl ((holds_ok S149.le (hT.mono (hl38.trans (hl50.trans (hl67.trans (hl86.trans (hl114.trans (hl132.trans (hl136.trans hl141)))))))) hs r143 (1 : Int) (2 : Int) 0 0 hx (by omega) (by rw [List.length_set, List.length_replicate]; rfl) hLb (by omega) (by omega)).mono ?_)
    rintro e w151 ⟨rfl, hB150⟩
    have S152 := S149.call hB150
    refine ⟨_, rfl, ((hl141).trans S152.le), ?_⟩
    refine T_yes rfl rfl rfl ?_ rfl
    refine T_pev rfl rfl rfl rfl ?_
    refine T_pev rfl rfl rfl rfl ?_
    refine T_pev rfl rfl rfl rfl ?_
    refine T_bool 124 true rfl (by rw [Go.Au.hd_no (fun e => absurd e.1.2 (by decide))]; rfl) ?_
    refine T_yes rfl rfl rfl ?_ rfl
    refine T_loadGA _ S152 (still_cells (hl141 _ _ (hl136 _ _ r133))) rfl rfl rfl rfl rfl rfl rfl rfl (hVs hs) ?_
    refine T_yes rfl rfl rfl ?_ rfl
    refine T_pev rfl rfl rfl rfl ?_
    refine T_yes rfl rfl rfl ?_ rfl
    refine T_loadFS 0 S152 rfl rfl rfl rfl rfl rfl rfl rfl rfl (fV_size hx) ?_
    refine T_yes rfl rfl rfl ?_ rfl
    refine T_callS rfl rfl g_aumbry_mss_Holds rfl rfl rfl rfl ((holds_ok S152.le (hT.mono (hl38.trans (hl50.trans (hl67.trans (hl86.trans (hl114.trans (hl132.trans (hl136.trans hl141)))))))) hs r143 (1 : Int) ((lf : Nat) : Int) ((cc : Nat) : Int) (place % (16 : Int)) hx (by omega) (by rw [List.length_set, List.length_replicate]; rfl) hLb (by omega) (by omega)).mono ?_)
    rintro e w154 ⟨rfl, hB153⟩
    have S155 := S152.call hB153
    refine ⟨_, rfl, ((hl141).trans S155.le), ?_⟩
    refine T_yes rfl rfl rfl ?_ rfl
    refine T_loadGAP _ (fun _ h => h) (still_cells (hl136 _ _ r133)) rfl rfl rfl rfl rfl rfl rfl rfl (hVs hs) ?_
    refine T_yes rfl rfl rfl ?_ rfl
    refine T_pev rfl rfl rfl rfl ?_
    refine T_yes rfl rfl rfl ?_ rfl
    refine T_loadGAP _ (fun _ h => h) (still_cells r137) rfl rfl rfl rfl rfl rfl rfl rfl (fV_size hx) ?_
    refine T_yes rfl rfl rfl ?_ rfl
    refine T_callS rfl rfl g_aumbry_aumbryref07_Holds rfl rfl rfl rfl ((holdsR_ok S155.le hs r143 (1 : Int) ((lf : Nat) : Int) ((cc : Nat) : Int) (place % (16 : Int)) hx (by omega) (by rw [List.length_set, List.length_replicate]; rfl) hLb (by omega) (by omega)).mono ?_)
    rintro e w157 ⟨rfl, hB156⟩
    have S158 := S155.call hB156
    refine ⟨_, rfl, ((hl141).trans S158.le), ?_⟩
    refine T_yes rfl rfl rfl ?_ rfl
    refine T_beq rfl rfl rfl rfl rfl rfl rfl ?_
    refine T_pev rfl rfl rfl rfl ?_
    refine T_pev rfl rfl rfl rfl ?_
    refine T_bool 135 true rfl (decide_eq_true rfl) ?_
    refine T_yes rfl rfl rfl ?_ rfl
    refine T_callS rfl rfl g_aumbry_aumbrylaw09_wakes rfl rfl rfl rfl ((wakes_ok S158.le (hT.mono (hl38.trans (hl50.trans (hl67.trans (hl86.trans (hl114.trans (hl132.trans (hl136.trans hl141))))))))).mono ?_)
    rintro e w160 ⟨rfl, hB159⟩
    have S161 := S158.call hB159
    refine ⟨_, rfl, ((hl141).trans S161.le), ?_⟩
    refine T_pev rfl rfl rfl rfl ?_
    refine T_pev rfl rfl rfl rfl ?_
    refine T_nil ?_
    refine W_ret ?_
    refine ⟨_, ⟨_, _, rfl, rfl, rfl⟩, ?_⟩
    exact ⟨rfl, S161.below⟩
  refine T_allocS S116 (fun _ h => ((Hp.le.refl _)).trans h) rfl rfl rfl rfl rfl rfl rfl fun b162 w163 S164 => ?_
  refine T_nil ?_
  refine TT_step rfl ?_
  refine T_callS rfl rfl g_aumbry_aumbrykeep_Within rfl rfl rfl rfl ((withinN_ok S164.le place (16 : Int) (by omega)).mono ?_)
  rintro e w166 ⟨rfl, hB165⟩
  have S167 := S164.call hB165
  refine ⟨_, rfl, (((Hp.le.refl _)).trans S167.le), ?_⟩
  refine T_nil ?_
  refine TT_step rfl ?_
  refine T_buildS (cells := (fV true ((lf : Nat) : Int) ((cc : Nat) : Int) (place % (16 : Int)) x : Value).cells) rfl rfl rfl rfl rfl rfl (fill_fV5 hx) rfl rfl rfl ?_
  refine T_nil ?_
  refine TT_step rfl ?_
  refine T_storeFS 0 S167 (fun _ h => ((Hp.le.refl _)).trans h) rfl rfl rfl rfl rfl rfl rfl rfl rfl (fV_size hx) (fV_size hx) (fV_one) fun w168 S169 => ?_
  refine T_nil ?_
  refine TT_done ?_
  refine W_seq ?_
  refine W_region ?_
  refine T_pev rfl rfl rfl rfl ?_
  refine T_pev rfl rfl rfl rfl ?_
  refine T_fldm 5 rfl rfl rfl rfl rfl rfl (by decide) rfl rfl rfl ?_
  refine T_loadS 0 5 S169 rfl rfl rfl rfl rfl rfl rfl rfl rfl fV_5 ?_
  refine T_loadGA _ S169 (still_cells r115) rfl rfl rfl rfl rfl rfl rfl rfl (hVs hx) ?_
  refine T_buildS (cells := (fV true ((lf : Nat) : Int) ((cc : Nat) : Int) (place % (16 : Int)) x : Value).cells) rfl rfl rfl rfl rfl rfl (fill_fV5 hx) rfl rfl rfl ?_
  refine T_allocS S169 (fun _ _ => trivial) rfl rfl rfl rfl rfl rfl rfl fun b170 w171 S172 => ?_
  refine T_storeFS 0 S172 (fun _ _ => trivial) rfl rfl rfl rfl rfl rfl rfl rfl rfl (fV_size hx) (fV_size hx) (fV_one) fun w173 S174 => ?_
  refine T_nil ?_
  refine W_seq ?_
  obtain ⟨G176, hl177, S175, r178⟩ := S174.stillBlk 7 rfl
  obtain ⟨G180, hl181, S179, r182⟩ := S175.stillBlk 0 rfl
  refine W_plan (planF Tryd.prog G180 [129, 131]) rfl (by kernel_rfl) S179.le ?_
  have S183 := S179.drew
  refine T_loadGA _ S183 (still_cells (hl181 _ _ r178)) rfl rfl rfl rfl rfl rfl rfl rfl (hVs hs) ?_
  refine T_pev rfl rfl rfl rfl ?_
  refine T_loadFS 2 S183 rfl rfl rfl rfl rfl rfl rfl rfl rfl (fV_size hl96) ?_
  obtain ⟨G185, hl186, S184, r187⟩ := S183.stillRow 5 rfl
  have r188 := RdL.mk r187 (rs76.mono (hl86.trans (hl114.trans (hl177.trans (hl181.trans hl186)))))
  refine T_callS rfl rfl g_aumbry_mss_Holds rfl rfl rfl rfl ((holds_ok S184.le (hT.mono (hl38.trans (hl50.trans (hl67.trans (hl86.trans (hl114.trans (hl177.trans (hl181.trans hl186)))))))) hs r188 (1 : Int) ((lf : Nat) : Int) ((cc : Nat) : Int) ((Go.Au.digits M).getD cc 0) hl96 (by omega) (by rw [List.length_set, List.length_replicate]; rfl) hLb (by omega) (by omega)).mono ?_)
  rintro e w190 ⟨rfl, hB189⟩
  have S191 := S184.call hB189
  refine ⟨_, rfl, ((hl186).trans S191.le), ?_⟩
  refine T_pev rfl rfl rfl rfl ?_
  refine T_pev rfl rfl rfl rfl ?_
  refine T_bool 110 true rfl (by rw [Go.Au.leak_was hl2 hc67 (by omega)]; rfl) ?_
  refine T_yes rfl rfl rfl ?_ rfl
  refine T_loadGA _ S191 (still_cells (hl186 _ _ (hl181 _ _ r178))) rfl rfl rfl rfl rfl rfl rfl rfl (hVs hs) ?_
  refine T_yes rfl rfl rfl ?_ rfl
  refine T_pev rfl rfl rfl rfl ?_
  refine T_yes rfl rfl rfl ?_ rfl
  refine T_loadFS 1 S191 rfl rfl rfl rfl rfl rfl rfl rfl rfl (fV_size hl106) ?_
  refine T_yes rfl rfl rfl ?_ rfl
  refine T_callS rfl rfl g_aumbry_mss_Holds rfl rfl rfl rfl ((holds_ok S191.le (hT.mono (hl38.trans (hl50.trans (hl67.trans (hl86.trans (hl114.trans (hl177.trans (hl181.trans hl186)))))))) hs r188 (1 : Int) (((1 - lf) : Nat) : Int) ((cc : Nat) : Int) ((Go.Au.digits M).getD cc 0) hl106 (by omega) (by rw [List.length_set, List.length_replicate]; rfl) hLb (by omega) (by omega)).mono ?_)
  rintro e w193 ⟨rfl, hB192⟩
  have S194 := S191.call hB192
  refine ⟨_, rfl, ((hl186).trans S194.le), ?_⟩
  refine T_pev rfl rfl rfl rfl ?_
  refine T_pev rfl rfl rfl rfl ?_
  refine T_bool 116 true rfl (Go.Au.leak_is hl2 hc67) ?_
  refine T_yes rfl rfl rfl ?_ rfl
  refine T_loadGA _ S194 (still_cells (hl186 _ _ (hl181 _ _ r178))) rfl rfl rfl rfl rfl rfl rfl rfl (hVs hs) ?_
  refine T_yes rfl rfl rfl ?_ rfl
  refine T_pev rfl rfl rfl rfl ?_
  refine T_yes rfl rfl rfl ?_ rfl
  refine T_loadGA _ S194 (still_cells (hl186 _ _ (hl181 _ _ (hl177 _ _ r115)))) rfl rfl rfl rfl rfl rfl rfl rfl (hVs hx) ?_
  refine T_yes rfl rfl rfl ?_ rfl
  refine T_buildS (cells := (fV true (2 : Int) 0 0 x : Value).cells) rfl rfl rfl rfl rfl rfl (fill_fV3 hx) rfl rfl rfl ?_
  refine T_yes rfl rfl rfl ?_ rfl
  refine T_callS rfl rfl g_aumbry_mss_Holds rfl rfl rfl rfl ((holds_ok S194.le (hT.mono (hl38.trans (hl50.trans (hl67.trans (hl86.trans (hl114.trans (hl177.trans (hl181.trans hl186)))))))) hs r188 (1 : Int) (2 : Int) 0 0 hx (by omega) (by rw [List.length_set, List.length_replicate]; rfl) hLb (by omega) (by omega)).mono ?_)
  rintro e w196 ⟨rfl, hB195⟩
  have S197 := S194.call hB195
  refine ⟨_, rfl, ((hl186).trans S197.le), ?_⟩
  refine T_yes rfl rfl rfl ?_ rfl
  refine T_pev rfl rfl rfl rfl ?_
  refine T_pev rfl rfl rfl rfl ?_
  refine T_pev rfl rfl rfl rfl ?_
  refine T_bool 124 true rfl (by rw [Go.Au.hd_no (fun e => absurd e.1.2 (by decide))]; rfl) ?_
  refine T_yes rfl rfl rfl ?_ rfl
  refine T_loadGA _ S197 (still_cells (hl186 _ _ (hl181 _ _ r178))) rfl rfl rfl rfl rfl rfl rfl rfl (hVs hs) ?_
  refine T_yes rfl rfl rfl ?_ rfl
  refine T_pev rfl rfl rfl rfl ?_
  refine T_yes rfl rfl rfl ?_ rfl
  refine T_loadFS 0 S197 rfl rfl rfl rfl rfl rfl rfl rfl rfl (fV_size hx) ?_
  refine T_yes rfl rfl rfl ?_ rfl
  refine T_callS rfl rfl g_aumbry_mss_Holds rfl rfl rfl rfl ((holds_ok S197.le (hT.mono (hl38.trans (hl50.trans (hl67.trans (hl86.trans (hl114.trans (hl177.trans (hl181.trans hl186)))))))) hs r188 (1 : Int) ((lf : Nat) : Int) ((cc : Nat) : Int) (place % (16 : Int)) hx (by omega) (by rw [List.length_set, List.length_replicate]; rfl) hLb (by omega) (by omega)).mono ?_)
  rintro e w199 ⟨rfl, hB198⟩
  have S200 := S197.call hB198
  refine ⟨_, rfl, ((hl186).trans S200.le), ?_⟩
  refine T_yes rfl rfl rfl ?_ rfl
  refine T_loadGAP _ (fun _ h => h) (still_cells (hl181 _ _ r178)) rfl rfl rfl rfl rfl rfl rfl rfl (hVs hs) ?_
  refine T_yes rfl rfl rfl ?_ rfl
  refine T_pev rfl rfl rfl rfl ?_
  refine T_yes rfl rfl rfl ?_ rfl
  refine T_loadGAP _ (fun _ h => h) (still_cells r182) rfl rfl rfl rfl rfl rfl rfl rfl (fV_size hx) ?_
  refine T_yes rfl rfl rfl ?_ rfl
  refine T_callS rfl rfl g_aumbry_aumbryref07_Holds rfl rfl rfl rfl ((holdsR_ok S200.le hs r188 (1 : Int) ((lf : Nat) : Int) ((cc : Nat) : Int) (place % (16 : Int)) hx (by omega) (by rw [List.length_set, List.length_replicate]; rfl) hLb (by omega) (by omega)).mono ?_)
  rintro e w202 ⟨rfl, hB201⟩
  have S203 := S200.call hB201
  refine ⟨_, rfl, ((hl186).trans S203.le), ?_⟩
  refine T_yes rfl rfl rfl ?_ rfl
  refine T_beq rfl rfl rfl rfl rfl rfl rfl ?_
  refine T_pev rfl rfl rfl rfl ?_
  refine T_pev rfl rfl rfl rfl ?_
  refine T_bool 135 true rfl (decide_eq_true rfl) ?_
  refine T_yes rfl rfl rfl ?_ rfl
  refine T_callS rfl rfl g_aumbry_aumbrylaw09_wakes rfl rfl rfl rfl ((wakes_ok S203.le (hT.mono (hl38.trans (hl50.trans (hl67.trans (hl86.trans (hl114.trans (hl177.trans (hl181.trans hl186))))))))).mono ?_)
  rintro e w205 ⟨rfl, hB204⟩
  have S206 := S203.call hB204
  refine ⟨_, rfl, ((hl186).trans S206.le), ?_⟩
  refine T_pev rfl rfl rfl rfl ?_
  refine T_pev rfl rfl rfl rfl ?_
  refine T_nil ?_
  refine W_ret ?_
  refine ⟨_, ⟨_, _, rfl, rfl, rfl⟩, ?_⟩
  exact ⟨rfl, S206.below⟩

end Go.Proofs.YtbkdncmjfhbafaaDoor
