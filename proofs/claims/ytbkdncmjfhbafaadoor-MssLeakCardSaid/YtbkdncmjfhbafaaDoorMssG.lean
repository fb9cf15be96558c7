/- Leaks: the program's and the document's. -/
import Derived.Test.YtbkdncmjfhbafaaDoorMssF
import Derived.Test.YtbkdncmjfhbafaaDoorAuMss6
import Derived.Test.YtbkdncmjfhbafaaDoorFForge2
set_option linter.unusedVariables false
set_option linter.unusedSimpArgs false
set_option maxRecDepth 8192
namespace Go.Proofs.YtbkdncmjfhbafaaDoor
open Go Go.F Go.RowKit

theorem isNone_no {H : Hp} {a : Option Addr} {n m c size : Nat} {xs : List Value} (h : Rd H (.slice a n c) m size xs) (h0 : 0 < m) : a.isNone = false := by
  obtain ⟨b, o, c', hv, _⟩ := h.get h0
  cases hv; rfl
theorem holds_ok {H : Hp} {w : World} (hH : H.le (hw w)) (hT : Tabs H) {seed : List UInt8} (hs : seed.length = 16) {L : List (List UInt8)} {aa2 : Option Addr} {nn2 cc2 : Nat} (hL : RdL H (.slice aa2 nn2 cc2) L) (h a c q : Int) {v : List UInt8} (hv : v.length = 32) (hm : 0 ≤ h ∧ h ≤ 4) (hLl : ((L.length : Nat) : Int) = ((2 ^ h.toNat : Nat) : Int)) (hLb : ∀ i, (L.getD i []).length < 1000) (hpc : c ≤ 9223372036854775807) (hpa : a ≤ 9223372036854775807) :
    Calls Tryd.prog 15 #[hV seed, .int .i64 h, .slice aa2 nn2 cc2, fV true a c q v] w fun e w' => e = .returned (.bool (Go.Au.holds seed h L a c q v)) ∧ Below w.heap.size w w' := by
  obtain rfl : nn2 = L.length := hL.len
  have hp16 := Go.Au.pow16 (h := h) (by omega) (by omega)
  refine enter4 _ Tryd.func15 rfl Tryd.ntmps15 Tryd.results15 rfl ?_
  have S0 := St.start w hH
  refine W_seq ?_
  refine W_region ?_
  refine T_boxS S0 (fun _ _ => trivial) rfl rfl rfl rfl rfl rfl fun b1 w2 S3 => ?_
  refine T_boxS S3 (fun _ _ => trivial) rfl rfl rfl rfl rfl rfl fun b4 w5 S6 => ?_
  refine T_pev rfl rfl rfl rfl ?_
  refine T_nil ?_
  refine W_seq ?_
  refine W_seq ?_
  refine W_draw rfl (by kernel_rfl) ?_
  have S7 := S6.drew
  refine T_pev rfl rfl rfl rfl ?_
  refine T_callS rfl rfl g_aumbry_mss_may rfl rfl rfl rfl ((may_ok S7.le h).mono ?_)
  rintro e w9 ⟨rfl, hB8⟩
  have S10 := S7.call hB8
  refine ⟨_, rfl, trivial, ?_⟩
  refine T_pev rfl rfl rfl rfl ?_
  refine T_pev rfl rfl rfl rfl ?_
  refine T_bool 13 false rfl (may_is hm) ?_
  refine T_yes rfl rfl rfl ?_ rfl
  refine T_fldm 3 rfl rfl rfl rfl rfl rfl (by decide) rfl rfl rfl ?_
  refine T_yes rfl rfl rfl ?_ rfl
  refine T_loadS 0 3 S10 rfl rfl rfl rfl rfl rfl rfl rfl rfl fV_3 ?_
  refine T_yes rfl rfl rfl ?_ rfl
  refine T_pev rfl rfl rfl rfl ?_
  refine T_pev rfl rfl rfl rfl ?_
  refine T_pev rfl rfl rfl rfl ?_
  refine T_part (t := 18) rfl (List.cons_ne_nil _ _) (fun h11' => ?_) (fun h11' => ?_)
  · have h11 := of_decide_eq_true h11'
    refine T_no rfl rfl rfl rfl rfl rfl ?_
    refine T_no rfl rfl rfl rfl rfl rfl ?_
    refine T_no rfl rfl rfl rfl rfl rfl ?_
    refine T_no rfl rfl rfl rfl rfl rfl ?_
    refine T_no rfl rfl rfl rfl rfl rfl ?_
    refine T_pev rfl rfl rfl rfl ?_
    refine T_pev rfl rfl rfl rfl ?_
    refine T_no rfl rfl rfl rfl rfl rfl ?_
    refine T_no rfl rfl rfl rfl rfl rfl ?_
    refine T_no rfl rfl rfl rfl rfl rfl ?_
    refine T_pev rfl rfl rfl rfl ?_
    refine T_pev rfl rfl rfl rfl ?_
    refine T_no rfl rfl rfl rfl rfl rfl ?_
    refine T_no rfl rfl rfl rfl rfl rfl ?_
    refine T_no rfl rfl rfl rfl rfl rfl ?_
    refine T_pev rfl rfl rfl rfl ?_
    refine T_pev rfl rfl rfl rfl ?_
    refine T_no rfl rfl rfl rfl rfl rfl ?_
    refine T_no rfl rfl rfl rfl rfl rfl ?_
    refine T_no rfl rfl rfl rfl rfl rfl ?_
    refine T_pev rfl rfl rfl rfl ?_
    refine T_pev rfl rfl rfl rfl ?_
    refine T_no rfl rfl rfl rfl rfl rfl ?_
    refine T_no rfl rfl rfl rfl rfl rfl ?_
    refine T_no rfl rfl rfl rfl rfl rfl ?_
    refine T_pev rfl rfl rfl rfl ?_
    refine T_nil ?_
    refine W_cond_true rfl ?_
    refine W_seq ?_
    refine W_region ?_
    refine T_pev rfl rfl rfl rfl ?_
    refine T_nil ?_
    refine W_ret ?_
    refine ⟨_, ⟨_, _, rfl, rfl, rfl⟩, ?_⟩
    exact ⟨by rw [Go.Au.hd_no (by omega)]; rfl, S10.below⟩
  have h11 := of_decide_eq_false h11'
  refine T_yes rfl rfl rfl ?_ rfl
  refine T_fldm 3 rfl rfl rfl rfl rfl rfl (by decide) rfl rfl rfl ?_
  refine T_yes rfl rfl rfl ?_ rfl
  refine T_loadS 0 3 S10 rfl rfl rfl rfl rfl rfl rfl rfl rfl fV_3 ?_
  refine T_yes rfl rfl rfl ?_ rfl
  refine T_pev rfl rfl rfl rfl ?_
  refine T_yes rfl rfl rfl ?_ rfl
  refine T_shl rfl rfl rfl rfl rfl rfl (by omega) ?_
  refine T_re (v' := .int .i64 ((2 ^ h.toNat : Nat) : Int)) (congrArg (Value.int .i64) (shlI (by omega) (by omega))) ?_
  refine T_yes rfl rfl rfl ?_ rfl
  refine T_pev rfl rfl rfl rfl ?_
  refine T_pev rfl rfl rfl rfl ?_
  refine T_pev rfl rfl rfl rfl ?_
  refine T_part (t := 25) rfl (List.cons_ne_nil _ _) (fun h12' => ?_) (fun h12' => ?_)
  · have h12 := of_decide_eq_true h12'
    refine T_no rfl rfl rfl rfl rfl rfl ?_
    refine T_no rfl rfl rfl rfl rfl rfl ?_
    refine T_no rfl rfl rfl rfl rfl rfl ?_
    refine T_pev rfl rfl rfl rfl ?_
    refine T_pev rfl rfl rfl rfl ?_
    refine T_no rfl rfl rfl rfl rfl rfl ?_
    refine T_no rfl rfl rfl rfl rfl rfl ?_
    refine T_no rfl rfl rfl rfl rfl rfl ?_
    refine T_pev rfl rfl rfl rfl ?_
    refine T_pev rfl rfl rfl rfl ?_
    refine T_no rfl rfl rfl rfl rfl rfl ?_
    refine T_no rfl rfl rfl rfl rfl rfl ?_
    refine T_no rfl rfl rfl rfl rfl rfl ?_
    refine T_pev rfl rfl rfl rfl ?_
    refine T_pev rfl rfl rfl rfl ?_
    refine T_no rfl rfl rfl rfl rfl rfl ?_
    refine T_no rfl rfl rfl rfl rfl rfl ?_
    refine T_no rfl rfl rfl rfl rfl rfl ?_
    refine T_pev rfl rfl rfl rfl ?_
    refine T_nil ?_
    refine W_cond_true rfl ?_
    refine W_seq ?_
    refine W_region ?_
    refine T_pev rfl rfl rfl rfl ?_
    refine T_nil ?_
    refine W_ret ?_
    refine ⟨_, ⟨_, _, rfl, rfl, rfl⟩, ?_⟩
    exact ⟨by rw [Go.Au.hd_no (by omega)]; rfl, S10.below⟩
  have h12 := of_decide_eq_false h12'
  refine T_yes rfl rfl rfl ?_ rfl
  refine T_fldm 4 rfl rfl rfl rfl rfl rfl (by decide) rfl rfl rfl ?_
  refine T_yes rfl rfl rfl ?_ rfl
  refine T_loadS 0 4 S10 rfl rfl rfl rfl rfl rfl rfl rfl rfl fV_4 ?_
  refine T_yes rfl rfl rfl ?_ rfl
  refine T_pev rfl rfl rfl rfl ?_
  refine T_pev rfl rfl rfl rfl ?_
  refine T_pev rfl rfl rfl rfl ?_
  refine T_part (t := 30) rfl (List.cons_ne_nil _ _) (fun h13' => ?_) (fun h13' => ?_)
  · have h13 := of_decide_eq_true h13'
    refine T_no rfl rfl rfl rfl rfl rfl ?_
    refine T_no rfl rfl rfl rfl rfl rfl ?_
    refine T_no rfl rfl rfl rfl rfl rfl ?_
    refine T_pev rfl rfl rfl rfl ?_
    refine T_pev rfl rfl rfl rfl ?_
    refine T_no rfl rfl rfl rfl rfl rfl ?_
    refine T_no rfl rfl rfl rfl rfl rfl ?_
    refine T_no rfl rfl rfl rfl rfl rfl ?_
    refine T_pev rfl rfl rfl rfl ?_
    refine T_pev rfl rfl rfl rfl ?_
    refine T_no rfl rfl rfl rfl rfl rfl ?_
    refine T_no rfl rfl rfl rfl rfl rfl ?_
    refine T_no rfl rfl rfl rfl rfl rfl ?_
    refine T_pev rfl rfl rfl rfl ?_
    refine T_nil ?_
    refine W_cond_true rfl ?_
    refine W_seq ?_
    refine W_region ?_
    refine T_pev rfl rfl rfl rfl ?_
    refine T_nil ?_
    refine W_ret ?_
    refine ⟨_, ⟨_, _, rfl, rfl, rfl⟩, ?_⟩
    exact ⟨by rw [Go.Au.hd_no (by omega)]; rfl, S10.below⟩
  have h13 := of_decide_eq_false h13'
  refine T_yes rfl rfl rfl ?_ rfl
  refine T_fldm 4 rfl rfl rfl rfl rfl rfl (by decide) rfl rfl rfl ?_
  refine T_yes rfl rfl rfl ?_ rfl
  refine T_loadS 0 4 S10 rfl rfl rfl rfl rfl rfl rfl rfl rfl fV_4 ?_
  refine T_yes rfl rfl rfl ?_ rfl
  refine T_pev rfl rfl rfl rfl ?_
  refine T_pev rfl rfl rfl rfl ?_
  refine T_pev rfl rfl rfl rfl ?_
  refine T_part (t := 35) rfl (List.cons_ne_nil _ _) (fun h14' => ?_) (fun h14' => ?_)
  · have h14 := of_decide_eq_true h14'
    refine T_no rfl rfl rfl rfl rfl rfl ?_
    refine T_no rfl rfl rfl rfl rfl rfl ?_
    refine T_no rfl rfl rfl rfl rfl rfl ?_
    refine T_pev rfl rfl rfl rfl ?_
    refine T_pev rfl rfl rfl rfl ?_
    refine T_no rfl rfl rfl rfl rfl rfl ?_
    refine T_no rfl rfl rfl rfl rfl rfl ?_
    refine T_no rfl rfl rfl rfl rfl rfl ?_
    refine T_pev rfl rfl rfl rfl ?_
    refine T_nil ?_
    refine W_cond_true rfl ?_
    refine W_seq ?_
    refine W_region ?_
    refine T_pev rfl rfl rfl rfl ?_
    refine T_nil ?_
    refine W_ret ?_
    refine ⟨_, ⟨_, _, rfl, rfl, rfl⟩, ?_⟩
    exact ⟨by rw [Go.Au.hd_no (by omega)]; rfl, S10.below⟩
  have h14 := of_decide_eq_false h14'
  refine T_yes rfl rfl rfl ?_ rfl
  refine T_fldm 5 rfl rfl rfl rfl rfl rfl (by decide) rfl rfl rfl ?_
  refine T_yes rfl rfl rfl ?_ rfl
  refine T_loadS 0 5 S10 rfl rfl rfl rfl rfl rfl rfl rfl rfl fV_5 ?_
  refine T_yes rfl rfl rfl ?_ rfl
  refine T_pev rfl rfl rfl rfl ?_
  refine T_pev rfl rfl rfl rfl ?_
  refine T_pev rfl rfl rfl rfl ?_
  refine T_part (t := 40) rfl (List.cons_ne_nil _ _) (fun h15' => ?_) (fun h15' => ?_)
  · have h15 := of_decide_eq_true h15'
    refine T_no rfl rfl rfl rfl rfl rfl ?_
    refine T_no rfl rfl rfl rfl rfl rfl ?_
    refine T_no rfl rfl rfl rfl rfl rfl ?_
    refine T_pev rfl rfl rfl rfl ?_
    refine T_nil ?_
    refine W_cond_true rfl ?_
    refine W_seq ?_
    refine W_region ?_
    refine T_pev rfl rfl rfl rfl ?_
    refine T_nil ?_
    refine W_ret ?_
    refine ⟨_, ⟨_, _, rfl, rfl, rfl⟩, ?_⟩
    exact ⟨by rw [Go.Au.hd_no (by omega)]; rfl, S10.below⟩
  have h15 := of_decide_eq_false h15'
  refine T_yes rfl rfl rfl ?_ rfl
  refine T_fldm 5 rfl rfl rfl rfl rfl rfl (by decide) rfl rfl rfl ?_
  refine T_yes rfl rfl rfl ?_ rfl
  refine T_loadS 0 5 S10 rfl rfl rfl rfl rfl rfl rfl rfl rfl fV_5 ?_
  refine T_yes rfl rfl rfl ?_ rfl
  refine T_pev rfl rfl rfl rfl ?_
  refine T_pev rfl rfl rfl rfl ?_
  refine T_nil ?_
  refine W_cond_dec rfl (fun h16 => ?_) (fun h16 => ?_)
  · refine W_seq ?_
    refine W_region ?_
    refine T_pev rfl rfl rfl rfl ?_
    refine T_nil ?_
    refine W_ret ?_
    refine ⟨_, ⟨_, _, rfl, rfl, rfl⟩, ?_⟩
    exact ⟨by rw [Go.Au.hd_no (by omega)]; rfl, S10.below⟩
  refine W_skip ?_
  refine W_seq ?_
  refine W_seq ?_
  refine W_region ?_
  refine T_fldm 0 rfl rfl rfl rfl rfl rfl (by decide) rfl rfl rfl ?_
  refine T_loadAS _ 0 S10 rfl rfl rfl rfl rfl rfl rfl rfl rfl (by first | rfl | simp [hVs, *]) fV_br ?_
  refine T_callS rfl rfl g_aumbry_sha_Same rfl rfl rfl rfl ((isbr_ok S10.le hT (nilB _) (nilB _) (Nat.zero_le _) (Nat.zero_le _)).mono ?_)
  rintro e w18 ⟨rfl, hB17⟩
  have S19 := S10.call hB17
  refine ⟨_, rfl, trivial, ?_⟩
  refine T_nil ?_
  refine W_bool 47 false rfl (by simp) ?_
  refine W_cond_false rfl ?_
  refine W_skip ?_
  refine W_seq ?_
  refine W_seq ?_
  obtain ⟨G21, hl22, S20, r23⟩ := S19.stillBlk 0 rfl
  refine W_plan (planF Tryd.prog G21 [53, 61]) rfl (by kernel_rfl) S20.le ?_
  have S24 := S20.drew
  refine T_fldm 2 rfl rfl rfl rfl rfl rfl (by decide) rfl rfl rfl ?_
  refine T_loadG S24 (still_cell r23 fV_2) rfl rfl rfl rfl rfl rfl rfl ?_
  refine T_pev rfl rfl rfl rfl ?_
  refine T_pev rfl rfl rfl rfl ?_
  refine T_yes rfl rfl rfl ?_ rfl
  refine T_fldm 6 rfl rfl rfl rfl rfl rfl (by decide) rfl rfl rfl ?_
  refine T_yes rfl rfl rfl ?_ rfl
  refine T_loadGAP _ (fun _ h => h) (still_part r23 fV_val) rfl rfl rfl rfl rfl rfl rfl rfl (hVs hv) ?_
  refine T_yes rfl rfl rfl ?_ rfl
  refine T_loadFS 0 S24 rfl rfl rfl rfl rfl rfl rfl rfl rfl (hVs hs) ?_
  refine T_yes rfl rfl rfl ?_ rfl
  refine T_fldm 3 rfl rfl rfl rfl rfl rfl (by decide) rfl rfl rfl ?_
  refine T_yes rfl rfl rfl ?_ rfl
  refine T_loadG S24 (still_cell r23 fV_3) rfl rfl rfl rfl rfl rfl rfl ?_
  refine T_yes rfl rfl rfl ?_ rfl
  refine T_fldm 4 rfl rfl rfl rfl rfl rfl (by decide) rfl rfl rfl ?_
  refine T_yes rfl rfl rfl ?_ rfl
  refine T_loadG S24 (still_cell r23 fV_4) rfl rfl rfl rfl rfl rfl rfl ?_
  refine T_yes rfl rfl rfl ?_ rfl
  refine T_callS rfl rfl g_aumbry_wots_Start rfl rfl rfl rfl ((start_ok S24.le (hT.mono hl22) a c hs (by omega) (by omega)).mono ?_)
  rintro e w26 ⟨rfl, hB25⟩
  have S27 := S24.call hB25
  refine ⟨_, rfl, (((Hp.le.refl _)).trans S27.le), ?_⟩
  refine T_yes rfl rfl rfl ?_ rfl
  refine T_fldm 5 rfl rfl rfl rfl rfl rfl (by decide) rfl rfl rfl ?_
  refine T_yes rfl rfl rfl ?_ rfl
  refine T_loadGP (fun _ h => h) (still_cell r23 fV_5) rfl rfl rfl rfl rfl rfl rfl ?_
  refine T_yes rfl rfl rfl ?_ rfl
  refine T_callS rfl rfl g_aumbry_wots_Along rfl rfl rfl rfl ((along_ok S27.le (hT.mono hl22) q (Go.Au.start_len _ _ _)).mono ?_)
  rintro e w29 ⟨rfl, hB28⟩
  have S30 := S27.call hB28
  refine ⟨_, rfl, (((Hp.le.refl _)).trans S30.le), ?_⟩
  refine T_yes rfl rfl rfl ?_ rfl
  refine T_neB (xs := v) (ys := Go.Au.steps (max (0 : Int) (min q 15)).toNat (Go.Au.start seed a c)) rfl rfl rfl rfl rfl rfl rfl rfl rfl rfl rfl hv (Go.Au.steps_len _ (Go.Au.start_len _ _ _)) ?_
  refine T_pev rfl rfl rfl rfl ?_
  refine T_nil ?_
  refine W_cond_not rfl (fun h31 => ?_) (fun h31 => ?_)
  · refine W_seq ?_
    refine W_region ?_
    refine T_pev rfl rfl rfl rfl ?_
    refine T_nil ?_
    refine W_ret ?_
    refine ⟨_, ⟨_, _, rfl, rfl, rfl⟩, ?_⟩
    exact ⟨by rw [Go.Au.hd_v ⟨⟨by omega, by omega⟩, ⟨by omega, by omega⟩, by omega, by omega⟩ h31]; rfl, S30.below⟩
  refine W_skip ?_
  refine W_seq ?_
  have hve : v = Go.Au.steps (max (0 : Int) (min q 15)).toNat (Go.Au.start seed a c) := h31
  have hxb := hLb a.toNat
  refine W_region ?_
  refine T_pev rfl rfl rfl rfl ?_
  refine T_fldm 3 rfl rfl rfl rfl rfl rfl (by decide) rfl rfl rfl ?_
  refine T_loadG S30 (still_cell r23 fV_3) rfl rfl rfl rfl rfl rfl rfl ?_
  refine T_callS rfl rfl g_aumbry_mss_told rfl rfl rfl rfl ((told_ok S30.le (hL.mono hl22) a (by omega)).mono ?_)
  rintro e w37 ⟨a32, c33, hc34, rfl, hr35, hB36⟩
  have S38 := S30.call hB36
  refine ⟨_, rfl, trivial, ?_⟩
  refine T_pev rfl rfl rfl rfl ?_
  refine T_nil ?_
  refine W_seq ?_
  refine W_plan (planF Tryd.prog G21 [76, 80]) rfl (by kernel_rfl) S38.le ?_
  have S39 := S38.drew
  refine T_pev rfl rfl rfl rfl ?_
  refine T_pev rfl rfl rfl rfl ?_
  refine T_pev rfl rfl rfl rfl ?_
  refine T_pev rfl rfl rfl rfl ?_
  refine T_part (t := 72) rfl (List.cons_ne_nil _ _) (fun h40' => ?_) (fun h40' => ?_)
  · have h40 := of_decide_eq_true h40'
    refine T_no rfl rfl rfl rfl rfl rfl ?_
    refine T_no rfl rfl rfl rfl rfl rfl ?_
    refine T_no rfl rfl rfl rfl rfl rfl ?_
    refine T_no rfl rfl rfl rfl rfl rfl ?_
    refine T_no rfl rfl rfl rfl rfl rfl ?_
    refine T_no rfl rfl rfl rfl rfl rfl ?_
    refine T_no rfl rfl rfl rfl rfl rfl ?_
    refine T_no rfl rfl rfl rfl rfl rfl ?_
    refine T_no rfl rfl rfl rfl rfl rfl ?_
    refine T_pev rfl rfl rfl rfl ?_
    refine T_pev rfl rfl rfl rfl ?_
    refine T_nil ?_
    refine W_ret ?_
    refine ⟨_, ⟨_, _, rfl, rfl, rfl⟩, ?_⟩
    exact ⟨by rw [Go.Au.hd_e ⟨⟨by omega, by omega⟩, ⟨by omega, by omega⟩, by omega, by omega⟩ hve (by omega)]; rfl, S39.below⟩
  have h40 := of_decide_eq_false h40'
  refine T_yes rfl rfl rfl ?_ rfl
  refine T_pev rfl rfl rfl rfl ?_
  refine T_yes rfl rfl rfl ?_ rfl
  refine T_callS rfl rfl g_aumbry_wots_Digits rfl rfl rfl rfl ((digits_w_ok S39.le (hT.mono hl22) hr35 (by omega)).mono ?_)
  rintro e w46 ⟨a41, c42, hc43, rfl, ho44, hB45⟩
  have S47 := S39.own hB45 ho44
  refine ⟨_, rfl, (((Hp.le.refl _)).trans S47.le), ?_⟩
  refine T_yes rfl rfl rfl ?_ rfl
  refine T_fldm 4 rfl rfl rfl rfl rfl rfl (by decide) rfl rfl rfl ?_
  refine T_yes rfl rfl rfl ?_ rfl
  refine T_loadGP (fun _ h => h) (still_cell r23 fV_4) rfl rfl rfl rfl rfl rfl rfl ?_
  refine T_yes rfl rfl rfl ?_ rfl
  have hdl := Go.Au.digits_len (L.getD a.toNat [])
  obtain ⟨G49, hl50, S48, r51⟩ := S47.stillRow 0 rfl
  refine T_idxR c.toNat r51 rfl rfl rfl rfl rfl rfl rfl rfl rfl (by omega) (by omega) fun b52 o53 hc54 => ?_
  have hc55 := hc54 0 (.int .i64 ((Go.Au.digits (L.getD a.toNat [])).getD c.toNat 0)) (at_i (Go.Au.digits (L.getD a.toNat [])) c.toNat (by omega))
  simp only [Nat.add_zero] at hc55
  refine T_yes rfl rfl rfl ?_ rfl
  refine T_loadG S48 hc55 rfl rfl rfl rfl rfl rfl rfl ?_
  refine T_yes rfl rfl rfl ?_ rfl
  refine T_fldm 5 rfl rfl rfl rfl rfl rfl (by decide) rfl rfl rfl ?_
  refine T_yes rfl rfl rfl ?_ rfl
  refine T_loadGP (fun _ h => h) (still_cell r23 fV_5) rfl rfl rfl rfl rfl rfl rfl ?_
  refine T_yes rfl rfl rfl ?_ rfl
  refine T_pev rfl rfl rfl rfl ?_
  refine T_pev rfl rfl rfl rfl ?_
  refine T_pev rfl rfl rfl rfl ?_
  refine T_nil ?_
  refine W_ret ?_
  refine ⟨_, ⟨_, _, rfl, rfl, rfl⟩, ?_⟩
  exact ⟨by rw [Go.Au.hd_d ⟨⟨by omega, by omega⟩, ⟨by omega, by omega⟩, by omega, by omega⟩ hve (by omega)]; rfl, S48.below⟩


theorem signedNo_ok {H : Hp} {w : World} (hH : H.le (hw w)) {L : List (List UInt8)} {aa0 : Option Addr} {nn0 cc0 : Nat} (hv : RdL H (.slice aa0 nn0 cc0) L) (i : Int) (hi : 0 ≤ i ∧ i < L.length) (h0 : (L.getD i.toNat []).length = 0) :
    Calls Tryd.prog 48 #[.slice aa0 nn0 cc0, .int .i64 i] w fun e w' => e = .returned (.slice none 0 0) ∧ Below w.heap.size w w' := by
  obtain rfl : nn0 = L.length := hv.len
  refine enter2 _ Tryd.func48 rfl Tryd.ntmps48 Tryd.results48 rfl ?_
  have S0 := St.start w hH
  refine W_seq ?_
  refine W_region ?_
  refine T_pev rfl rfl rfl rfl ?_
  refine T_nil ?_
  refine W_seq ?_
  refine W_seq ?_
  refine W_region ?_
  refine T_pev rfl rfl rfl rfl ?_
  refine T_pev rfl rfl rfl rfl ?_
  refine T_pev rfl rfl rfl rfl ?_
  refine T_bool 7 false rfl (decide_eq_false (by omega)) ?_
  refine T_yes rfl rfl rfl ?_ rfl
  refine T_pev rfl rfl rfl rfl ?_
  refine T_yes rfl rfl rfl ?_ rfl
  refine T_pev rfl rfl rfl rfl ?_
  refine T_yes rfl rfl rfl ?_ rfl
  refine T_pev rfl rfl rfl rfl ?_
  refine T_yes rfl rfl rfl ?_ rfl
  refine T_pev rfl rfl rfl rfl ?_
  refine T_pev rfl rfl rfl rfl ?_
  refine T_pev rfl rfl rfl rfl ?_
  refine T_bool 13 false rfl (decide_eq_false (by omega)) ?_
  refine T_yes rfl rfl rfl ?_ rfl
  refine T_pev rfl rfl rfl rfl ?_
  refine T_yes rfl rfl rfl ?_ rfl
  refine T_pev rfl rfl rfl rfl ?_
  refine T_yes rfl rfl rfl ?_ rfl
  obtain ⟨hs4, r5, r6⟩ := (id hv)
  refine T_idxR i.toNat r5 rfl rfl rfl rfl rfl rfl rfl rfl rfl (by omega) (by omega) fun b1 o2 hc3 => ?_
  obtain ⟨a9, c10, hc12, hv8, r11⟩ := r6.at i.toNat (by omega)
  have hc13 := hc3 0 (.slice a9 (L.getD i.toNat []).length c10) (by simpa using hv8)
  simp only [Nat.add_zero] at hc13
  refine T_yes rfl rfl rfl ?_ rfl
  refine T_loadG S0 hc13 rfl rfl rfl rfl rfl rfl rfl ?_
  refine T_yes rfl rfl rfl ?_ rfl
  refine T_pev rfl rfl rfl rfl ?_
  refine T_yes rfl rfl rfl ?_ rfl
  refine T_pev rfl rfl rfl rfl ?_
  refine T_pev rfl rfl rfl rfl ?_
  refine T_nil ?_
  refine W_bool 20 true rfl (decide_eq_true (by omega)) ?_
  refine W_cond_true rfl ?_
  refine W_seq ?_
  refine W_region ?_
  refine T_pev rfl rfl rfl rfl ?_
  refine T_nil ?_
  refine W_ret ?_
  refine ⟨_, ⟨_, _, rfl, rfl, rfl⟩, ?_⟩
  exact ⟨rfl, S0.below⟩


theorem signed_ok {H : Hp} {w : World} (hH : H.le (hw w)) {L : List (List UInt8)} {aa0 : Option Addr} {nn0 cc0 : Nat} (hv : RdL H (.slice aa0 nn0 cc0) L) (i : Int) (hi : 0 ≤ i ∧ i < L.length) (h0 : ¬ (L.getD i.toNat []).length = 0) :
    Calls Tryd.prog 48 #[.slice aa0 nn0 cc0, .int .i64 i] w fun e w' => ∃ a c, (L.getD i.toNat []).length ≤ c ∧ e = .returned (.slice a (L.getD i.toNat []).length c) ∧ Rd H (.slice a (L.getD i.toNat []).length c) (L.getD i.toNat []).length 1 ((L.getD i.toNat []).map bV) ∧ Below w.heap.size w w' := by
  obtain rfl : nn0 = L.length := hv.len
  refine enter2 _ Tryd.func48 rfl Tryd.ntmps48 Tryd.results48 rfl ?_
  have S0 := St.start w hH
  refine W_seq ?_
  refine W_region ?_
  refine T_pev rfl rfl rfl rfl ?_
  refine T_nil ?_
  refine W_seq ?_
  refine W_seq ?_
  refine W_region ?_
  refine T_pev rfl rfl rfl rfl ?_
  refine T_pev rfl rfl rfl rfl ?_
  refine T_pev rfl rfl rfl rfl ?_
  refine T_bool 7 false rfl (decide_eq_false (by omega)) ?_
  refine T_yes rfl rfl rfl ?_ rfl
  refine T_pev rfl rfl rfl rfl ?_
  refine T_yes rfl rfl rfl ?_ rfl
  refine T_pev rfl rfl rfl rfl ?_
  refine T_yes rfl rfl rfl ?_ rfl
  refine T_pev rfl rfl rfl rfl ?_
  refine T_yes rfl rfl rfl ?_ rfl
  refine T_pev rfl rfl rfl rfl ?_
  refine T_pev rfl rfl rfl rfl ?_
  refine T_pev rfl rfl rfl rfl ?_
  refine T_bool 13 false rfl (decide_eq_false (by omega)) ?_
  refine T_yes rfl rfl rfl ?_ rfl
  refine T_pev rfl rfl rfl rfl ?_
  refine T_yes rfl rfl rfl ?_ rfl
  refine T_pev rfl rfl rfl rfl ?_
  refine T_yes rfl rfl rfl ?_ rfl
  obtain ⟨hs4, r5, r6⟩ := (id hv)
  refine T_idxR i.toNat r5 rfl rfl rfl rfl rfl rfl rfl rfl rfl (by omega) (by omega) fun b1 o2 hc3 => ?_
  obtain ⟨a9, c10, hc12, hv8, r11⟩ := r6.at i.toNat (by omega)
  have hc13 := hc3 0 (.slice a9 (L.getD i.toNat []).length c10) (by simpa using hv8)
  simp only [Nat.add_zero] at hc13
  refine T_yes rfl rfl rfl ?_ rfl
  refine T_loadG S0 hc13 rfl rfl rfl rfl rfl rfl rfl ?_
  refine T_yes rfl rfl rfl ?_ rfl
  refine T_pev rfl rfl rfl rfl ?_
  refine T_yes rfl rfl rfl ?_ rfl
  refine T_pev rfl rfl rfl rfl ?_
  refine T_pev rfl rfl rfl rfl ?_
  refine T_nil ?_
  refine W_bool 20 false rfl (decide_eq_false (by omega)) ?_
  refine W_cond_false rfl ?_
  refine W_skip ?_
  refine W_seq ?_
  refine W_region ?_
  refine T_pev rfl rfl rfl rfl ?_
  refine T_pev rfl rfl rfl rfl ?_
  obtain ⟨hs17, r18, r19⟩ := (id hv)
  refine T_idxR i.toNat r18 rfl rfl rfl rfl rfl rfl rfl rfl rfl (by omega) (by omega) fun b14 o15 hc16 => ?_
  obtain ⟨a22, c23, hc25, hv21, r24⟩ := r19.at i.toNat (by omega)
  have hc26 := hc16 0 (.slice a22 (L.getD i.toNat []).length c23) (by simpa using hv21)
  simp only [Nat.add_zero] at hc26
  refine T_loadG S0 hc26 rfl rfl rfl rfl rfl rfl rfl ?_
  refine T_pev rfl rfl rfl rfl ?_
  refine T_nil ?_
  refine W_ret ?_
  refine ⟨_, ⟨_, _, rfl, rfl, rfl⟩, ?_⟩
  exact ⟨_, _, hc25, rfl, r24, S0.below⟩


theorem holdsR_e {H : Hp} {w : World} (hH : H.le (hw w)) {seed : List UInt8} (hs : seed.length = 16) {L : List (List UInt8)} {aa2 : Option Addr} {nn2 cc2 : Nat} (hL : RdL H (.slice aa2 nn2 cc2) L) (h a c q : Int) {v : List UInt8} (hv : v.length = 32) (hm : 0 ≤ h ∧ h ≤ 4) (hLl : ((L.length : Nat) : Int) = ((2 ^ h.toNat : Nat) : Int)) (hLb : ∀ i, (L.getD i []).length < 1000) (hpc : c ≤ 9223372036854775807) (hpa : a ≤ 9223372036854775807) (h0 : (L.getD a.toNat []).length = 0) :
    Calls Tryd.prog 16 #[hV seed, .int .i64 h, .slice aa2 nn2 cc2, fV true a c q v] w fun e w' => e = .returned (.bool (Go.Au.holds seed h L a c q v)) ∧ Below w.heap.size w w' := by
  obtain rfl : nn2 = L.length := hL.len
  have hp16 := Go.Au.pow16 (h := h) (by omega) (by omega)
  refine enter4 _ Tryd.func16 rfl Tryd.ntmps16 Tryd.results16 rfl ?_
  have S0 := St.start w hH
  refine W_seq ?_
  refine W_region ?_
  refine T_boxS S0 (fun _ _ => trivial) rfl rfl rfl rfl rfl rfl fun b1 w2 S3 => ?_
  refine T_boxS S3 (fun _ _ => trivial) rfl rfl rfl rfl rfl rfl fun b4 w5 S6 => ?_
  refine T_pev rfl rfl rfl rfl ?_
  refine T_nil ?_
  refine W_seq ?_
  refine W_seq ?_
  refine W_region ?_
  refine T_fldm 3 rfl rfl rfl rfl rfl rfl (by decide) rfl rfl rfl ?_
  refine T_loadS 0 3 S6 rfl rfl rfl rfl rfl rfl rfl rfl rfl fV_3 ?_
  refine T_pev rfl rfl rfl rfl ?_
  refine T_pev rfl rfl rfl rfl ?_
  refine T_part (t := 13) rfl (List.cons_ne_nil _ _) (fun h7' => ?_) (fun h7' => ?_)
  · have h7 := of_decide_eq_true h7'
    refine T_no rfl rfl rfl rfl rfl rfl ?_
    refine T_no rfl rfl rfl rfl rfl rfl ?_
    refine T_no rfl rfl rfl rfl rfl rfl ?_
    refine T_no rfl rfl rfl rfl rfl rfl ?_
    refine T_no rfl rfl rfl rfl rfl rfl ?_
    refine T_no rfl rfl rfl rfl rfl rfl ?_
    refine T_pev rfl rfl rfl rfl ?_
    refine T_pev rfl rfl rfl rfl ?_
    refine T_no rfl rfl rfl rfl rfl rfl ?_
    refine T_no rfl rfl rfl rfl rfl rfl ?_
    refine T_no rfl rfl rfl rfl rfl rfl ?_
    refine T_pev rfl rfl rfl rfl ?_
    refine T_pev rfl rfl rfl rfl ?_
    refine T_no rfl rfl rfl rfl rfl rfl ?_
    refine T_no rfl rfl rfl rfl rfl rfl ?_
    refine T_no rfl rfl rfl rfl rfl rfl ?_
    refine T_pev rfl rfl rfl rfl ?_
    refine T_pev rfl rfl rfl rfl ?_
    refine T_no rfl rfl rfl rfl rfl rfl ?_
    refine T_no rfl rfl rfl rfl rfl rfl ?_
    refine T_no rfl rfl rfl rfl rfl rfl ?_
    refine T_pev rfl rfl rfl rfl ?_
    refine T_pev rfl rfl rfl rfl ?_
    refine T_no rfl rfl rfl rfl rfl rfl ?_
    refine T_no rfl rfl rfl rfl rfl rfl ?_
    refine T_no rfl rfl rfl rfl rfl rfl ?_
    refine T_pev rfl rfl rfl rfl ?_
    refine T_nil ?_
    refine W_cond_true rfl ?_
    refine W_seq ?_
    refine W_region ?_
    refine T_pev rfl rfl rfl rfl ?_
    refine T_nil ?_
    refine W_ret ?_
    refine ⟨_, ⟨_, _, rfl, rfl, rfl⟩, ?_⟩
    exact ⟨by rw [Go.Au.hd_no (by omega)]; rfl, S6.below⟩
  have h7 := of_decide_eq_false h7'
  refine T_yes rfl rfl rfl ?_ rfl
  refine T_fldm 3 rfl rfl rfl rfl rfl rfl (by decide) rfl rfl rfl ?_
  refine T_yes rfl rfl rfl ?_ rfl
  refine T_loadS 0 3 S6 rfl rfl rfl rfl rfl rfl rfl rfl rfl fV_3 ?_
  refine T_yes rfl rfl rfl ?_ rfl
  refine T_pev rfl rfl rfl rfl ?_
  refine T_yes rfl rfl rfl ?_ rfl
  refine T_pev rfl rfl rfl rfl ?_
  refine T_re (v' := .int .u64 h) (congrArg (Value.int .u64) (by rw [IntKind.wrap_u64]; omega)) ?_
  refine T_yes rfl rfl rfl ?_ rfl
  refine T_shl rfl rfl rfl rfl rfl rfl (by omega) ?_
  refine T_re (v' := .int .i64 ((2 ^ h.toNat : Nat) : Int)) (congrArg (Value.int .i64) (shlI (by omega) (by omega))) ?_
  refine T_yes rfl rfl rfl ?_ rfl
  refine T_pev rfl rfl rfl rfl ?_
  refine T_pev rfl rfl rfl rfl ?_
  refine T_pev rfl rfl rfl rfl ?_
  refine T_part (t := 21) rfl (List.cons_ne_nil _ _) (fun h8' => ?_) (fun h8' => ?_)
  · have h8 := of_decide_eq_true h8'
    refine T_no rfl rfl rfl rfl rfl rfl ?_
    refine T_no rfl rfl rfl rfl rfl rfl ?_
    refine T_no rfl rfl rfl rfl rfl rfl ?_
    refine T_pev rfl rfl rfl rfl ?_
    refine T_pev rfl rfl rfl rfl ?_
    refine T_no rfl rfl rfl rfl rfl rfl ?_
    refine T_no rfl rfl rfl rfl rfl rfl ?_
    refine T_no rfl rfl rfl rfl rfl rfl ?_
    refine T_pev rfl rfl rfl rfl ?_
    refine T_pev rfl rfl rfl rfl ?_
    refine T_no rfl rfl rfl rfl rfl rfl ?_
    refine T_no rfl rfl rfl rfl rfl rfl ?_
    refine T_no rfl rfl rfl rfl rfl rfl ?_
    refine T_pev rfl rfl rfl rfl ?_
    refine T_pev rfl rfl rfl rfl ?_
    refine T_no rfl rfl rfl rfl rfl rfl ?_
    refine T_no rfl rfl rfl rfl rfl rfl ?_
    refine T_no rfl rfl rfl rfl rfl rfl ?_
    refine T_pev rfl rfl rfl rfl ?_
    refine T_nil ?_
    refine W_cond_true rfl ?_
    refine W_seq ?_
    refine W_region ?_
    refine T_pev rfl rfl rfl rfl ?_
    refine T_nil ?_
    refine W_ret ?_
    refine ⟨_, ⟨_, _, rfl, rfl, rfl⟩, ?_⟩
    exact ⟨by rw [Go.Au.hd_no (by omega)]; rfl, S6.below⟩
  have h8 := of_decide_eq_false h8'
  refine T_yes rfl rfl rfl ?_ rfl
  refine T_fldm 4 rfl rfl rfl rfl rfl rfl (by decide) rfl rfl rfl ?_
  refine T_yes rfl rfl rfl ?_ rfl
  refine T_loadS 0 4 S6 rfl rfl rfl rfl rfl rfl rfl rfl rfl fV_4 ?_
  refine T_yes rfl rfl rfl ?_ rfl
  refine T_pev rfl rfl rfl rfl ?_
  refine T_pev rfl rfl rfl rfl ?_
  refine T_pev rfl rfl rfl rfl ?_
  refine T_part (t := 26) rfl (List.cons_ne_nil _ _) (fun h9' => ?_) (fun h9' => ?_)
  · have h9 := of_decide_eq_true h9'
    refine T_no rfl rfl rfl rfl rfl rfl ?_
    refine T_no rfl rfl rfl rfl rfl rfl ?_
    refine T_no rfl rfl rfl rfl rfl rfl ?_
    refine T_pev rfl rfl rfl rfl ?_
    refine T_pev rfl rfl rfl rfl ?_
    refine T_no rfl rfl rfl rfl rfl rfl ?_
    refine T_no rfl rfl rfl rfl rfl rfl ?_
    refine T_no rfl rfl rfl rfl rfl rfl ?_
    refine T_pev rfl rfl rfl rfl ?_
    refine T_pev rfl rfl rfl rfl ?_
    refine T_no rfl rfl rfl rfl rfl rfl ?_
    refine T_no rfl rfl rfl rfl rfl rfl ?_
    refine T_no rfl rfl rfl rfl rfl rfl ?_
    refine T_pev rfl rfl rfl rfl ?_
    refine T_nil ?_
    refine W_cond_true rfl ?_
    refine W_seq ?_
    refine W_region ?_
    refine T_pev rfl rfl rfl rfl ?_
    refine T_nil ?_
    refine W_ret ?_
    refine ⟨_, ⟨_, _, rfl, rfl, rfl⟩, ?_⟩
    exact ⟨by rw [Go.Au.hd_no (by omega)]; rfl, S6.below⟩
  have h9 := of_decide_eq_false h9'
  refine T_yes rfl rfl rfl ?_ rfl
  refine T_fldm 4 rfl rfl rfl rfl rfl rfl (by decide) rfl rfl rfl ?_
  refine T_yes rfl rfl rfl ?_ rfl
  refine T_loadS 0 4 S6 rfl rfl rfl rfl rfl rfl rfl rfl rfl fV_4 ?_
  refine T_yes rfl rfl rfl ?_ rfl
  refine T_pev rfl rfl rfl rfl ?_
  refine T_pev rfl rfl rfl rfl ?_
  refine T_pev rfl rfl rfl rfl ?_
  refine T_part (t := 31) rfl (List.cons_ne_nil _ _) (fun h10' => ?_) (fun h10' => ?_)
  · have h10 := of_decide_eq_true h10'
    refine T_no rfl rfl rfl rfl rfl rfl ?_
    refine T_no rfl rfl rfl rfl rfl rfl ?_
    refine T_no rfl rfl rfl rfl rfl rfl ?_
    refine T_pev rfl rfl rfl rfl ?_
    refine T_pev rfl rfl rfl rfl ?_
    refine T_no rfl rfl rfl rfl rfl rfl ?_
    refine T_no rfl rfl rfl rfl rfl rfl ?_
    refine T_no rfl rfl rfl rfl rfl rfl ?_
    refine T_pev rfl rfl rfl rfl ?_
    refine T_nil ?_
    refine W_cond_true rfl ?_
    refine W_seq ?_
    refine W_region ?_
    refine T_pev rfl rfl rfl rfl ?_
    refine T_nil ?_
    refine W_ret ?_
    refine ⟨_, ⟨_, _, rfl, rfl, rfl⟩, ?_⟩
    exact ⟨by rw [Go.Au.hd_no (by omega)]; rfl, S6.below⟩
  have h10 := of_decide_eq_false h10'
  refine T_yes rfl rfl rfl ?_ rfl
  refine T_fldm 5 rfl rfl rfl rfl rfl rfl (by decide) rfl rfl rfl ?_
  refine T_yes rfl rfl rfl ?_ rfl
  refine T_loadS 0 5 S6 rfl rfl rfl rfl rfl rfl rfl rfl rfl fV_5 ?_
  refine T_yes rfl rfl rfl ?_ rfl
  refine T_pev rfl rfl rfl rfl ?_
  refine T_pev rfl rfl rfl rfl ?_
  refine T_pev rfl rfl rfl rfl ?_
  refine T_part (t := 36) rfl (List.cons_ne_nil _ _) (fun h11' => ?_) (fun h11' => ?_)
  · have h11 := of_decide_eq_true h11'
    refine T_no rfl rfl rfl rfl rfl rfl ?_
    refine T_no rfl rfl rfl rfl rfl rfl ?_
    refine T_no rfl rfl rfl rfl rfl rfl ?_
    refine T_pev rfl rfl rfl rfl ?_
    refine T_nil ?_
    refine W_cond_true rfl ?_
    refine W_seq ?_
    refine W_region ?_
    refine T_pev rfl rfl rfl rfl ?_
    refine T_nil ?_
    refine W_ret ?_
    refine ⟨_, ⟨_, _, rfl, rfl, rfl⟩, ?_⟩
    exact ⟨by rw [Go.Au.hd_no (by omega)]; rfl, S6.below⟩
  have h11 := of_decide_eq_false h11'
  refine T_yes rfl rfl rfl ?_ rfl
  refine T_fldm 5 rfl rfl rfl rfl rfl rfl (by decide) rfl rfl rfl ?_
  refine T_yes rfl rfl rfl ?_ rfl
  refine T_loadS 0 5 S6 rfl rfl rfl rfl rfl rfl rfl rfl rfl fV_5 ?_
  refine T_yes rfl rfl rfl ?_ rfl
  refine T_pev rfl rfl rfl rfl ?_
  refine T_pev rfl rfl rfl rfl ?_
  refine T_nil ?_
  refine W_cond_dec rfl (fun h12 => ?_) (fun h12 => ?_)
  · refine W_seq ?_
    refine W_region ?_
    refine T_pev rfl rfl rfl rfl ?_
    refine T_nil ?_
    refine W_ret ?_
    refine ⟨_, ⟨_, _, rfl, rfl, rfl⟩, ?_⟩
    exact ⟨by rw [Go.Au.hd_no (by omega)]; rfl, S6.below⟩
  refine W_skip ?_
  refine W_seq ?_
  refine W_seq ?_
  refine W_region ?_
  refine T_fldm 2 rfl rfl rfl rfl rfl rfl (by decide) rfl rfl rfl ?_
  refine T_loadS 0 2 S6 rfl rfl rfl rfl rfl rfl rfl rfl rfl fV_2 ?_
  refine T_pev rfl rfl rfl rfl ?_
  refine T_nil ?_
  refine W_cond_false rfl ?_
  refine W_skip ?_
  refine W_seq ?_
  refine W_seq ?_
  obtain ⟨G14, hl15, S13, r16⟩ := S6.stillBlk 0 rfl
  refine W_plan (planF Tryd.prog G14 [48, 56]) rfl (by kernel_rfl) S13.le ?_
  have S17 := S13.drew
  refine T_fldm 6 rfl rfl rfl rfl rfl rfl (by decide) rfl rfl rfl ?_
  refine T_loadGAP _ (fun _ h => h) (still_part r16 fV_val) rfl rfl rfl rfl rfl rfl rfl rfl (hVs hv) ?_
  refine T_loadFS 0 S17 rfl rfl rfl rfl rfl rfl rfl rfl rfl (hVs hs) ?_
  refine T_fldm 3 rfl rfl rfl rfl rfl rfl (by decide) rfl rfl rfl ?_
  refine T_loadG S17 (still_cell r16 fV_3) rfl rfl rfl rfl rfl rfl rfl ?_
  refine T_fldm 4 rfl rfl rfl rfl rfl rfl (by decide) rfl rfl rfl ?_
  refine T_loadG S17 (still_cell r16 fV_4) rfl rfl rfl rfl rfl rfl rfl ?_
  refine T_callS rfl rfl g_aumbry_aumbryref07_Start rfl rfl rfl rfl ((startR_ok S17.le a c hs (by omega) (by omega)).mono ?_)
  rintro e w19 ⟨rfl, hB18⟩
  have S20 := S17.call hB18
  refine ⟨_, rfl, (((Hp.le.refl _)).trans S20.le), ?_⟩
  refine T_fldm 5 rfl rfl rfl rfl rfl rfl (by decide) rfl rfl rfl ?_
  refine T_loadGP (fun _ h => h) (still_cell r16 fV_5) rfl rfl rfl rfl rfl rfl rfl ?_
  refine T_callS rfl rfl g_aumbry_aumbryref07_Along rfl rfl rfl rfl ((alongR_ok S20.le q (Go.Au.start_len _ _ _)).mono ?_)
  rintro e w22 ⟨rfl, hB21⟩
  have S23 := S20.call hB21
  refine ⟨_, rfl, (((Hp.le.refl _)).trans S23.le), ?_⟩
  refine T_neB (xs := v) (ys := Go.Au.steps (max (0 : Int) (min q 15)).toNat (Go.Au.start seed a c)) rfl rfl rfl rfl rfl rfl rfl rfl rfl rfl rfl hv (Go.Au.steps_len _ (Go.Au.start_len _ _ _)) ?_
  refine T_nil ?_
  refine W_cond_not rfl (fun h24 => ?_) (fun h24 => ?_)
  · refine W_seq ?_
    refine W_region ?_
    refine T_pev rfl rfl rfl rfl ?_
    refine T_nil ?_
    refine W_ret ?_
    refine ⟨_, ⟨_, _, rfl, rfl, rfl⟩, ?_⟩
    exact ⟨by rw [Go.Au.hd_v ⟨⟨by omega, by omega⟩, ⟨by omega, by omega⟩, by omega, by omega⟩ h24]; rfl, S23.below⟩
  refine W_skip ?_
  refine W_seq ?_
  have hve : v = Go.Au.steps (max (0 : Int) (min q 15)).toNat (Go.Au.start seed a c) := h24
  have hxb := hLb a.toNat
  refine W_region ?_
  refine T_pev rfl rfl rfl rfl ?_
  refine T_fldm 3 rfl rfl rfl rfl rfl rfl (by decide) rfl rfl rfl ?_
  refine T_loadG S23 (still_cell r16 fV_3) rfl rfl rfl rfl rfl rfl rfl ?_
  refine T_callS rfl rfl g_aumbry_aumbryref07_signedBy rfl rfl rfl rfl ((signedNo_ok S23.le (hL.mono hl15) a (by omega) h0).mono ?_)
  rintro e w26 ⟨rfl, hB25⟩
  have S27 := S23.call hB25
  refine ⟨_, rfl, trivial, ?_⟩
  refine T_pev rfl rfl rfl rfl ?_
  refine T_nil ?_
  refine W_seq ?_
  refine W_plan (planF Tryd.prog G14 [69, 73]) rfl (by kernel_rfl) S27.le ?_
  have S28 := S27.drew
  refine T_pev rfl rfl rfl rfl ?_
  refine T_snil rfl rfl rfl rfl rfl rfl rfl ?_
  refine T_pev rfl rfl rfl rfl ?_
  refine T_bool 65 true rfl rfl ?_
  refine T_no rfl rfl rfl rfl rfl rfl ?_
  refine T_no rfl rfl rfl rfl rfl rfl ?_
  refine T_no rfl rfl rfl rfl rfl rfl ?_
  refine T_no rfl rfl rfl rfl rfl rfl ?_
  refine T_no rfl rfl rfl rfl rfl rfl ?_
  refine T_no rfl rfl rfl rfl rfl rfl ?_
  refine T_no rfl rfl rfl rfl rfl rfl ?_
  refine T_no rfl rfl rfl rfl rfl rfl ?_
  refine T_no rfl rfl rfl rfl rfl rfl ?_
  refine T_pev rfl rfl rfl rfl ?_
  refine T_pev rfl rfl rfl rfl ?_
  refine T_nil ?_
  refine W_ret ?_
  refine ⟨_, ⟨_, _, rfl, rfl, rfl⟩, ?_⟩
  exact ⟨by rw [Go.Au.hd_e ⟨⟨by omega, by omega⟩, ⟨by omega, by omega⟩, by omega, by omega⟩ hve (by omega)]; rfl, S28.below⟩


theorem holdsR_d {H : Hp} {w : World} (hH : H.le (hw w)) {seed : List UInt8} (hs : seed.length = 16) {L : List (List UInt8)} {aa2 : Option Addr} {nn2 cc2 : Nat} (hL : RdL H (.slice aa2 nn2 cc2) L) (h a c q : Int) {v : List UInt8} (hv : v.length = 32) (hm : 0 ≤ h ∧ h ≤ 4) (hLl : ((L.length : Nat) : Int) = ((2 ^ h.toNat : Nat) : Int)) (hLb : ∀ i, (L.getD i []).length < 1000) (hpc : c ≤ 9223372036854775807) (hpa : a ≤ 9223372036854775807) (h0 : ¬ (L.getD a.toNat []).length = 0) :
    Calls Tryd.prog 16 #[hV seed, .int .i64 h, .slice aa2 nn2 cc2, fV true a c q v] w fun e w' => e = .returned (.bool (Go.Au.holds seed h L a c q v)) ∧ Below w.heap.size w w' := by
  obtain rfl : nn2 = L.length := hL.len
  have hp16 := Go.Au.pow16 (h := h) (by omega) (by omega)
  refine enter4 _ Tryd.func16 rfl Tryd.ntmps16 Tryd.results16 rfl ?_
  have S0 := St.start w hH
  refine W_seq ?_
  refine W_region ?_
  refine T_boxS S0 (fun _ _ => trivial) rfl rfl rfl rfl rfl rfl fun b1 w2 S3 => ?_
  refine T_boxS S3 (fun _ _ => trivial) rfl rfl rfl rfl rfl rfl fun b4 w5 S6 => ?_
  refine T_pev rfl rfl rfl rfl ?_
  refine T_nil ?_
  refine W_seq ?_
  refine W_seq ?_
  refine W_region ?_
  refine T_fldm 3 rfl rfl rfl rfl rfl rfl (by decide) rfl rfl rfl ?_
  refine T_loadS 0 3 S6 rfl rfl rfl rfl rfl rfl rfl rfl rfl fV_3 ?_
  refine T_pev rfl rfl rfl rfl ?_
  refine T_pev rfl rfl rfl rfl ?_
  refine T_part (t := 13) rfl (List.cons_ne_nil _ _) (fun h7' => ?_) (fun h7' => ?_)
  · have h7 := of_decide_eq_true h7'
    refine T_no rfl rfl rfl rfl rfl rfl ?_
    refine T_no rfl rfl rfl rfl rfl rfl ?_
    refine T_no rfl rfl rfl rfl rfl rfl ?_
    refine T_no rfl rfl rfl rfl rfl rfl ?_
    refine T_no rfl rfl rfl rfl rfl rfl ?_
    refine T_no rfl rfl rfl rfl rfl rfl ?_
    refine T_pev rfl rfl rfl rfl ?_
    refine T_pev rfl rfl rfl rfl ?_
    refine T_no rfl rfl rfl rfl rfl rfl ?_
    refine T_no rfl rfl rfl rfl rfl rfl ?_
    refine T_no rfl rfl rfl rfl rfl rfl ?_
    refine T_pev rfl rfl rfl rfl ?_
    refine T_pev rfl rfl rfl rfl ?_
    refine T_no rfl rfl rfl rfl rfl rfl ?_
    refine T_no rfl rfl rfl rfl rfl rfl ?_
    refine T_no rfl rfl rfl rfl rfl rfl ?_
    refine T_pev rfl rfl rfl rfl ?_
    refine T_pev rfl rfl rfl rfl ?_
    refine T_no rfl rfl rfl rfl rfl rfl ?_
    refine T_no rfl rfl rfl rfl rfl rfl ?_
    refine T_no rfl rfl rfl rfl rfl rfl ?_
    refine T_pev rfl rfl rfl rfl ?_
    refine T_pev rfl rfl rfl rfl ?_
    refine T_no rfl rfl rfl rfl rfl rfl ?_
    refine T_no rfl rfl rfl rfl rfl rfl ?_
    refine T_no rfl rfl rfl rfl rfl rfl ?_
    refine T_pev rfl rfl rfl rfl ?_
    refine T_nil ?_
    refine W_cond_true rfl ?_
    refine W_seq ?_
    refine W_region ?_
    refine T_pev rfl rfl rfl rfl ?_
    refine T_nil ?_
    refine W_ret ?_
    refine ⟨_, ⟨_, _, rfl, rfl, rfl⟩, ?_⟩
    exact ⟨by rw [Go.Au.hd_no (by omega)]; rfl, S6.below⟩
  have h7 := of_decide_eq_false h7'
  refine T_yes rfl rfl rfl ?_ rfl
  refine T_fldm 3 rfl rfl rfl rfl rfl rfl (by decide) rfl rfl rfl ?_
  refine T_yes rfl rfl rfl ?_ rfl
  refine T_loadS 0 3 S6 rfl rfl rfl rfl rfl rfl rfl rfl rfl fV_3 ?_
  refine T_yes rfl rfl rfl ?_ rfl
  refine T_pev rfl rfl rfl rfl ?_
  refine T_yes rfl rfl rfl ?_ rfl
  refine T_pev rfl rfl rfl rfl ?_
  refine T_re (v' := .int .u64 h) (congrArg (Value.int .u64) (by rw [IntKind.wrap_u64]; omega)) ?_
  refine T_yes rfl rfl rfl ?_ rfl
  refine T_shl rfl rfl rfl rfl rfl rfl (by omega) ?_
  refine T_re (v' := .int .i64 ((2 ^ h.toNat : Nat) : Int)) (congrArg (Value.int .i64) (shlI (by omega) (by omega))) ?_
  refine T_yes rfl rfl rfl ?_ rfl
  refine T_pev rfl rfl rfl rfl ?_
  refine T_pev rfl rfl rfl rfl ?_
  refine T_pev rfl rfl rfl rfl ?_
  refine T_part (t := 21) rfl (List.cons_ne_nil _ _) (fun h8' => ?_) (fun h8' => ?_)
  · have h8 := of_decide_eq_true h8'
    refine T_no rfl rfl rfl rfl rfl rfl ?_
    refine T_no rfl rfl rfl rfl rfl rfl ?_
    refine T_no rfl rfl rfl rfl rfl rfl ?_
    refine T_pev rfl rfl rfl rfl ?_
    refine T_pev rfl rfl rfl rfl ?_
    refine T_no rfl rfl rfl rfl rfl rfl ?_
    refine T_no rfl rfl rfl rfl rfl rfl ?_
    refine T_no rfl rfl rfl rfl rfl rfl ?_
    refine T_pev rfl rfl rfl rfl ?_
    refine T_pev rfl rfl rfl rfl ?_
    refine T_no rfl rfl rfl rfl rfl rfl ?_
    refine T_no rfl rfl rfl rfl rfl rfl ?_
    refine T_no rfl rfl rfl rfl rfl rfl ?_
    refine T_pev rfl rfl rfl rfl ?_
    refine T_pev rfl rfl rfl rfl ?_
    refine T_no rfl rfl rfl rfl rfl rfl ?_
    refine T_no rfl rfl rfl rfl rfl rfl ?_
    refine T_no rfl rfl rfl rfl rfl rfl ?_
    refine T_pev rfl rfl rfl rfl ?_
    refine T_nil ?_
    refine W_cond_true rfl ?_
    refine W_seq ?_
    refine W_region ?_
    refine T_pev rfl rfl rfl rfl ?_
    refine T_nil ?_
    refine W_ret ?_
    refine ⟨_, ⟨_, _, rfl, rfl, rfl⟩, ?_⟩
    exact ⟨by rw [Go.Au.hd_no (by omega)]; rfl, S6.below⟩
  have h8 := of_decide_eq_false h8'
  refine T_yes rfl rfl rfl ?_ rfl
  refine T_fldm 4 rfl rfl rfl rfl rfl rfl (by decide) rfl rfl rfl ?_
  refine T_yes rfl rfl rfl ?_ rfl
  refine T_loadS 0 4 S6 rfl rfl rfl rfl rfl rfl rfl rfl rfl fV_4 ?_
  refine T_yes rfl rfl rfl ?_ rfl
  refine T_pev rfl rfl rfl rfl ?_
  refine T_pev rfl rfl rfl rfl ?_
  refine T_pev rfl rfl rfl rfl ?_
  refine T_part (t := 26) rfl (List.cons_ne_nil _ _) (fun h9' => ?_) (fun h9' => ?_)
  · have h9 := of_decide_eq_true h9'
    refine T_no rfl rfl rfl rfl rfl rfl ?_
    refine T_no rfl rfl rfl rfl rfl rfl ?_
    refine T_no rfl rfl rfl rfl rfl rfl ?_
    refine T_pev rfl rfl rfl rfl ?_
    refine T_pev rfl rfl rfl rfl ?_
    refine T_no rfl rfl rfl rfl rfl rfl ?_
    refine T_no rfl rfl rfl rfl rfl rfl ?_
    refine T_no rfl rfl rfl rfl rfl rfl ?_
    refine T_pev rfl rfl rfl rfl ?_
    refine T_pev rfl rfl rfl rfl ?_
    refine T_no rfl rfl rfl rfl rfl rfl ?_
    refine T_no rfl rfl rfl rfl rfl rfl ?_
    refine T_no rfl rfl rfl rfl rfl rfl ?_
    refine T_pev rfl rfl rfl rfl ?_
    refine T_nil ?_
    refine W_cond_true rfl ?_
    refine W_seq ?_
    refine W_region ?_
    refine T_pev rfl rfl rfl rfl ?_
    refine T_nil ?_
    refine W_ret ?_
    refine ⟨_, ⟨_, _, rfl, rfl, rfl⟩, ?_⟩
    exact ⟨by rw [Go.Au.hd_no (by omega)]; rfl, S6.below⟩
  have h9 := of_decide_eq_false h9'
  refine T_yes rfl rfl rfl ?_ rfl
  refine T_fldm 4 rfl rfl rfl rfl rfl rfl (by decide) rfl rfl rfl ?_
  refine T_yes rfl rfl rfl ?_ rfl
  refine T_loadS 0 4 S6 rfl rfl rfl rfl rfl rfl rfl rfl rfl fV_4 ?_
  refine T_yes rfl rfl rfl ?_ rfl
  refine T_pev rfl rfl rfl rfl ?_
  refine T_pev rfl rfl rfl rfl ?_
  refine T_pev rfl rfl rfl rfl ?_
  refine T_part (t := 31) rfl (List.cons_ne_nil _ _) (fun h10' => ?_) (fun h10' => ?_)
  · have h10 := of_decide_eq_true h10'
    refine T_no rfl rfl rfl rfl rfl rfl ?_
    refine T_no rfl rfl rfl rfl rfl rfl ?_
    refine T_no rfl rfl rfl rfl rfl rfl ?_
    refine T_pev rfl rfl rfl rfl ?_
    refine T_pev rfl rfl rfl rfl ?_
    refine T_no rfl rfl rfl rfl rfl rfl ?_
    refine T_no rfl rfl rfl rfl rfl rfl ?_
    refine T_no rfl rfl rfl rfl rfl rfl ?_
    refine T_pev rfl rfl rfl rfl ?_
    refine T_nil ?_
    refine W_cond_true rfl ?_
    refine W_seq ?_
    refine W_region ?_
    refine T_pev rfl rfl rfl rfl ?_
    refine T_nil ?_
    refine W_ret ?_
    refine ⟨_, ⟨_, _, rfl, rfl, rfl⟩, ?_⟩
    exact ⟨by rw [Go.Au.hd_no (by omega)]; rfl, S6.below⟩
  have h10 := of_decide_eq_false h10'
  refine T_yes rfl rfl rfl ?_ rfl
  refine T_fldm 5 rfl rfl rfl rfl rfl rfl (by decide) rfl rfl rfl ?_
  refine T_yes rfl rfl rfl ?_ rfl
  refine T_loadS 0 5 S6 rfl rfl rfl rfl rfl rfl rfl rfl rfl fV_5 ?_
  refine T_yes rfl rfl rfl ?_ rfl
  refine T_pev rfl rfl rfl rfl ?_
  refine T_pev rfl rfl rfl rfl ?_
  refine T_pev rfl rfl rfl rfl ?_
  refine T_part (t := 36) rfl (List.cons_ne_nil _ _) (fun h11' => ?_) (fun h11' => ?_)
  · have h11 := of_decide_eq_true h11'
    refine T_no rfl rfl rfl rfl rfl rfl ?_
    refine T_no rfl rfl rfl rfl rfl rfl ?_
    refine T_no rfl rfl rfl rfl rfl rfl ?_
    refine T_pev rfl rfl rfl rfl ?_
    refine T_nil ?_
    refine W_cond_true rfl ?_
    refine W_seq ?_
    refine W_region ?_
    refine T_pev rfl rfl rfl rfl ?_
    refine T_nil ?_
    refine W_ret ?_
    refine ⟨_, ⟨_, _, rfl, rfl, rfl⟩, ?_⟩
    exact ⟨by rw [Go.Au.hd_no (by omega)]; rfl, S6.below⟩
  have h11 := of_decide_eq_false h11'
  refine T_yes rfl rfl rfl ?_ rfl
  refine T_fldm 5 rfl rfl rfl rfl rfl rfl (by decide) rfl rfl rfl ?_
  refine T_yes rfl rfl rfl ?_ rfl
  refine T_loadS 0 5 S6 rfl rfl rfl rfl rfl rfl rfl rfl rfl fV_5 ?_
  refine T_yes rfl rfl rfl ?_ rfl
  refine T_pev rfl rfl rfl rfl ?_
  refine T_pev rfl rfl rfl rfl ?_
  refine T_nil ?_
  refine W_cond_dec rfl (fun h12 => ?_) (fun h12 => ?_)
  · refine W_seq ?_
    refine W_region ?_
    refine T_pev rfl rfl rfl rfl ?_
    refine T_nil ?_
    refine W_ret ?_
    refine ⟨_, ⟨_, _, rfl, rfl, rfl⟩, ?_⟩
    exact ⟨by rw [Go.Au.hd_no (by omega)]; rfl, S6.below⟩
  refine W_skip ?_
  refine W_seq ?_
  refine W_seq ?_
  refine W_region ?_
  refine T_fldm 2 rfl rfl rfl rfl rfl rfl (by decide) rfl rfl rfl ?_
  refine T_loadS 0 2 S6 rfl rfl rfl rfl rfl rfl rfl rfl rfl fV_2 ?_
  refine T_pev rfl rfl rfl rfl ?_
  refine T_nil ?_
  refine W_cond_false rfl ?_
  refine W_skip ?_
  refine W_seq ?_
  refine W_seq ?_
  obtain ⟨G14, hl15, S13, r16⟩ := S6.stillBlk 0 rfl
  refine W_plan (planF Tryd.prog G14 [48, 56]) rfl (by kernel_rfl) S13.le ?_
  have S17 := S13.drew
  refine T_fldm 6 rfl rfl rfl rfl rfl rfl (by decide) rfl rfl rfl ?_
  refine T_loadGAP _ (fun _ h => h) (still_part r16 fV_val) rfl rfl rfl rfl rfl rfl rfl rfl (hVs hv) ?_
  refine T_loadFS 0 S17 rfl rfl rfl rfl rfl rfl rfl rfl rfl (hVs hs) ?_
  refine T_fldm 3 rfl rfl rfl rfl rfl rfl (by decide) rfl rfl rfl ?_
  refine T_loadG S17 (still_cell r16 fV_3) rfl rfl rfl rfl rfl rfl rfl ?_
  refine T_fldm 4 rfl rfl rfl rfl rfl rfl (by decide) rfl rfl rfl ?_
  refine T_loadG S17 (still_cell r16 fV_4) rfl rfl rfl rfl rfl rfl rfl ?_
  refine T_callS rfl rfl g_aumbry_aumbryref07_Start rfl rfl rfl rfl ((startR_ok S17.le a c hs (by omega) (by omega)).mono ?_)
  rintro e w19 ⟨rfl, hB18⟩
  have S20 := S17.call hB18
  refine ⟨_, rfl, (((Hp.le.refl _)).trans S20.le), ?_⟩
  refine T_fldm 5 rfl rfl rfl rfl rfl rfl (by decide) rfl rfl rfl ?_
  refine T_loadGP (fun _ h => h) (still_cell r16 fV_5) rfl rfl rfl rfl rfl rfl rfl ?_
  refine T_callS rfl rfl g_aumbry_aumbryref07_Along rfl rfl rfl rfl ((alongR_ok S20.le q (Go.Au.start_len _ _ _)).mono ?_)
  rintro e w22 ⟨rfl, hB21⟩
  have S23 := S20.call hB21
  refine ⟨_, rfl, (((Hp.le.refl _)).trans S23.le), ?_⟩
  refine T_neB (xs := v) (ys := Go.Au.steps (max (0 : Int) (min q 15)).toNat (Go.Au.start seed a c)) rfl rfl rfl rfl rfl rfl rfl rfl rfl rfl rfl hv (Go.Au.steps_len _ (Go.Au.start_len _ _ _)) ?_
  refine T_nil ?_
  refine W_cond_not rfl (fun h24 => ?_) (fun h24 => ?_)
  · refine W_seq ?_
    refine W_region ?_
    refine T_pev rfl rfl rfl rfl ?_
    refine T_nil ?_
    refine W_ret ?_
    refine ⟨_, ⟨_, _, rfl, rfl, rfl⟩, ?_⟩
    exact ⟨by rw [Go.Au.hd_v ⟨⟨by omega, by omega⟩, ⟨by omega, by omega⟩, by omega, by omega⟩ h24]; rfl, S23.below⟩
  refine W_skip ?_
  refine W_seq ?_
  have hve : v = Go.Au.steps (max (0 : Int) (min q 15)).toNat (Go.Au.start seed a c) := h24
  have hxb := hLb a.toNat
  refine W_region ?_
  refine T_pev rfl rfl rfl rfl ?_
  refine T_fldm 3 rfl rfl rfl rfl rfl rfl (by decide) rfl rfl rfl ?_
  refine T_loadG S23 (still_cell r16 fV_3) rfl rfl rfl rfl rfl rfl rfl ?_
  refine T_callS rfl rfl g_aumbry_aumbryref07_signedBy rfl rfl rfl rfl ((signed_ok S23.le (hL.mono hl15) a (by omega) h0).mono ?_)
  rintro e w30 ⟨a25, c26, hc27, rfl, hr28, hB29⟩
  have S31 := S23.call hB29
  refine ⟨_, rfl, trivial, ?_⟩
  have hnn := isNone_no hr28 (by omega)
  refine T_pev rfl rfl rfl rfl ?_
  refine T_nil ?_
  refine W_seq ?_
  refine W_plan (planF Tryd.prog G14 [69, 73]) rfl (by kernel_rfl) S31.le ?_
  have S32 := S31.drew
  refine T_pev rfl rfl rfl rfl ?_
  refine T_snil rfl rfl rfl rfl rfl rfl rfl ?_
  refine T_pev rfl rfl rfl rfl ?_
  refine T_bool 65 false rfl hnn ?_
  refine T_yes rfl rfl rfl ?_ rfl
  refine T_pev rfl rfl rfl rfl ?_
  refine T_yes rfl rfl rfl ?_ rfl
  refine T_callS rfl rfl g_aumbry_aumbryref07_Digits rfl rfl rfl rfl ((digitsR_w_ok S32.le hr28 (by omega)).mono ?_)
  rintro e w38 ⟨a33, c34, hc35, rfl, ho36, hB37⟩
  have S39 := S32.own hB37 ho36
  refine ⟨_, rfl, (((Hp.le.refl _)).trans S39.le), ?_⟩
  refine T_yes rfl rfl rfl ?_ rfl
  refine T_fldm 4 rfl rfl rfl rfl rfl rfl (by decide) rfl rfl rfl ?_
  refine T_yes rfl rfl rfl ?_ rfl
  refine T_loadGP (fun _ h => h) (still_cell r16 fV_4) rfl rfl rfl rfl rfl rfl rfl ?_
  refine T_yes rfl rfl rfl ?_ rfl
  have hdl := Go.Au.digits_len (L.getD a.toNat [])
  obtain ⟨G41, hl42, S40, r43⟩ := S39.stillRow 0 rfl
  refine T_idxR c.toNat r43 rfl rfl rfl rfl rfl rfl rfl rfl rfl (by omega) (by omega) fun b44 o45 hc46 => ?_
  have hc47 := hc46 0 (.int .i64 ((Go.Au.digits (L.getD a.toNat [])).getD c.toNat 0)) (at_i (Go.Au.digits (L.getD a.toNat [])) c.toNat (by omega))
  simp only [Nat.add_zero] at hc47
  refine T_yes rfl rfl rfl ?_ rfl
  refine T_loadG S40 hc47 rfl rfl rfl rfl rfl rfl rfl ?_
  refine T_yes rfl rfl rfl ?_ rfl
  refine T_fldm 5 rfl rfl rfl rfl rfl rfl (by decide) rfl rfl rfl ?_
  refine T_yes rfl rfl rfl ?_ rfl
  refine T_loadGP (fun _ h => h) (still_cell r16 fV_5) rfl rfl rfl rfl rfl rfl rfl ?_
  refine T_yes rfl rfl rfl ?_ rfl
  refine T_pev rfl rfl rfl rfl ?_
  refine T_pev rfl rfl rfl rfl ?_
  refine T_pev rfl rfl rfl rfl ?_
  refine T_nil ?_
  refine W_ret ?_
  refine ⟨_, ⟨_, _, rfl, rfl, rfl⟩, ?_⟩
  exact ⟨by rw [Go.Au.hd_d ⟨⟨by omega, by omega⟩, ⟨by omega, by omega⟩, by omega, by omega⟩ hve (by omega)]; rfl, S40.below⟩


theorem holdsR_ok {H : Hp} {w : World} (hH : H.le (hw w)) {seed : List UInt8} (hs : seed.length = 16) {L : List (List UInt8)} {aa2 : Option Addr} {nn2 cc2 : Nat} (hL : RdL H (.slice aa2 nn2 cc2) L) (h a c q : Int) {v : List UInt8} (hv : v.length = 32) (hm : 0 ≤ h ∧ h ≤ 4) (hLl : ((L.length : Nat) : Int) = ((2 ^ h.toNat : Nat) : Int)) (hLb : ∀ i, (L.getD i []).length < 1000) (hpc : c ≤ 9223372036854775807) (hpa : a ≤ 9223372036854775807) :
    Calls Tryd.prog 16 #[hV seed, .int .i64 h, .slice aa2 nn2 cc2, fV true a c q v] w fun e w' => e = .returned (.bool (Go.Au.holds seed h L a c q v)) ∧ Below w.heap.size w w' := by
  by_cases h0 : (L.getD a.toNat []).length = 0
  · exact holdsR_e hH hs hL h a c q hv hm hLl hLb hpc hpa h0
  · exact holdsR_d hH hs hL h a c q hv hm hLl hLb hpc hpa h0
end Go.Proofs.YtbkdncmjfhbafaaDoor
