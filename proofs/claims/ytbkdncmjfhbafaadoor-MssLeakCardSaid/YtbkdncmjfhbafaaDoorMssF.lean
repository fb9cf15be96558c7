/- What was signed is not explained. -/
import Derived.Test.YtbkdncmjfhbafaaDoorMssE
import Derived.Test.YtbkdncmjfhbafaaDoorTreeE
import Derived.Test.YtbkdncmjfhbafaaDoorAuMss5
import Derived.Test.YtbkdncmjfhbafaaDoorFForge
set_option linter.unusedVariables false
set_option linter.unusedSimpArgs false
set_option maxRecDepth 8192
namespace Go.Proofs.YtbkdncmjfhbafaaDoor
open Go Go.F Go.RowKit

theorem told_ok {H : Hp} {w : World} (hH : H.le (hw w)) {L : List (List UInt8)} {aa0 : Option Addr} {nn0 cc0 : Nat} (hv : RdL H (.slice aa0 nn0 cc0) L) (i : Int) (hi : 0 ≤ i ∧ i < L.length) :
    Calls Tryd.prog 46 #[.slice aa0 nn0 cc0, .int .i64 i] w fun e w' => ∃ a c, (L.getD i.toNat []).length ≤ c ∧ e = .returned (.slice a (L.getD i.toNat []).length c) ∧ Rd H (.slice a (L.getD i.toNat []).length c) (L.getD i.toNat []).length 1 ((L.getD i.toNat []).map bV) ∧ Below w.heap.size w w' := by
  obtain rfl : nn0 = L.length := hv.len
  refine enter2 _ Tryd.func46 rfl Tryd.ntmps46 Tryd.results46 rfl ?_
  have S0 := St.start w hH
  refine W_seq ?_
  refine W_region ?_
  refine T_pev rfl rfl rfl rfl ?_
  refine T_nil ?_
  refine W_seq ?_
  refine W_seq ?_
  refine W_region ?_
  refine T_pev rfl rfl rfl rfl ?_
  refine T_pev rfl rfl rfl rfl ?_
  refine T_pev rfl rfl rfl rfl ?_
  refine T_bool 7 false rfl (decide_eq_false (by omega)) ?_
  refine T_yes rfl rfl rfl ?_ rfl
  refine T_pev rfl rfl rfl rfl ?_
  refine T_yes rfl rfl rfl ?_ rfl
  refine T_pev rfl rfl rfl rfl ?_
  refine T_yes rfl rfl rfl ?_ rfl
  refine T_pev rfl rfl rfl rfl ?_
  refine T_yes rfl rfl rfl ?_ rfl
  refine T_pev rfl rfl rfl rfl ?_
  refine T_pev rfl rfl rfl rfl ?_
  refine T_nil ?_
  refine W_bool 12 false rfl (decide_eq_false (by omega)) ?_
  refine W_cond_false rfl ?_
  refine W_skip ?_
  refine W_seq ?_
  refine W_region ?_
  refine T_pev rfl rfl rfl rfl ?_
  refine T_pev rfl rfl rfl rfl ?_
  obtain ⟨hs4, r5, r6⟩ := (id hv)
  refine T_idxR i.toNat r5 rfl rfl rfl rfl rfl rfl rfl rfl rfl (by omega) (by omega) fun b1 o2 hc3 => ?_
  obtain ⟨a9, c10, hc12, hv8, r11⟩ := r6.at i.toNat (by omega)
  have hc13 := hc3 0 (.slice a9 (L.getD i.toNat []).length c10) (by simpa using hv8)
  simp only [Nat.add_zero] at hc13
  refine T_loadG S0 hc13 rfl rfl rfl rfl rfl rfl rfl ?_
  refine T_pev rfl rfl rfl rfl ?_
  refine T_nil ?_
  refine W_ret ?_
  refine ⟨_, ⟨_, _, rfl, rfl, rfl⟩, ?_⟩
  exact ⟨_, _, hc12, rfl, r11, S0.below⟩


theorem explainNo_ok {H : Hp} {w : World} (hH : H.le (hw w)) (hT : Tabs H) (h : Int) {seed : List UInt8} (hs : seed.length = 16) {L : List (List UInt8)} {aa2 : Option Addr} {nn2 cc2 : Nat} (hL : RdL H (.slice aa2 nn2 cc2) L) {m : List UInt8} {aa3 : Option Addr} {nn3 cc3 : Nat} (hv : Rd H (.slice aa3 nn3 cc3) nn3 1 (m.map bV)) (sh sl : Int) {v p : List (List UInt8)} {a1 a2 : Option Addr} {n1 n2 c1 c2 : Nat} (h1 : RdH H (.slice a1 n1 c1) 32 v) (h2 : RdH H (.slice a2 n2 c2) 32 p) (hm : 0 ≤ h ∧ h ≤ 4) (hml : m.length < 1000) (hm0 : 0 < m.length) (hin : 0 ≤ sl ∧ sl < L.length) (hat : L.getD sl.toNat [] = m) (hvr : Go.Au.vrf (Go.Au.mprint seed h) m sh sl v p = true) :
    Calls Tryd.prog 39 #[hV seed, .int .i64 h, .slice aa2 nn2 cc2, .slice aa3 nn3 cc3, .agg #[.int .i64 sh, .int .i64 sl, .slice a1 n1 c1, .slice a2 n2 c2]] w fun e w' => e = .returned (.tuple #[fz, .bool false]) ∧ Below w.heap.size w w' := by
  obtain rfl : nn2 = L.length := hL.len
  obtain rfl : nn3 = m.length := hv.lenB
  have hvcap : m.length ≤ cc3 := hv.capOf
  obtain rfl : n1 = v.length := h1.len
  obtain rfl : n2 = p.length := h2.len
  refine enter5 _ Tryd.func39 rfl Tryd.ntmps39 Tryd.results39 rfl ?_
  have S0 := St.start w hH
  refine W_seq ?_
  refine W_region ?_
  refine T_boxS S0 (fun _ _ => trivial) rfl rfl rfl rfl rfl rfl fun b1 w2 S3 => ?_
  refine T_boxS S3 (fun _ _ => trivial) rfl rfl rfl rfl rfl rfl fun b4 w5 S6 => ?_
  refine T_allocS S6 (fun _ _ => trivial) rfl rfl rfl rfl rfl rfl rfl fun b7 w8 S9 => ?_
  refine T_pev rfl rfl rfl rfl ?_
  refine T_nil ?_
  refine W_seq ?_
  refine W_region ?_
  refine T_loadFS 2 S9 rfl rfl rfl rfl rfl rfl rfl rfl rfl (hVs hs) ?_
  refine T_pev rfl rfl rfl rfl ?_
  refine T_callS rfl rfl g_aumbry_mss_Print rfl rfl rfl rfl ((print_ok S9.le hT h hs (by omega)).mono ?_)
  rintro e w11 ⟨rfl, hB10⟩
  have S12 := S9.call hB10
  refine ⟨_, rfl, trivial, ?_⟩
  refine T_pev rfl rfl rfl rfl ?_
  refine T_pev rfl rfl rfl rfl ?_
  refine T_pev rfl rfl rfl rfl ?_
  refine T_allocS S12 (fun _ _ => trivial) rfl rfl rfl rfl rfl rfl rfl fun b13 w14 S15 => ?_
  refine T_storeFS 0 S15 (fun _ _ => trivial) rfl rfl rfl rfl rfl rfl rfl rfl rfl (hVs (Go.Au.mprint_len _ _)) (hVs (Go.Au.mprint_len _ _)) (one_hA _) fun w16 S17 => ?_
  refine T_pev rfl rfl rfl rfl ?_
  refine T_nil ?_
  refine W_seq ?_
  refine W_region ?_
  refine T_pev rfl rfl rfl rfl ?_
  refine T_fldm 1 rfl rfl rfl rfl rfl rfl (by decide) rfl rfl rfl ?_
  refine T_loadS 2 1 S17 rfl rfl rfl rfl rfl rfl rfl rfl rfl rfl ?_
  refine T_callS rfl rfl g_aumbry_mss_told rfl rfl rfl rfl ((told_ok S17.le hL sl (by omega)).mono ?_)
  rintro e w23 ⟨a18, c19, hc20, rfl, hr21, hB22⟩
  have S24 := S17.call hB22
  refine ⟨_, rfl, trivial, ?_⟩
  refine T_pev rfl rfl rfl rfl ?_
  refine T_nil ?_
  refine W_seq ?_
  refine W_seq ?_
  refine W_region ?_
  refine T_pev rfl rfl rfl rfl ?_
  refine T_pev rfl rfl rfl rfl ?_
  refine T_pev rfl rfl rfl rfl ?_
  refine T_bool 45 false rfl (ndec_f rfl) ?_
  refine T_yes rfl rfl rfl ?_ rfl
  refine T_loadFS 0 S24 rfl rfl rfl rfl rfl rfl rfl rfl rfl (hVs (Go.Au.mprint_len _ _)) ?_
  refine T_yes rfl rfl rfl ?_ rfl
  refine T_pev rfl rfl rfl rfl ?_
  refine T_yes rfl rfl rfl ?_ rfl
  refine T_loadFS 2 S24 rfl rfl rfl rfl rfl rfl rfl rfl rfl (by first | rfl | simp [hVs, *]) ?_
  refine T_yes rfl rfl rfl ?_ rfl
  refine T_callS rfl rfl g_aumbry_mss_Verify rfl rfl rfl rfl ((verify_ok S24.le hT (Go.Au.mprint_len _ _) sh sl h1 h2 hv (by omega)).mono ?_)
  rintro e w26 ⟨rfl, hB25⟩
  have S27 := S24.call hB25
  refine ⟨_, rfl, trivial, ?_⟩
  refine T_yes rfl rfl rfl ?_ rfl
  refine T_pev rfl rfl rfl rfl ?_
  refine T_pev rfl rfl rfl rfl ?_
  refine T_pev rfl rfl rfl rfl ?_
  refine T_bool 52 false rfl (by rw [hvr]; rfl) ?_
  refine T_yes rfl rfl rfl ?_ rfl
  refine T_pev rfl rfl rfl rfl ?_
  refine T_yes rfl rfl rfl ?_ rfl
  refine T_pev rfl rfl rfl rfl ?_
  refine T_yes rfl rfl rfl ?_ rfl
  refine T_pev rfl rfl rfl rfl ?_
  refine T_yes rfl rfl rfl ?_ rfl
  refine T_pev rfl rfl rfl rfl ?_
  refine T_bool 56 true rfl (decide_eq_true (by rw [hat]; omega)) ?_
  refine T_yes rfl rfl rfl ?_ rfl
  refine T_pev rfl rfl rfl rfl ?_
  refine T_yes rfl rfl rfl ?_ rfl
  refine T_pev rfl rfl rfl rfl ?_
  refine T_yes rfl rfl rfl ?_ rfl
  refine T_callS rfl rfl g_bytes_Equal rfl rfl rfl rfl ((beq_ok S27.le hr21 hv).mono ?_)
  rintro e w29 ⟨rfl, hB28⟩
  have S30 := S27.call hB28
  refine ⟨_, rfl, trivial, ?_⟩
  refine T_yes rfl rfl rfl ?_ rfl
  refine T_pev rfl rfl rfl rfl ?_
  refine T_pev rfl rfl rfl rfl ?_
  refine T_nil ?_
  refine W_bool 61 true rfl (decide_eq_true hat) ?_
  refine W_cond_true rfl ?_
  refine W_seq ?_
  refine W_region ?_
  refine T_buildS (cells := (fz : Value).cells) rfl rfl rfl rfl rfl rfl (congrArg some fz_lit.symm) rfl rfl rfl ?_
  refine T_storeFS 1 S30 (fun _ _ => trivial) rfl rfl rfl rfl rfl rfl rfl rfl rfl (fV_size List.length_replicate) (fV_size List.length_replicate) (fV_one) fun w31 S32 => ?_
  refine T_pev rfl rfl rfl rfl ?_
  refine T_nil ?_
  refine W_ret ?_
  refine ⟨_, ⟨_, _, _, rfl, rfl, run_loadVarA rfl rfl (fV_size List.length_replicate) (S32.cells 1 rfl), ⟨_, _, rfl, rfl, rfl⟩⟩, ?_⟩
  exact ⟨rfl, S32.below⟩

end Go.Proofs.YtbkdncmjfhbafaaDoor
