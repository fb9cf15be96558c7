/- The statements of chapter 8, walked: the second part. -/
import Derived.Test.YthfdnnjlnipikaaDoorLaw08
set_option linter.unusedVariables false
set_option linter.unusedSimpArgs false
namespace Go.Proofs.YthfdnnjlnipikaaDoor
open Go Go.F Go.RowKit

end Go.Proofs.YthfdnnjlnipikaaDoor
namespace Go.Au
/-- The rows that the statement lays behind the given ones. -/
def fill (l : List (List UInt8)) : Nat → List (List UInt8)
  | 0 => l
  | k + 1 => fill l k ++ [UInt8.ofNat (fill l k).length :: List.replicate 31 0]
/-- Some number stands below its like. -/
def someLt (l r : List Int) : Nat → Bool
  | 0 => false
  | k + 1 => someLt l r k || decide (l.getD k 0 < r.getD k 0)
end Go.Au
namespace Go.Proofs.YthfdnnjlnipikaaDoor
open Go Go.F Go.RowKit
theorem fill_len (l : List (List UInt8)) : ∀ k, (Go.Au.fill l k).length = l.length + k
  | 0 => rfl
  | k + 1 => by simp only [Go.Au.fill, List.length_append, fill_len l k, List.length_cons, List.length_nil]; omega
theorem fill_all {l : List (List UInt8)} (h : ∀ b ∈ l, b.length = 32) : ∀ k, ∀ b ∈ Go.Au.fill l k, b.length = 32
  | 0 => h
  | k + 1 => by
    intro b hb
    simp only [Go.Au.fill, List.mem_append, List.mem_singleton] at hb
    rcases hb with hb | rfl
    · exact fill_all h k b hb
    · simp
theorem ends_of_digits {a b : List UInt8} (h : Go.Au.digits a = Go.Au.digits b) {v : List (List UInt8)} {k : Nat} : Go.Au.ends a v k = Go.Au.ends b v k := by simp only [Go.Au.ends, h]
theorem someLt_no {l r : List Int} : ∀ {k : Nat}, Go.Au.someLt l r k = false → ∀ i, i < k → r.getD i 0 ≤ l.getD i 0
  | 0, _, i, hi => by omega
  | k + 1, h, i, hi => by
    simp only [Go.Au.someLt, Bool.or_eq_false_iff, decide_eq_false_iff_not] at h
    rcases Nat.lt_or_ge i k with h1 | h1
    · exact someLt_no h.1 i h1
    · obtain rfl : i = k := by omega
      omega
theorem someLt_of {a b : List UInt8} {k : Nat} (hk : k = 67) (h : ¬ Go.Au.digits a = Go.Au.digits b) : Go.Au.someLt (Go.Au.digits a) (Go.Au.digits b) k = true := by
  subst hk
  cases e : Go.Au.someLt (Go.Au.digits a) (Go.Au.digits b) 67 with
  | true => rfl
  | false => exact absurd (Go.Au.digits_le b a (someLt_no e)).symm h

theorem wotsRecovers_t {H : Hp} {w : World} (hH : H.le (hw w)) (hT : Tabs H) {m : List UInt8} {aa0 : Option Addr} {nn0 cc0 : Nat} (hv : Rd H (.slice aa0 nn0 cc0) nn0 1 (m.map bV)) {v : List (List UInt8)} {aa1 : Option Addr} {nn1 cc1 : Nat} (hx : RdH H (.slice aa1 nn1 cc1) 32 v) :
    Calls Tryd.prog 8 #[.slice aa0 nn0 cc0, .slice aa1 nn1 cc1, .bool true] w fun e w' => e = .returned (.bool true) ∧ Below w.heap.size w w' := by
  obtain rfl : nn0 = m.length := hv.lenB
  have hvcap : m.length ≤ cc0 := hv.capOf
  obtain rfl : nn1 = v.length := hx.len
  have hxcap : v.length ≤ cc1 := hx.2.capOf
  have hm60 : (m.take 60).length < 1000 := by rw [List.length_take]; omega
  have hv70 : (v.take 70).length ≤ 70 := by rw [List.length_take]; omega
  have hfl := fill_len (v.take 70)
  refine enter3 _ Tryd.func8 rfl Tryd.ntmps8 Tryd.results8 rfl ?_
  have S0 := St.start w hH
  refine W_seq ?_
  refine W_region ?_
  refine T_pev rfl rfl rfl rfl ?_
  refine T_nil ?_
  refine W_seq ?_
  refine W_region ?_
  refine T_pev rfl rfl rfl rfl ?_
  refine T_callS rfl rfl g_aumbry_aumbrykeep_Cut_byte rfl rfl rfl rfl ((cutB_ok S0.le hv 60).mono ?_)
  rintro e w6 ⟨a1, c2, hc3, rfl, hr4, hB5⟩
  have S7 := S0.call hB5
  refine ⟨_, rfl, trivial, ?_⟩
  refine T_pev rfl rfl rfl rfl ?_
  refine T_nil ?_
  refine W_seq ?_
  refine W_region ?_
  refine T_pev rfl rfl rfl rfl ?_
  refine T_callS rfl rfl g_aumbry_aumbrykeep_Cut_aumbry_api_Hash rfl rfl rfl rfl ((cutH_ok S7.le hx 70).mono ?_)
  rintro e w13 ⟨a8, c9, hc10, rfl, hr11, hB12⟩
  have S14 := S7.call hB12
  refine ⟨_, rfl, trivial, ?_⟩
  refine T_callS rfl rfl g_aumbry_aumbrykeep_Copy_aumbry_api_Hash rfl rfl rfl rfl ((copyH_ok S14.le hr11 (by omega)).mono ?_)
  rintro e w20 ⟨a15, c16, hc17, rfl, ho18, hB19⟩
  have S21 := S14.own hB19 ho18
  refine ⟨_, rfl, trivial, ?_⟩
  refine T_pev rfl rfl rfl rfl ?_
  refine T_nil ?_
  refine W_seq ?_
  refine W_block ?_
  refine W_loop (fun M ρ w' => ∃ (k : Nat) (a24 : Option Addr) (c25 : Nat) (G22 : Hp), M = 67 - ((v.take 70).length + k) ∧ (v.take 70).length + k ≤ 70 ∧ ρ = [(0, .slice a1 (m.take 60).length c2), (2, .bool true), (7, .slice a24 ((v.take 70).length + k) c25)] ∧ H.le G22 ∧ St w H G22 [.row 30 32 (.slice a24 ((v.take 70).length + k) c25) ((v.take 70).length + k) (hcells (Go.Au.fill (v.take 70) k))] w' ∧ (∀ h ∈ Go.Au.fill (v.take 70) k, h.length = 32) ∧ ((v.take 70).length + k) ≤ c25)
    (67 - ((v.take 70).length + 0)) [(0, .slice a1 (m.take 60).length c2), (2, .bool true), (7, .slice a15 ((v.take 70).length) c16)] ⟨rfl, rfl, rfl, trivial⟩ ⟨0, a15, c16, H, rfl, (by omega), rfl, Hp.le.refl _, S21, hr11.1, hc17⟩ ?_
  rintro M ρ w28 ⟨k, a24, c25, G22, rfl, hp30, rfl, hl23, S29, hh27, hc26⟩
  refine W_seq ?_
  refine W_seq ?_
  refine W_region ?_
  refine T_pev rfl rfl rfl rfl ?_
  refine T_pev rfl rfl rfl rfl ?_
  refine T_yes rfl rfl rfl ?_ rfl
  refine T_pev rfl rfl rfl rfl ?_
  refine T_yes rfl rfl rfl ?_ rfl
  refine T_pev rfl rfl rfl rfl ?_
  refine T_yes rfl rfl rfl ?_ rfl
  refine T_pev rfl rfl rfl rfl ?_
  refine T_pev rfl rfl rfl rfl ?_
  refine T_nil ?_
  refine W_cond_dec rfl (fun h31 => ?_) (fun h31 => ?_)
  · refine W_skip ?_
    refine W_block ?_
    refine W_region ?_
    refine T_pev rfl rfl rfl rfl ?_
    refine T_pev rfl rfl rfl rfl ?_
    refine T_pev rfl rfl rfl rfl ?_
    refine T_i2b ((v.take 70).length + k) (by omega) rfl rfl rfl rfl rfl rfl rfl ?_
    refine T_buildA (cells := (hV (UInt8.ofNat ((v.take 70).length + k) :: (List.replicate 31 0))).cells) rfl rfl rfl rfl rfl rfl rfl rfl rfl rfl ?_
    refine T_litS (hcells [(UInt8.ofNat ((v.take 70).length + k) :: (List.replicate 31 0))]) rfl rfl rfl rfl rfl rfl rfl rfl rfl rfl rfl rfl rfl (one_h (by first | (simp; done) | (simp; rfl))) (by simp [hcells, hV, Value.cells]) fun a32 w33 hB34 ho35 => ?_
    have S36 := S29.own hB34 ho35
    refine ⟨trivial, ?_⟩
    have hD37 : (Go.Au.fill (v.take 70) k ++ [(UInt8.ofNat ((v.take 70).length + k) :: (List.replicate 31 0))]) = Go.Au.fill (v.take 70) (k + 1) := (by simp only [Go.Au.fill, fill_len])
    refine T_appendS 1 ((v.take 70).length + (k + 1)) (hcells (Go.Au.fill (v.take 70) (k + 1))) S36 (fun _ _ => trivial) rfl rfl rfl rfl rfl rfl rfl rfl rfl rfl rfl rfl rfl rfl (S36.rd 0 rfl) (one_hcells _) (by first | rfl | (simp; done) | (simp; omega) | omega) (by rw [← hD37]; simp [hcells_append, hcells]) (by unfold maxLen; omega) (by show _ * 32 ≤ _; omega) fun a38 c39 w40 hc41 S42 => ?_
    have hh43 : ∀ y ∈ Go.Au.fill (v.take 70) (k + 1), y.length = 32 := by rw [← hD37]; exact (all_app hh27 (all_h1 (by first | (simp; done) | (simp; rfl))))
    refine T_pev rfl rfl rfl rfl ?_
    refine T_nil ?_
    have S44 := S42.drop 0
    exact ⟨67 - ((v.take 70).length + (k + 1)), [(0, .slice a1 (m.take 60).length c2), (2, .bool true), (7, .slice a38 ((v.take 70).length + (k + 1)) c39)], by omega, ⟨rfl, rfl, rfl, trivial⟩, k + 1, a38, c39, G22, rfl, (by omega), rfl, hl23, S44, hh43, hc41⟩
  refine W_exit ?_
  refine W_seq ?_
  refine W_seq ?_
  refine W_region ?_
  refine T_pev rfl rfl rfl rfl ?_
  refine T_nil ?_
  refine W_cond_true rfl ?_
  refine W_region ?_
  refine T_pev rfl rfl rfl rfl ?_
  have hfk := hfl k
  obtain ⟨G46, hl47, S45, r48⟩ := S29.stillRow 0 rfl
  have r49 := RdH.mk hh27 (by decide) r48
  refine T_sliceR 0 67 r49.2 rfl rfl rfl rfl rfl rfl rfl rfl rfl rfl (bound_of (by omega)) rfl (by omega) (by omega) fun a50 c51 hc52 r53 => ?_
  have r54 := RdH.cut (lo := 0) r49.1 (by simp only [List.length_take, List.length_drop]; omega) r53
  have r55 : RdH G46 (.slice a50 (67 - 0) c51) 32 ((Go.Au.fill (v.take 70) k).take 67) := r54
  refine T_pev rfl rfl rfl rfl ?_
  refine T_nil ?_
  refine W_seq ?_
  refine W_region ?_
  have h67 : ((Go.Au.fill (v.take 70) k).take 67).length = 67 := by rw [List.length_take]; omega
  refine T_pev rfl rfl rfl rfl ?_
  refine T_pev rfl rfl rfl rfl ?_
  refine T_callS rfl rfl g_aumbry_wots_Recover rfl rfl rfl rfl ((recover_ok S45.le (hT.mono (hl23.trans hl47)) (hr4.mono (hl23.trans hl47)) r55 (by omega) (by rw [List.length_take, fill_len]; omega)).mono ?_)
  rintro e w57 ⟨rfl, hB56⟩
  have S58 := S45.call hB56
  refine ⟨_, rfl, trivial, ?_⟩
  refine T_pev rfl rfl rfl rfl ?_
  refine T_pev rfl rfl rfl rfl ?_
  refine T_pev rfl rfl rfl rfl ?_
  refine T_allocS S58 (fun _ _ => trivial) rfl rfl rfl rfl rfl rfl rfl fun b59 w60 S61 => ?_
  refine T_storeFS 0 S61 (fun _ _ => trivial) rfl rfl rfl rfl rfl rfl rfl rfl rfl (hVs (Go.Au.pubH_len _)) (hVs (Go.Au.pubH_len _)) (one_hA _) fun w62 S63 => ?_
  refine T_pev rfl rfl rfl rfl ?_
  refine T_nil ?_
  refine W_seq ?_
  refine W_region ?_
  refine T_pev rfl rfl rfl rfl ?_
  refine T_pev rfl rfl rfl rfl ?_
  refine T_callS rfl rfl g_aumbry_aumbryref07_Recover rfl rfl rfl rfl ((recoverR_ok S63.le (hr4.mono (hl23.trans hl47)) r55 (by omega) (by rw [List.length_take, fill_len]; omega)).mono ?_)
  rintro e w65 ⟨rfl, hB64⟩
  have S66 := S63.call hB64
  refine ⟨_, rfl, trivial, ?_⟩
  refine T_pev rfl rfl rfl rfl ?_
  refine T_pev rfl rfl rfl rfl ?_
  refine T_pev rfl rfl rfl rfl ?_
  refine T_allocS S66 (fun _ _ => trivial) rfl rfl rfl rfl rfl rfl rfl fun b67 w68 S69 => ?_
  refine T_storeFS 0 S69 (fun _ _ => trivial) rfl rfl rfl rfl rfl rfl rfl rfl rfl (hVs (Go.Au.pubH_len _)) (hVs (Go.Au.pubH_len _)) (one_hA _) fun w70 S71 => ?_
  refine T_pev rfl rfl rfl rfl ?_
  refine T_nil ?_
  refine W_seq ?_
  refine W_region ?_
  refine T_pev rfl rfl rfl rfl ?_
  refine T_pev rfl rfl rfl rfl ?_
  refine T_callS rfl rfl g_aumbry_wots_Ends rfl rfl rfl rfl ((ends_ok S71.le (hT.mono (hl23.trans hl47)) (hr4.mono (hl23.trans hl47)) r55 (by omega) (by rw [List.length_take, fill_len]; omega)).mono ?_)
  rintro e w77 ⟨a72, c73, hc74, rfl, ho75, hB76⟩
  have S78 := S71.own hB76 ho75
  refine ⟨_, rfl, trivial, ?_⟩
  refine T_pev rfl rfl rfl rfl ?_
  refine T_pev rfl rfl rfl rfl ?_
  refine T_pev rfl rfl rfl rfl ?_
  refine T_pev rfl rfl rfl rfl ?_
  refine T_pev rfl rfl rfl rfl ?_
  refine T_nil ?_
  refine W_seq ?_
  refine W_region ?_
  refine T_pev rfl rfl rfl rfl ?_
  refine T_pev rfl rfl rfl rfl ?_
  refine T_callS rfl rfl g_aumbry_aumbryref07_Ends rfl rfl rfl rfl ((endsVR_ok S78.le (hr4.mono (hl23.trans hl47)) r55 (by omega) (by rw [List.length_take, fill_len]; omega)).mono ?_)
  rintro e w84 ⟨a79, c80, hc81, rfl, ho82, hB83⟩
  have S85 := S78.own hB83 ho82
  refine ⟨_, rfl, trivial, ?_⟩
  refine T_pev rfl rfl rfl rfl ?_
  refine T_pev rfl rfl rfl rfl ?_
  refine T_pev rfl rfl rfl rfl ?_
  refine T_pev rfl rfl rfl rfl ?_
  refine T_pev rfl rfl rfl rfl ?_
  refine T_nil ?_
  refine W_seq ?_
  refine W_region ?_
  refine T_pev rfl rfl rfl rfl ?_
  refine T_pev rfl rfl rfl rfl ?_
  refine T_beq rfl rfl rfl rfl rfl rfl rfl ?_
  refine T_pev rfl rfl rfl rfl ?_
  refine T_bool 64 true rfl (decide_eq_true (by first | rfl | omega)) ?_
  refine T_yes rfl rfl rfl ?_ rfl
  refine T_loadFS 3 S85 rfl rfl rfl rfl rfl rfl rfl rfl rfl (hVs (Go.Au.pubH_len _)) ?_
  refine T_yes rfl rfl rfl ?_ rfl
  refine T_loadFS 2 S85 rfl rfl rfl rfl rfl rfl rfl rfl rfl (hVs (Go.Au.pubH_len _)) ?_
  refine T_yes rfl rfl rfl ?_ rfl
  refine T_eqB (xs := (Go.Au.pubH (Go.Au.ends (m.take 60) ((Go.Au.fill (v.take 70) k).take 67) 67))) (ys := (Go.Au.pubH (Go.Au.ends (m.take 60) ((Go.Au.fill (v.take 70) k).take 67) 67))) rfl rfl rfl rfl rfl rfl rfl rfl rfl rfl rfl (Go.Au.pubH_len _) (Go.Au.pubH_len _) ?_
  refine T_pev rfl rfl rfl rfl ?_
  refine T_pev rfl rfl rfl rfl ?_
  refine T_bool 69 true rfl (decide_eq_true (by first | rfl | omega)) ?_
  refine T_yes rfl rfl rfl ?_ rfl
  refine T_pev rfl rfl rfl rfl ?_
  refine T_yes rfl rfl rfl ?_ rfl
  refine T_pev rfl rfl rfl rfl ?_
  refine T_yes rfl rfl rfl ?_ rfl
  refine T_beq rfl rfl rfl rfl rfl rfl rfl ?_
  refine T_pev rfl rfl rfl rfl ?_
  refine T_pev rfl rfl rfl rfl ?_
  refine T_bool 74 true rfl (decide_eq_true (by first | rfl | omega)) ?_
  refine T_yes rfl rfl rfl ?_ rfl
  refine T_pev rfl rfl rfl rfl ?_
  refine T_yes rfl rfl rfl ?_ rfl
  refine T_pev rfl rfl rfl rfl ?_
  refine T_yes rfl rfl rfl ?_ rfl
  have hel := Go.Au.ends_len (m.take 60) ((Go.Au.fill (v.take 70) k).take 67) 67
  obtain ⟨G87, hl88, S86, r89⟩ := S85.stillRow 1 rfl
  have r90 := RdH.mk (Go.Au.ends_all r55.1 (by omega)) (by decide) r89
  obtain ⟨G92, hl93, S91, r94⟩ := S86.stillRow 0 rfl
  have r95 := RdH.mk (Go.Au.ends_all r55.1 (by omega)) (by decide) r94
  refine T_callS rfl rfl g_aumbry_aumbrykeep_Same_aumbry_api_Hash rfl rfl rfl rfl ((sameH_ok S91.le (r90.mono hl93) r95 (by first | omega | simp)).mono ?_)
  rintro e w97 ⟨rfl, hB96⟩
  have S98 := S91.call hB96
  refine ⟨_, rfl, trivial, ?_⟩
  refine T_pev rfl rfl rfl rfl ?_
  refine T_pev rfl rfl rfl rfl ?_
  refine T_bool 79 true rfl (decide_eq_true (by first | rfl | omega)) ?_
  refine T_yes rfl rfl rfl ?_ rfl
  refine T_callS rfl rfl g_aumbry_aumbrylaw08_wakes rfl rfl rfl rfl ((wakes_ok S98.le (hT.mono (hl23.trans (hl47.trans (hl88.trans hl93))))).mono ?_)
  rintro e w100 ⟨rfl, hB99⟩
  have S101 := S98.call hB99
  refine ⟨_, rfl, trivial, ?_⟩
  refine T_pev rfl rfl rfl rfl ?_
  refine T_pev rfl rfl rfl rfl ?_
  refine T_nil ?_
  refine W_ret ?_
  refine ⟨_, ⟨_, _, rfl, rfl, rfl⟩, ?_⟩
  exact ⟨rfl, S101.below⟩


theorem wotsRecovers_f {H : Hp} {w : World} (hH : H.le (hw w)) (hT : Tabs H) {m : List UInt8} {aa0 : Option Addr} {nn0 cc0 : Nat} (hv : Rd H (.slice aa0 nn0 cc0) nn0 1 (m.map bV)) {v : List (List UInt8)} {aa1 : Option Addr} {nn1 cc1 : Nat} (hx : RdH H (.slice aa1 nn1 cc1) 32 v) (hn : (v.take 70).length = 67) :
    Calls Tryd.prog 8 #[.slice aa0 nn0 cc0, .slice aa1 nn1 cc1, .bool false] w fun e w' => e = .returned (.bool true) ∧ Below w.heap.size w w' := by
  obtain rfl : nn0 = m.length := hv.lenB
  have hvcap : m.length ≤ cc0 := hv.capOf
  obtain rfl : nn1 = v.length := hx.len
  have hxcap : v.length ≤ cc1 := hx.2.capOf
  have hm60 : (m.take 60).length < 1000 := by rw [List.length_take]; omega
  have hv70 : (v.take 70).length ≤ 70 := by rw [List.length_take]; omega
  refine enter3 _ Tryd.func8 rfl Tryd.ntmps8 Tryd.results8 rfl ?_
  have S0 := St.start w hH
  refine W_seq ?_
  refine W_region ?_
  refine T_pev rfl rfl rfl rfl ?_
  refine T_nil ?_
  refine W_seq ?_
  refine W_region ?_
  refine T_pev rfl rfl rfl rfl ?_
  refine T_callS rfl rfl g_aumbry_aumbrykeep_Cut_byte rfl rfl rfl rfl ((cutB_ok S0.le hv 60).mono ?_)
  rintro e w6 ⟨a1, c2, hc3, rfl, hr4, hB5⟩
  have S7 := S0.call hB5
  refine ⟨_, rfl, trivial, ?_⟩
  refine T_pev rfl rfl rfl rfl ?_
  refine T_nil ?_
  refine W_seq ?_
  refine W_region ?_
  refine T_pev rfl rfl rfl rfl ?_
  refine T_callS rfl rfl g_aumbry_aumbrykeep_Cut_aumbry_api_Hash rfl rfl rfl rfl ((cutH_ok S7.le hx 70).mono ?_)
  rintro e w13 ⟨a8, c9, hc10, rfl, hr11, hB12⟩
  have S14 := S7.call hB12
  refine ⟨_, rfl, trivial, ?_⟩
  refine T_callS rfl rfl g_aumbry_aumbrykeep_Copy_aumbry_api_Hash rfl rfl rfl rfl ((copyH_ok S14.le hr11 (by omega)).mono ?_)
  rintro e w20 ⟨a15, c16, hc17, rfl, ho18, hB19⟩
  have S21 := S14.own hB19 ho18
  refine ⟨_, rfl, trivial, ?_⟩
  refine T_pev rfl rfl rfl rfl ?_
  refine T_nil ?_
  refine W_seq ?_
  refine W_block ?_
  refine W_loop (fun M ρ w' => ∃ (a24 : Option Addr) (c25 : Nat) (G22 : Hp), M = 0 ∧ ρ = [(0, .slice a1 (m.take 60).length c2), (2, .bool false), (7, .slice a24 ((v.take 70).length) c25)] ∧ H.le G22 ∧ St w H G22 [.row 30 32 (.slice a24 ((v.take 70).length) c25) ((v.take 70).length) (hcells (v.take 70))] w' ∧ (∀ h ∈ v.take 70, h.length = 32) ∧ (v.take 70).length ≤ c25)
    (0) [(0, .slice a1 (m.take 60).length c2), (2, .bool false), (7, .slice a15 ((v.take 70).length) c16)] ⟨rfl, rfl, rfl, trivial⟩ ⟨a15, c16, H, rfl, rfl, Hp.le.refl _, S21, hr11.1, hc17⟩ ?_
  rintro M ρ w28 ⟨a24, c25, G22, rfl, rfl, hl23, S29, hh27, hc26⟩
  refine W_seq ?_
  refine W_seq ?_
  refine W_region ?_
  refine T_pev rfl rfl rfl rfl ?_
  refine T_pev rfl rfl rfl rfl ?_
  refine T_no rfl rfl rfl rfl rfl rfl ?_
  refine T_no rfl rfl rfl rfl rfl rfl ?_
  refine T_no rfl rfl rfl rfl rfl rfl ?_
  refine T_pev rfl rfl rfl rfl ?_
  refine T_nil ?_
  refine W_cond_false rfl ?_
  refine W_exit ?_
  refine W_seq ?_
  refine W_seq ?_
  refine W_region ?_
  refine T_pev rfl rfl rfl rfl ?_
  refine T_nil ?_
  refine W_cond_false rfl ?_
  refine W_skip ?_
  refine W_seq ?_
  refine W_region ?_
  refine T_pev rfl rfl rfl rfl ?_
  refine T_pev rfl rfl rfl rfl ?_
  obtain ⟨G31, hl32, S30, r33⟩ := S29.stillRow 0 rfl
  have r34 := RdH.mk hh27 (by decide) r33
  refine T_callS rfl rfl g_aumbry_wots_Recover rfl rfl rfl rfl ((recover_ok S30.le (hT.mono (hl23.trans hl32)) (hr4.mono (hl23.trans hl32)) r34 (by omega) (by omega)).mono ?_)
  rintro e w36 ⟨rfl, hB35⟩
  have S37 := S30.call hB35
  refine ⟨_, rfl, trivial, ?_⟩
  refine T_pev rfl rfl rfl rfl ?_
  refine T_pev rfl rfl rfl rfl ?_
  refine T_pev rfl rfl rfl rfl ?_
  refine T_allocS S37 (fun _ _ => trivial) rfl rfl rfl rfl rfl rfl rfl fun b38 w39 S40 => ?_
  refine T_storeFS 0 S40 (fun _ _ => trivial) rfl rfl rfl rfl rfl rfl rfl rfl rfl (hVs (Go.Au.pubH_len _)) (hVs (Go.Au.pubH_len _)) (one_hA _) fun w41 S42 => ?_
  refine T_pev rfl rfl rfl rfl ?_
  refine T_nil ?_
  refine W_seq ?_
  refine W_region ?_
  refine T_pev rfl rfl rfl rfl ?_
  refine T_pev rfl rfl rfl rfl ?_
  refine T_callS rfl rfl g_aumbry_aumbryref07_Recover rfl rfl rfl rfl ((recoverR_ok S42.le (hr4.mono (hl23.trans hl32)) r34 (by omega) (by omega)).mono ?_)
  rintro e w44 ⟨rfl, hB43⟩
  have S45 := S42.call hB43
  refine ⟨_, rfl, trivial, ?_⟩
  refine T_pev rfl rfl rfl rfl ?_
  refine T_pev rfl rfl rfl rfl ?_
  refine T_pev rfl rfl rfl rfl ?_
  refine T_allocS S45 (fun _ _ => trivial) rfl rfl rfl rfl rfl rfl rfl fun b46 w47 S48 => ?_
  refine T_storeFS 0 S48 (fun _ _ => trivial) rfl rfl rfl rfl rfl rfl rfl rfl rfl (hVs (Go.Au.pubH_len _)) (hVs (Go.Au.pubH_len _)) (one_hA _) fun w49 S50 => ?_
  refine T_pev rfl rfl rfl rfl ?_
  refine T_nil ?_
  refine W_seq ?_
  refine W_region ?_
  refine T_pev rfl rfl rfl rfl ?_
  refine T_pev rfl rfl rfl rfl ?_
  refine T_callS rfl rfl g_aumbry_wots_Ends rfl rfl rfl rfl ((ends_ok S50.le (hT.mono (hl23.trans hl32)) (hr4.mono (hl23.trans hl32)) r34 (by omega) (by omega)).mono ?_)
  rintro e w56 ⟨a51, c52, hc53, rfl, ho54, hB55⟩
  have S57 := S50.own hB55 ho54
  refine ⟨_, rfl, trivial, ?_⟩
  refine T_pev rfl rfl rfl rfl ?_
  refine T_pev rfl rfl rfl rfl ?_
  refine T_pev rfl rfl rfl rfl ?_
  refine T_pev rfl rfl rfl rfl ?_
  refine T_pev rfl rfl rfl rfl ?_
  refine T_nil ?_
  refine W_seq ?_
  refine W_region ?_
  refine T_pev rfl rfl rfl rfl ?_
  refine T_pev rfl rfl rfl rfl ?_
  refine T_callS rfl rfl g_aumbry_aumbryref07_Ends rfl rfl rfl rfl ((endsVR_ok S57.le (hr4.mono (hl23.trans hl32)) r34 (by omega) (by omega)).mono ?_)
  rintro e w63 ⟨a58, c59, hc60, rfl, ho61, hB62⟩
  have S64 := S57.own hB62 ho61
  refine ⟨_, rfl, trivial, ?_⟩
  refine T_pev rfl rfl rfl rfl ?_
  refine T_pev rfl rfl rfl rfl ?_
  refine T_pev rfl rfl rfl rfl ?_
  refine T_pev rfl rfl rfl rfl ?_
  refine T_pev rfl rfl rfl rfl ?_
  refine T_nil ?_
  refine W_seq ?_
  refine W_region ?_
  refine T_pev rfl rfl rfl rfl ?_
  refine T_pev rfl rfl rfl rfl ?_
  refine T_beq rfl rfl rfl rfl rfl rfl rfl ?_
  refine T_pev rfl rfl rfl rfl ?_
  refine T_bool 64 true rfl (decide_eq_true (by first | rfl | omega)) ?_
  refine T_yes rfl rfl rfl ?_ rfl
  refine T_loadFS 3 S64 rfl rfl rfl rfl rfl rfl rfl rfl rfl (hVs (Go.Au.pubH_len _)) ?_
  refine T_yes rfl rfl rfl ?_ rfl
  refine T_loadFS 2 S64 rfl rfl rfl rfl rfl rfl rfl rfl rfl (hVs (Go.Au.pubH_len _)) ?_
  refine T_yes rfl rfl rfl ?_ rfl
  refine T_eqB (xs := (Go.Au.pubH (Go.Au.ends (m.take 60) (v.take 70) 67))) (ys := (Go.Au.pubH (Go.Au.ends (m.take 60) (v.take 70) 67))) rfl rfl rfl rfl rfl rfl rfl rfl rfl rfl rfl (Go.Au.pubH_len _) (Go.Au.pubH_len _) ?_
  refine T_pev rfl rfl rfl rfl ?_
  refine T_pev rfl rfl rfl rfl ?_
  refine T_bool 69 true rfl (decide_eq_true (by first | rfl | omega)) ?_
  refine T_yes rfl rfl rfl ?_ rfl
  refine T_pev rfl rfl rfl rfl ?_
  refine T_yes rfl rfl rfl ?_ rfl
  refine T_pev rfl rfl rfl rfl ?_
  refine T_yes rfl rfl rfl ?_ rfl
  refine T_beq rfl rfl rfl rfl rfl rfl rfl ?_
  refine T_pev rfl rfl rfl rfl ?_
  refine T_pev rfl rfl rfl rfl ?_
  refine T_bool 74 true rfl (decide_eq_true (by first | rfl | omega)) ?_
  refine T_yes rfl rfl rfl ?_ rfl
  refine T_pev rfl rfl rfl rfl ?_
  refine T_yes rfl rfl rfl ?_ rfl
  refine T_pev rfl rfl rfl rfl ?_
  refine T_yes rfl rfl rfl ?_ rfl
  have hel := Go.Au.ends_len (m.take 60) (v.take 70) 67
  obtain ⟨G66, hl67, S65, r68⟩ := S64.stillRow 1 rfl
  have r69 := RdH.mk (Go.Au.ends_all r34.1 (by omega)) (by decide) r68
  obtain ⟨G71, hl72, S70, r73⟩ := S65.stillRow 0 rfl
  have r74 := RdH.mk (Go.Au.ends_all r34.1 (by omega)) (by decide) r73
  refine T_callS rfl rfl g_aumbry_aumbrykeep_Same_aumbry_api_Hash rfl rfl rfl rfl ((sameH_ok S70.le (r69.mono hl72) r74 (by first | omega | simp)).mono ?_)
  rintro e w76 ⟨rfl, hB75⟩
  have S77 := S70.call hB75
  refine ⟨_, rfl, trivial, ?_⟩
  refine T_pev rfl rfl rfl rfl ?_
  refine T_pev rfl rfl rfl rfl ?_
  refine T_bool 79 true rfl (decide_eq_true (by first | rfl | omega)) ?_
  refine T_yes rfl rfl rfl ?_ rfl
  refine T_callS rfl rfl g_aumbry_aumbrylaw08_wakes rfl rfl rfl rfl ((wakes_ok S77.le (hT.mono (hl23.trans (hl32.trans (hl67.trans hl72))))).mono ?_)
  rintro e w79 ⟨rfl, hB78⟩
  have S80 := S77.call hB78
  refine ⟨_, rfl, trivial, ?_⟩
  refine T_pev rfl rfl rfl rfl ?_
  refine T_pev rfl rfl rfl rfl ?_
  refine T_nil ?_
  refine W_ret ?_
  refine ⟨_, ⟨_, _, rfl, rfl, rfl⟩, ?_⟩
  exact ⟨rfl, S80.below⟩


theorem wotsRecovers_n {H : Hp} {w : World} (hH : H.le (hw w)) (hT : Tabs H) {m : List UInt8} {aa0 : Option Addr} {nn0 cc0 : Nat} (hv : Rd H (.slice aa0 nn0 cc0) nn0 1 (m.map bV)) {v : List (List UInt8)} {aa1 : Option Addr} {nn1 cc1 : Nat} (hx : RdH H (.slice aa1 nn1 cc1) 32 v) (hn : (v.take 70).length ≠ 67) :
    Calls Tryd.prog 8 #[.slice aa0 nn0 cc0, .slice aa1 nn1 cc1, .bool false] w fun e w' => e = .returned (.bool true) ∧ Below w.heap.size w w' := by
  obtain rfl : nn0 = m.length := hv.lenB
  have hvcap : m.length ≤ cc0 := hv.capOf
  obtain rfl : nn1 = v.length := hx.len
  have hxcap : v.length ≤ cc1 := hx.2.capOf
  have hm60 : (m.take 60).length < 1000 := by rw [List.length_take]; omega
  have hv70 : (v.take 70).length ≤ 70 := by rw [List.length_take]; omega
  refine enter3 _ Tryd.func8 rfl Tryd.ntmps8 Tryd.results8 rfl ?_
  have S0 := St.start w hH
  refine W_seq ?_
  refine W_region ?_
  refine T_pev rfl rfl rfl rfl ?_
  refine T_nil ?_
  refine W_seq ?_
  refine W_region ?_
  refine T_pev rfl rfl rfl rfl ?_
  refine T_callS rfl rfl g_aumbry_aumbrykeep_Cut_byte rfl rfl rfl rfl ((cutB_ok S0.le hv 60).mono ?_)
  rintro e w6 ⟨a1, c2, hc3, rfl, hr4, hB5⟩
  have S7 := S0.call hB5
  refine ⟨_, rfl, trivial, ?_⟩
  refine T_pev rfl rfl rfl rfl ?_
  refine T_nil ?_
  refine W_seq ?_
  refine W_region ?_
  refine T_pev rfl rfl rfl rfl ?_
  refine T_callS rfl rfl g_aumbry_aumbrykeep_Cut_aumbry_api_Hash rfl rfl rfl rfl ((cutH_ok S7.le hx 70).mono ?_)
  rintro e w13 ⟨a8, c9, hc10, rfl, hr11, hB12⟩
  have S14 := S7.call hB12
  refine ⟨_, rfl, trivial, ?_⟩
  refine T_callS rfl rfl g_aumbry_aumbrykeep_Copy_aumbry_api_Hash rfl rfl rfl rfl ((copyH_ok S14.le hr11 (by omega)).mono ?_)
  rintro e w20 ⟨a15, c16, hc17, rfl, ho18, hB19⟩
  have S21 := S14.own hB19 ho18
  refine ⟨_, rfl, trivial, ?_⟩
  refine T_pev rfl rfl rfl rfl ?_
  refine T_nil ?_
  refine W_seq ?_
  refine W_block ?_
  refine W_loop (fun M ρ w' => ∃ (a24 : Option Addr) (c25 : Nat) (G22 : Hp), M = 0 ∧ ρ = [(0, .slice a1 (m.take 60).length c2), (2, .bool false), (7, .slice a24 ((v.take 70).length) c25)] ∧ H.le G22 ∧ St w H G22 [.row 30 32 (.slice a24 ((v.take 70).length) c25) ((v.take 70).length) (hcells (v.take 70))] w' ∧ (∀ h ∈ v.take 70, h.length = 32) ∧ (v.take 70).length ≤ c25)
    (0) [(0, .slice a1 (m.take 60).length c2), (2, .bool false), (7, .slice a15 ((v.take 70).length) c16)] ⟨rfl, rfl, rfl, trivial⟩ ⟨a15, c16, H, rfl, rfl, Hp.le.refl _, S21, hr11.1, hc17⟩ ?_
  rintro M ρ w28 ⟨a24, c25, G22, rfl, rfl, hl23, S29, hh27, hc26⟩
  refine W_seq ?_
  refine W_seq ?_
  refine W_region ?_
  refine T_pev rfl rfl rfl rfl ?_
  refine T_pev rfl rfl rfl rfl ?_
  refine T_no rfl rfl rfl rfl rfl rfl ?_
  refine T_no rfl rfl rfl rfl rfl rfl ?_
  refine T_no rfl rfl rfl rfl rfl rfl ?_
  refine T_pev rfl rfl rfl rfl ?_
  refine T_nil ?_
  refine W_cond_false rfl ?_
  refine W_exit ?_
  refine W_seq ?_
  refine W_seq ?_
  refine W_region ?_
  refine T_pev rfl rfl rfl rfl ?_
  refine T_nil ?_
  refine W_cond_false rfl ?_
  refine W_skip ?_
  refine W_seq ?_
  refine W_region ?_
  refine T_pev rfl rfl rfl rfl ?_
  refine T_pev rfl rfl rfl rfl ?_
  obtain ⟨G31, hl32, S30, r33⟩ := S29.stillRow 0 rfl
  have r34 := RdH.mk hh27 (by decide) r33
  refine T_callS rfl rfl g_aumbry_wots_Recover rfl rfl rfl rfl ((recover_ok_no S30.le (hT.mono (hl23.trans hl32)) (hr4.mono (hl23.trans hl32)) r34 (by omega) (by omega)).mono ?_)
  rintro e w36 ⟨rfl, hB35⟩
  have S37 := S30.call hB35
  refine ⟨_, rfl, trivial, ?_⟩
  refine T_pev rfl rfl rfl rfl ?_
  refine T_pev rfl rfl rfl rfl ?_
  refine T_pev rfl rfl rfl rfl ?_
  refine T_allocS S37 (fun _ _ => trivial) rfl rfl rfl rfl rfl rfl rfl fun b38 w39 S40 => ?_
  refine T_storeFS 0 S40 (fun _ _ => trivial) rfl rfl rfl rfl rfl rfl rfl rfl rfl (hVs List.length_replicate) (hVs List.length_replicate) (one_hA _) fun w41 S42 => ?_
  refine T_pev rfl rfl rfl rfl ?_
  refine T_nil ?_
  refine W_seq ?_
  refine W_region ?_
  refine T_pev rfl rfl rfl rfl ?_
  refine T_pev rfl rfl rfl rfl ?_
  refine T_callS rfl rfl g_aumbry_aumbryref07_Recover rfl rfl rfl rfl ((recoverR_ok_no S42.le (hr4.mono (hl23.trans hl32)) r34 (by omega) (by omega)).mono ?_)
  rintro e w44 ⟨rfl, hB43⟩
  have S45 := S42.call hB43
  refine ⟨_, rfl, trivial, ?_⟩
  refine T_pev rfl rfl rfl rfl ?_
  refine T_pev rfl rfl rfl rfl ?_
  refine T_pev rfl rfl rfl rfl ?_
  refine T_allocS S45 (fun _ _ => trivial) rfl rfl rfl rfl rfl rfl rfl fun b46 w47 S48 => ?_
  refine T_storeFS 0 S48 (fun _ _ => trivial) rfl rfl rfl rfl rfl rfl rfl rfl rfl (hVs List.length_replicate) (hVs List.length_replicate) (one_hA _) fun w49 S50 => ?_
  refine T_pev rfl rfl rfl rfl ?_
  refine T_nil ?_
  refine W_seq ?_
  refine W_region ?_
  refine T_pev rfl rfl rfl rfl ?_
  refine T_pev rfl rfl rfl rfl ?_
  refine T_callS rfl rfl g_aumbry_wots_Ends rfl rfl rfl rfl ((ends_ok_no S50.le (hT.mono (hl23.trans hl32)) (hr4.mono (hl23.trans hl32)) r34 (by omega) (by omega)).mono ?_)
  rintro e w52 ⟨rfl, hB51⟩
  have S53 := S50.call hB51
  refine ⟨_, rfl, trivial, ?_⟩
  refine T_pev rfl rfl rfl rfl ?_
  refine T_pev rfl rfl rfl rfl ?_
  refine T_pev rfl rfl rfl rfl ?_
  refine T_pev rfl rfl rfl rfl ?_
  refine T_pev rfl rfl rfl rfl ?_
  refine T_nil ?_
  refine W_seq ?_
  refine W_region ?_
  refine T_pev rfl rfl rfl rfl ?_
  refine T_pev rfl rfl rfl rfl ?_
  refine T_callS rfl rfl g_aumbry_aumbryref07_Ends rfl rfl rfl rfl ((endsVR_ok_no S53.le (hr4.mono (hl23.trans hl32)) r34 (by omega) (by omega)).mono ?_)
  rintro e w55 ⟨rfl, hB54⟩
  have S56 := S53.call hB54
  refine ⟨_, rfl, trivial, ?_⟩
  refine T_pev rfl rfl rfl rfl ?_
  refine T_pev rfl rfl rfl rfl ?_
  refine T_pev rfl rfl rfl rfl ?_
  refine T_pev rfl rfl rfl rfl ?_
  refine T_pev rfl rfl rfl rfl ?_
  refine T_nil ?_
  refine W_seq ?_
  refine W_region ?_
  refine T_pev rfl rfl rfl rfl ?_
  refine T_pev rfl rfl rfl rfl ?_
  refine T_beq rfl rfl rfl rfl rfl rfl rfl ?_
  refine T_pev rfl rfl rfl rfl ?_
  refine T_bool 64 true rfl (decide_eq_true (by first | rfl | omega)) ?_
  refine T_yes rfl rfl rfl ?_ rfl
  refine T_loadFS 1 S56 rfl rfl rfl rfl rfl rfl rfl rfl rfl (hVs List.length_replicate) ?_
  refine T_yes rfl rfl rfl ?_ rfl
  refine T_loadFS 0 S56 rfl rfl rfl rfl rfl rfl rfl rfl rfl (hVs List.length_replicate) ?_
  refine T_yes rfl rfl rfl ?_ rfl
  refine T_eqB (xs := (List.replicate 32 0)) (ys := (List.replicate 32 0)) rfl rfl rfl rfl rfl rfl rfl rfl rfl rfl rfl List.length_replicate List.length_replicate ?_
  refine T_pev rfl rfl rfl rfl ?_
  refine T_pev rfl rfl rfl rfl ?_
  refine T_bool 69 true rfl (decide_eq_true (by first | rfl | omega)) ?_
  refine T_yes rfl rfl rfl ?_ rfl
  refine T_pev rfl rfl rfl rfl ?_
  refine T_yes rfl rfl rfl ?_ rfl
  refine T_pev rfl rfl rfl rfl ?_
  refine T_yes rfl rfl rfl ?_ rfl
  refine T_beq rfl rfl rfl rfl rfl rfl rfl ?_
  refine T_pev rfl rfl rfl rfl ?_
  refine T_pev rfl rfl rfl rfl ?_
  refine T_bool 74 true rfl (decide_eq_true (by first | rfl | omega)) ?_
  refine T_yes rfl rfl rfl ?_ rfl
  refine T_pev rfl rfl rfl rfl ?_
  refine T_yes rfl rfl rfl ?_ rfl
  refine T_pev rfl rfl rfl rfl ?_
  refine T_yes rfl rfl rfl ?_ rfl
  refine T_callS rfl rfl g_aumbry_aumbrykeep_Same_aumbry_api_Hash rfl rfl rfl rfl ((sameH_ok S56.le (nilH _) (nilH _) (by first | omega | simp)).mono ?_)
  rintro e w58 ⟨rfl, hB57⟩
  have S59 := S56.call hB57
  refine ⟨_, rfl, trivial, ?_⟩
  refine T_pev rfl rfl rfl rfl ?_
  refine T_pev rfl rfl rfl rfl ?_
  refine T_bool 79 true rfl (decide_eq_true (by first | rfl | omega)) ?_
  refine T_yes rfl rfl rfl ?_ rfl
  refine T_callS rfl rfl g_aumbry_aumbrylaw08_wakes rfl rfl rfl rfl ((wakes_ok S59.le (hT.mono (hl23.trans hl32))).mono ?_)
  rintro e w61 ⟨rfl, hB60⟩
  have S62 := S59.call hB60
  refine ⟨_, rfl, trivial, ?_⟩
  refine T_pev rfl rfl rfl rfl ?_
  refine T_pev rfl rfl rfl rfl ?_
  refine T_nil ?_
  refine W_ret ?_
  refine ⟨_, ⟨_, _, rfl, rfl, rfl⟩, ?_⟩
  exact ⟨rfl, S62.below⟩


theorem wotsBack_ok {H : Hp} {w : World} (hH : H.le (hw w)) (hT : Tabs H) {seed : List UInt8} (leaf : Int) (hs : seed.length = 16) (hl : leaf ≤ 9223372036854775807) {m : List UInt8} {aa2 : Option Addr} {nn2 cc2 : Nat} (hv : Rd H (.slice aa2 nn2 cc2) nn2 1 (m.map bV)) {q : List UInt8} {aa3 : Option Addr} {nn3 cc3 : Nat} (hu : Rd H (.slice aa3 nn3 cc3) nn3 1 (q.map bV)) :
    Calls Tryd.prog 9 #[hV seed, .int .i64 leaf, .slice aa2 nn2 cc2, .slice aa3 nn3 cc3] w fun e w' => e = .returned (.bool true) ∧ Below w.heap.size w w' := by
  obtain rfl : nn2 = m.length := hv.lenB
  have hvcap : m.length ≤ cc2 := hv.capOf
  obtain rfl : nn3 = q.length := hu.lenB
  have hucap : q.length ≤ cc3 := hu.capOf
  have hm60 : (m.take 60).length < 1000 := by rw [List.length_take]; omega
  have hq60 : (q.take 60).length < 1000 := by rw [List.length_take]; omega
  have hsl := Go.Au.sign_len seed leaf (m.take 60) 67
  have hd1 := Go.Au.digits_len (m.take 60)
  have hd2 := Go.Au.digits_len (q.take 60)
  refine enter4 _ Tryd.func9 rfl Tryd.ntmps9 Tryd.results9 rfl ?_
  have S0 := St.start w hH
  refine W_seq ?_
  refine W_region ?_
  refine T_boxS S0 (fun _ _ => trivial) rfl rfl rfl rfl rfl rfl fun b1 w2 S3 => ?_
  refine T_pev rfl rfl rfl rfl ?_
  refine T_nil ?_
  refine W_seq ?_
  refine W_region ?_
  refine T_pev rfl rfl rfl rfl ?_
  refine T_callS rfl rfl g_aumbry_aumbrykeep_Cut_byte rfl rfl rfl rfl ((cutB_ok S3.le hv 60).mono ?_)
  rintro e w9 ⟨a4, c5, hc6, rfl, hr7, hB8⟩
  have S10 := S3.call hB8
  refine ⟨_, rfl, trivial, ?_⟩
  refine T_pev rfl rfl rfl rfl ?_
  refine T_callS rfl rfl g_aumbry_aumbrykeep_Cut_byte rfl rfl rfl rfl ((cutB_ok S10.le hu 60).mono ?_)
  rintro e w16 ⟨a11, c12, hc13, rfl, hr14, hB15⟩
  have S17 := S10.call hB15
  refine ⟨_, rfl, trivial, ?_⟩
  refine T_pev rfl rfl rfl rfl ?_
  refine T_pev rfl rfl rfl rfl ?_
  refine T_nil ?_
  refine W_seq ?_
  refine W_region ?_
  refine T_loadFS 0 S17 rfl rfl rfl rfl rfl rfl rfl rfl rfl (hVs hs) ?_
  refine T_pev rfl rfl rfl rfl ?_
  refine T_pev rfl rfl rfl rfl ?_
  refine T_callS rfl rfl g_aumbry_wots_Sign rfl rfl rfl rfl ((sign_ok S17.le hT leaf hs (by omega) hr7 (by omega)).mono ?_)
  rintro e w23 ⟨a18, c19, hc20, rfl, ho21, hB22⟩
  have S24 := S17.own hB22 ho21
  refine ⟨_, rfl, trivial, ?_⟩
  refine T_pev rfl rfl rfl rfl ?_
  refine T_nil ?_
  refine W_seq ?_
  refine W_region ?_
  refine T_pev rfl rfl rfl rfl ?_
  refine T_pev rfl rfl rfl rfl ?_
  obtain ⟨G26, hl27, S25, r28⟩ := S24.stillRow 0 rfl
  have r29 := RdH.mk (Go.Au.sign_all _ _ _ _) (by decide) r28
  refine T_callS rfl rfl g_aumbry_wots_Recover rfl rfl rfl rfl ((recover_ok S25.le (hT.mono hl27) (hr7.mono hl27) r29 (by omega) (by omega)).mono ?_)
  rintro e w31 ⟨rfl, hB30⟩
  have S32 := S25.call hB30
  refine ⟨_, rfl, trivial, ?_⟩
  refine T_pev rfl rfl rfl rfl ?_
  refine T_pev rfl rfl rfl rfl ?_
  refine T_re (v' := hV (Go.Au.pub seed leaf)) (by rw [Go.Au.ends_sign]; rfl) ?_
  refine T_pev rfl rfl rfl rfl ?_
  refine T_allocS S32 (fun _ _ => trivial) rfl rfl rfl rfl rfl rfl rfl fun b33 w34 S35 => ?_
  refine T_storeFS 0 S35 (fun _ _ => trivial) rfl rfl rfl rfl rfl rfl rfl rfl rfl (hVs (Go.Au.pub_len _ _)) (hVs (Go.Au.pub_len _ _)) (one_hA _) fun w36 S37 => ?_
  refine T_pev rfl rfl rfl rfl ?_
  refine T_nil ?_
  refine W_seq ?_
  refine W_seq ?_
  obtain ⟨G39, hl40, S38, r41⟩ := S37.stillBlk 0 rfl
  refine W_plan (planF Tryd.prog G39 [36]) rfl (by kernel_rfl) S38.le ?_
  have S42 := S38.drew
  refine T_pev rfl rfl rfl rfl ?_
  refine T_pev rfl rfl rfl rfl ?_
  refine T_pev rfl rfl rfl rfl ?_
  refine T_yes rfl rfl rfl ?_ rfl
  refine T_loadGAP _ (fun _ h => h) (still_cells r41) rfl rfl rfl rfl rfl rfl rfl rfl (hVs (Go.Au.pub_len _ _)) ?_
  refine T_yes rfl rfl rfl ?_ rfl
  refine T_loadFS 0 S42 rfl rfl rfl rfl rfl rfl rfl rfl rfl (hVs hs) ?_
  refine T_yes rfl rfl rfl ?_ rfl
  refine T_pev rfl rfl rfl rfl ?_
  refine T_yes rfl rfl rfl ?_ rfl
  refine T_callS rfl rfl g_aumbry_wots_Public rfl rfl rfl rfl ((pub_ok S42.le (hT.mono (hl27.trans hl40)) leaf hs (by omega)).mono ?_)
  rintro e w44 ⟨rfl, hB43⟩
  have S45 := S42.call hB43
  refine ⟨_, rfl, (((Hp.le.refl _)).trans S45.le), ?_⟩
  refine T_yes rfl rfl rfl ?_ rfl
  refine T_neB (xs := Go.Au.pub seed leaf) (ys := Go.Au.pub seed leaf) rfl rfl rfl rfl rfl rfl rfl rfl rfl rfl rfl (Go.Au.pub_len _ _) (Go.Au.pub_len _ _) ?_
  refine T_pev rfl rfl rfl rfl ?_
  refine T_nil ?_
  refine W_bool 41 false rfl (ndec_f (by simp)) ?_
  refine W_cond_false rfl ?_
  refine W_skip ?_
  refine W_seq ?_
  refine W_region ?_
  refine T_pev rfl rfl rfl rfl ?_
  refine T_callS rfl rfl g_aumbry_wots_Digits rfl rfl rfl rfl ((digits_w_ok S45.le (hT.mono (hl27.trans hl40)) (hr7.mono (hl27.trans hl40)) (by omega)).mono ?_)
  rintro e w51 ⟨a46, c47, hc48, rfl, ho49, hB50⟩
  have S52 := S45.own hB50 ho49
  refine ⟨_, rfl, trivial, ?_⟩
  refine T_pev rfl rfl rfl rfl ?_
  refine T_callS rfl rfl g_aumbry_wots_Digits rfl rfl rfl rfl ((digits_w_ok S52.le (hT.mono (hl27.trans hl40)) (hr14.mono (hl27.trans hl40)) (by omega)).mono ?_)
  rintro e w58 ⟨a53, c54, hc55, rfl, ho56, hB57⟩
  have S59 := S52.own hB57 ho56
  refine ⟨_, rfl, trivial, ?_⟩
  refine T_pev rfl rfl rfl rfl ?_
  refine T_pev rfl rfl rfl rfl ?_
  refine T_nil ?_
  refine W_seq ?_
  refine W_seq ?_
  refine W_region ?_
  refine T_pev rfl rfl rfl rfl ?_
  refine T_pev rfl rfl rfl rfl ?_
  obtain ⟨G61, hl62, S60, r63⟩ := S59.stillRow 1 rfl
  obtain ⟨G65, hl66, S64, r67⟩ := S60.stillRow 0 rfl
  refine T_callS rfl rfl g_aumbry_aumbrykeep_Same_int rfl rfl rfl rfl ((sameI_ok S64.le (r63.mono hl66) r67 (by first | omega | simp)).mono ?_)
  rintro e w69 ⟨rfl, hB68⟩
  have S70 := S64.call hB68
  refine ⟨_, rfl, trivial, ?_⟩
  refine T_nil ?_
  refine W_cond_dec rfl (fun h71 => ?_) (fun h71 => ?_)
  · refine W_seq ?_
    refine W_region ?_
    refine T_pev rfl rfl rfl rfl ?_
    refine T_pev rfl rfl rfl rfl ?_
    refine T_callS rfl rfl g_aumbry_wots_Recover rfl rfl rfl rfl ((recover_ok S70.le (hT.mono (hl27.trans (hl40.trans (hl62.trans hl66)))) (hr14.mono (hl27.trans (hl40.trans (hl62.trans hl66)))) (r29.mono (hl40.trans (hl62.trans hl66))) (by omega) (by omega)).mono ?_)
    rintro e w73 ⟨rfl, hB72⟩
    have S74 := S70.call hB72
    refine ⟨_, rfl, trivial, ?_⟩
    refine T_pev rfl rfl rfl rfl ?_
    refine T_pev rfl rfl rfl rfl ?_
    refine T_re (v' := hV (Go.Au.pub seed leaf)) (by rw [ends_of_digits h71.symm, Go.Au.ends_sign]; rfl) ?_
    refine T_pev rfl rfl rfl rfl ?_
    refine T_allocS S74 (fun _ _ => trivial) rfl rfl rfl rfl rfl rfl rfl fun b75 w76 S77 => ?_
    refine T_storeFS 0 S77 (fun _ _ => trivial) rfl rfl rfl rfl rfl rfl rfl rfl rfl (hVs (Go.Au.pub_len _ _)) (hVs (Go.Au.pub_len _ _)) (one_hA _) fun w78 S79 => ?_
    refine T_pev rfl rfl rfl rfl ?_
    refine T_nil ?_
    refine W_seq ?_
    refine W_region ?_
    refine T_pev rfl rfl rfl rfl ?_
    refine T_pev rfl rfl rfl rfl ?_
    refine T_yes rfl rfl rfl ?_ rfl
    refine T_loadFS 0 S79 rfl rfl rfl rfl rfl rfl rfl rfl rfl (hVs (Go.Au.pub_len _ _)) ?_
    refine T_yes rfl rfl rfl ?_ rfl
    refine T_loadGA _ S79 (still_cells (hl66 _ _ (hl62 _ _ r41))) rfl rfl rfl rfl rfl rfl rfl rfl (hVs (Go.Au.pub_len _ _)) ?_
    refine T_yes rfl rfl rfl ?_ rfl
    refine T_eqB (xs := Go.Au.pub seed leaf) (ys := Go.Au.pub seed leaf) rfl rfl rfl rfl rfl rfl rfl rfl rfl rfl rfl (Go.Au.pub_len _ _) (Go.Au.pub_len _ _) ?_
    refine T_pev rfl rfl rfl rfl ?_
    refine T_pev rfl rfl rfl rfl ?_
    refine T_bool 61 true rfl (decide_eq_true (by first | rfl | omega)) ?_
    refine T_yes rfl rfl rfl ?_ rfl
    refine T_callS rfl rfl g_aumbry_aumbrylaw08_wakes rfl rfl rfl rfl ((wakes_ok S79.le (hT.mono (hl27.trans (hl40.trans (hl62.trans hl66))))).mono ?_)
    rintro e w81 ⟨rfl, hB80⟩
    have S82 := S79.call hB80
    refine ⟨_, rfl, trivial, ?_⟩
    refine T_pev rfl rfl rfl rfl ?_
    refine T_pev rfl rfl rfl rfl ?_
    refine T_nil ?_
    refine W_ret ?_
    refine ⟨_, ⟨_, _, rfl, rfl, rfl⟩, ?_⟩
    exact ⟨rfl, S82.below⟩
  refine W_skip ?_
  refine W_seq ?_
  refine W_region ?_
  refine T_pev rfl rfl rfl rfl ?_
  refine T_pev rfl rfl rfl rfl ?_
  refine T_nil ?_
  refine W_seq ?_
  refine W_seq ?_
  refine W_region ?_
  refine T_pev rfl rfl rfl rfl ?_
  refine T_pev rfl rfl rfl rfl ?_
  refine T_pev rfl rfl rfl rfl ?_
  refine T_nil ?_
  refine W_block ?_
  refine W_loop (fun M ρ w' => ∃ (k : Nat) (G83 : Hp), M = 67 - k ∧ k ≤ 67 ∧ ρ = [(12, .slice a46 67 c47), (13, .slice a53 67 c54), (16, .bool (Go.Au.someLt (Go.Au.digits (m.take 60)) (Go.Au.digits (q.take 60)) k)), (17, .bool (Go.Au.someLt (Go.Au.digits (q.take 60)) (Go.Au.digits (m.take 60)) k)), (65, .int .i64 ((67 : Nat) : Int)), (66, .int .i64 (k : Int))] ∧ G65.le G83 ∧ St w H G83 [.blk b1 (hV seed : Value).cells 36] w')
    (67 - 0) [(12, .slice a46 67 c47), (13, .slice a53 67 c54), (16, .bool false), (17, .bool false), (65, .int .i64 ((67 : Nat) : Int)), (66, .int .i64 ((0 : Nat) : Int))] ⟨rfl, rfl, rfl, rfl, (congrArg (fun z => some (Value.int .i64 z)) (by omega)), (congrArg (fun z => some (Value.int .i64 z)) (by omega)), trivial⟩ ⟨0, G65, rfl, (by omega), rfl, Hp.le.refl _, S70⟩ ?_
  rintro M ρ w85 ⟨k, G83, rfl, hp87, rfl, hl84, S86⟩
  refine W_seq ?_
  refine W_region ?_
  refine T_pev rfl rfl rfl rfl ?_
  refine T_nil ?_
  refine W_seq ?_
  refine W_cond_dec rfl (fun h88 => ?_) (fun h88 => ?_)
  · refine W_skip ?_
    refine W_seq ?_
    refine W_block ?_
    refine W_seq ?_
    refine W_region ?_
    refine T_pev rfl rfl rfl rfl ?_
    refine T_pev rfl rfl rfl rfl ?_
    refine T_nil ?_
    refine W_seq ?_
    refine W_seq ?_
    refine W_region ?_
    refine T_pev rfl rfl rfl rfl ?_
    refine T_pev rfl rfl rfl rfl ?_
    refine T_pev rfl rfl rfl rfl ?_
    refine T_pev rfl rfl rfl rfl ?_
    refine T_nil ?_
    refine W_bool 72 false rfl (decide_eq_false (by omega)) ?_
    refine W_cond_false rfl ?_
    refine W_skip ?_
    refine W_draw rfl (by kernel_rfl) ?_
    have S89 := S86.drew
    refine T_pev rfl rfl rfl rfl ?_
    refine T_pev rfl rfl rfl rfl ?_
    refine T_part (t := 74) rfl (List.cons_ne_nil _ _) (fun h90' => ?_) (fun h90' => ?_)
    · have h90 := h90'
      refine T_no rfl rfl rfl rfl rfl rfl ?_
      refine T_no rfl rfl rfl rfl rfl rfl ?_
      refine T_no rfl rfl rfl rfl rfl rfl ?_
      refine T_no rfl rfl rfl rfl rfl rfl ?_
      refine T_no rfl rfl rfl rfl rfl rfl ?_
      refine T_no rfl rfl rfl rfl rfl rfl ?_
      refine T_no rfl rfl rfl rfl rfl rfl ?_
      refine T_no rfl rfl rfl rfl rfl rfl ?_
      refine T_no rfl rfl rfl rfl rfl rfl ?_
      refine T_pev rfl rfl rfl rfl ?_
      refine T_re (v' := .bool (Go.Au.someLt (Go.Au.digits (m.take 60)) (Go.Au.digits (q.take 60)) (k + 1))) (by simp only [Go.Au.someLt]; simp [*]) ?_
      refine T_pev rfl rfl rfl rfl ?_
      refine T_pev rfl rfl rfl rfl ?_
      refine T_part (t := 86) rfl (List.cons_ne_nil _ _) (fun h91' => ?_) (fun h91' => ?_)
      · have h91 := h91'
        refine T_no rfl rfl rfl rfl rfl rfl ?_
        refine T_no rfl rfl rfl rfl rfl rfl ?_
        refine T_no rfl rfl rfl rfl rfl rfl ?_
        refine T_no rfl rfl rfl rfl rfl rfl ?_
        refine T_no rfl rfl rfl rfl rfl rfl ?_
        refine T_no rfl rfl rfl rfl rfl rfl ?_
        refine T_no rfl rfl rfl rfl rfl rfl ?_
        refine T_no rfl rfl rfl rfl rfl rfl ?_
        refine T_no rfl rfl rfl rfl rfl rfl ?_
        refine T_pev rfl rfl rfl rfl ?_
        refine T_re (v' := .bool (Go.Au.someLt (Go.Au.digits (q.take 60)) (Go.Au.digits (m.take 60)) (k + 1))) (by simp only [Go.Au.someLt]; simp [*]) ?_
        refine T_pev rfl rfl rfl rfl ?_
        refine T_pev rfl rfl rfl rfl ?_
        refine T_nil ?_
        refine W_region ?_
        refine T_ari rfl rfl rfl rfl (by omega) ?_
        refine T_pev rfl rfl rfl rfl ?_
        refine T_nil ?_
        exact ⟨67 - (k + 1), [(12, .slice a46 67 c47), (13, .slice a53 67 c54), (16, .bool (Go.Au.someLt (Go.Au.digits (m.take 60)) (Go.Au.digits (q.take 60)) (k + 1))), (17, .bool (Go.Au.someLt (Go.Au.digits (q.take 60)) (Go.Au.digits (m.take 60)) (k + 1))), (65, .int .i64 ((67 : Nat) : Int)), (66, .int .i64 ((k + 1 : Nat) : Int))], by omega, ⟨rfl, rfl, rfl, rfl, (congrArg (fun z => some (Value.int .i64 z)) (by omega)), (congrArg (fun z => some (Value.int .i64 z)) (by omega)), trivial⟩, k + 1, G83, rfl, (by omega), rfl, hl84, S89⟩
      have h91 := h91'
      refine T_yes rfl rfl rfl ?_ rfl
      refine T_pev rfl rfl rfl rfl ?_
      refine T_yes rfl rfl rfl ?_ rfl
      refine T_pev rfl rfl rfl rfl ?_
      refine T_yes rfl rfl rfl ?_ rfl
      refine T_idxR k (r63.mono (hl66.trans hl84)) rfl rfl rfl rfl rfl rfl rfl rfl rfl (by omega) (by omega) fun b92 o93 hc94 => ?_
      have hc95 := hc94 0 (.int .i64 ((Go.Au.digits (m.take 60)).getD k 0)) (at_i (Go.Au.digits (m.take 60)) k (by omega))
      simp only [Nat.add_zero] at hc95
      refine T_yes rfl rfl rfl ?_ rfl
      refine T_loadG S89 hc95 rfl rfl rfl rfl rfl rfl rfl ?_
      refine T_yes rfl rfl rfl ?_ rfl
      refine T_pev rfl rfl rfl rfl ?_
      refine T_yes rfl rfl rfl ?_ rfl
      refine T_pev rfl rfl rfl rfl ?_
      refine T_yes rfl rfl rfl ?_ rfl
      refine T_idxR k (r67.mono hl84) rfl rfl rfl rfl rfl rfl rfl rfl rfl (by omega) (by omega) fun b96 o97 hc98 => ?_
      have hc99 := hc98 0 (.int .i64 ((Go.Au.digits (q.take 60)).getD k 0)) (at_i (Go.Au.digits (q.take 60)) k (by omega))
      simp only [Nat.add_zero] at hc99
      refine T_yes rfl rfl rfl ?_ rfl
      refine T_loadG S89 hc99 rfl rfl rfl rfl rfl rfl rfl ?_
      refine T_yes rfl rfl rfl ?_ rfl
      refine T_pev rfl rfl rfl rfl ?_
      refine T_pev rfl rfl rfl rfl ?_
      refine T_re (v' := .bool (Go.Au.someLt (Go.Au.digits (q.take 60)) (Go.Au.digits (m.take 60)) (k + 1))) (by simp only [Go.Au.someLt]; simp [*]) ?_
      refine T_pev rfl rfl rfl rfl ?_
      refine T_pev rfl rfl rfl rfl ?_
      refine T_nil ?_
      refine W_region ?_
      refine T_ari rfl rfl rfl rfl (by omega) ?_
      refine T_pev rfl rfl rfl rfl ?_
      refine T_nil ?_
      exact ⟨67 - (k + 1), [(12, .slice a46 67 c47), (13, .slice a53 67 c54), (16, .bool (Go.Au.someLt (Go.Au.digits (m.take 60)) (Go.Au.digits (q.take 60)) (k + 1))), (17, .bool (Go.Au.someLt (Go.Au.digits (q.take 60)) (Go.Au.digits (m.take 60)) (k + 1))), (65, .int .i64 ((67 : Nat) : Int)), (66, .int .i64 ((k + 1 : Nat) : Int))], by omega, ⟨rfl, rfl, rfl, rfl, (congrArg (fun z => some (Value.int .i64 z)) (by omega)), (congrArg (fun z => some (Value.int .i64 z)) (by omega)), trivial⟩, k + 1, G83, rfl, (by omega), rfl, hl84, S89⟩
    have h90 := h90'
    refine T_yes rfl rfl rfl ?_ rfl
    refine T_pev rfl rfl rfl rfl ?_
    refine T_yes rfl rfl rfl ?_ rfl
    refine T_pev rfl rfl rfl rfl ?_
    refine T_yes rfl rfl rfl ?_ rfl
    refine T_idxR k (r63.mono (hl66.trans hl84)) rfl rfl rfl rfl rfl rfl rfl rfl rfl (by omega) (by omega) fun b100 o101 hc102 => ?_
    have hc103 := hc102 0 (.int .i64 ((Go.Au.digits (m.take 60)).getD k 0)) (at_i (Go.Au.digits (m.take 60)) k (by omega))
    simp only [Nat.add_zero] at hc103
    refine T_yes rfl rfl rfl ?_ rfl
    refine T_loadG S89 hc103 rfl rfl rfl rfl rfl rfl rfl ?_
    refine T_yes rfl rfl rfl ?_ rfl
    refine T_pev rfl rfl rfl rfl ?_
    refine T_yes rfl rfl rfl ?_ rfl
    refine T_pev rfl rfl rfl rfl ?_
    refine T_yes rfl rfl rfl ?_ rfl
    refine T_idxR k (r67.mono hl84) rfl rfl rfl rfl rfl rfl rfl rfl rfl (by omega) (by omega) fun b104 o105 hc106 => ?_
    have hc107 := hc106 0 (.int .i64 ((Go.Au.digits (q.take 60)).getD k 0)) (at_i (Go.Au.digits (q.take 60)) k (by omega))
    simp only [Nat.add_zero] at hc107
    refine T_yes rfl rfl rfl ?_ rfl
    refine T_loadG S89 hc107 rfl rfl rfl rfl rfl rfl rfl ?_
    refine T_yes rfl rfl rfl ?_ rfl
    refine T_pev rfl rfl rfl rfl ?_
    refine T_pev rfl rfl rfl rfl ?_
    refine T_re (v' := .bool (Go.Au.someLt (Go.Au.digits (m.take 60)) (Go.Au.digits (q.take 60)) (k + 1))) (by simp only [Go.Au.someLt]; simp [*]) ?_
    refine T_pev rfl rfl rfl rfl ?_
    refine T_pev rfl rfl rfl rfl ?_
    refine T_part (t := 86) rfl (List.cons_ne_nil _ _) (fun h108' => ?_) (fun h108' => ?_)
    · have h108 := h108'
      refine T_no rfl rfl rfl rfl rfl rfl ?_
      refine T_no rfl rfl rfl rfl rfl rfl ?_
      refine T_no rfl rfl rfl rfl rfl rfl ?_
      refine T_no rfl rfl rfl rfl rfl rfl ?_
      refine T_no rfl rfl rfl rfl rfl rfl ?_
      refine T_no rfl rfl rfl rfl rfl rfl ?_
      refine T_no rfl rfl rfl rfl rfl rfl ?_
      refine T_no rfl rfl rfl rfl rfl rfl ?_
      refine T_no rfl rfl rfl rfl rfl rfl ?_
      refine T_pev rfl rfl rfl rfl ?_
      refine T_re (v' := .bool (Go.Au.someLt (Go.Au.digits (q.take 60)) (Go.Au.digits (m.take 60)) (k + 1))) (by simp only [Go.Au.someLt]; simp [*]) ?_
      refine T_pev rfl rfl rfl rfl ?_
      refine T_pev rfl rfl rfl rfl ?_
      refine T_nil ?_
      refine W_region ?_
      refine T_ari rfl rfl rfl rfl (by omega) ?_
      refine T_pev rfl rfl rfl rfl ?_
      refine T_nil ?_
      exact ⟨67 - (k + 1), [(12, .slice a46 67 c47), (13, .slice a53 67 c54), (16, .bool (Go.Au.someLt (Go.Au.digits (m.take 60)) (Go.Au.digits (q.take 60)) (k + 1))), (17, .bool (Go.Au.someLt (Go.Au.digits (q.take 60)) (Go.Au.digits (m.take 60)) (k + 1))), (65, .int .i64 ((67 : Nat) : Int)), (66, .int .i64 ((k + 1 : Nat) : Int))], by omega, ⟨rfl, rfl, rfl, rfl, (congrArg (fun z => some (Value.int .i64 z)) (by omega)), (congrArg (fun z => some (Value.int .i64 z)) (by omega)), trivial⟩, k + 1, G83, rfl, (by omega), rfl, hl84, S89⟩
    have h108 := h108'
    refine T_yes rfl rfl rfl ?_ rfl
    refine T_pev rfl rfl rfl rfl ?_
    refine T_yes rfl rfl rfl ?_ rfl
    refine T_pev rfl rfl rfl rfl ?_
    refine T_yes rfl rfl rfl ?_ rfl
    refine T_idxR k (r63.mono (hl66.trans hl84)) rfl rfl rfl rfl rfl rfl rfl rfl rfl (by omega) (by omega) fun b109 o110 hc111 => ?_
    have hc112 := hc111 0 (.int .i64 ((Go.Au.digits (m.take 60)).getD k 0)) (at_i (Go.Au.digits (m.take 60)) k (by omega))
    simp only [Nat.add_zero] at hc112
    refine T_yes rfl rfl rfl ?_ rfl
    refine T_loadG S89 hc112 rfl rfl rfl rfl rfl rfl rfl ?_
    refine T_yes rfl rfl rfl ?_ rfl
    refine T_pev rfl rfl rfl rfl ?_
    refine T_yes rfl rfl rfl ?_ rfl
    refine T_pev rfl rfl rfl rfl ?_
    refine T_yes rfl rfl rfl ?_ rfl
    refine T_idxR k (r67.mono hl84) rfl rfl rfl rfl rfl rfl rfl rfl rfl (by omega) (by omega) fun b113 o114 hc115 => ?_
    have hc116 := hc115 0 (.int .i64 ((Go.Au.digits (q.take 60)).getD k 0)) (at_i (Go.Au.digits (q.take 60)) k (by omega))
    simp only [Nat.add_zero] at hc116
    refine T_yes rfl rfl rfl ?_ rfl
    refine T_loadG S89 hc116 rfl rfl rfl rfl rfl rfl rfl ?_
    refine T_yes rfl rfl rfl ?_ rfl
    refine T_pev rfl rfl rfl rfl ?_
    refine T_pev rfl rfl rfl rfl ?_
    refine T_re (v' := .bool (Go.Au.someLt (Go.Au.digits (q.take 60)) (Go.Au.digits (m.take 60)) (k + 1))) (by simp only [Go.Au.someLt]; simp [*]) ?_
    refine T_pev rfl rfl rfl rfl ?_
    refine T_pev rfl rfl rfl rfl ?_
    refine T_nil ?_
    refine W_region ?_
    refine T_ari rfl rfl rfl rfl (by omega) ?_
    refine T_pev rfl rfl rfl rfl ?_
    refine T_nil ?_
    exact ⟨67 - (k + 1), [(12, .slice a46 67 c47), (13, .slice a53 67 c54), (16, .bool (Go.Au.someLt (Go.Au.digits (m.take 60)) (Go.Au.digits (q.take 60)) (k + 1))), (17, .bool (Go.Au.someLt (Go.Au.digits (q.take 60)) (Go.Au.digits (m.take 60)) (k + 1))), (65, .int .i64 ((67 : Nat) : Int)), (66, .int .i64 ((k + 1 : Nat) : Int))], by omega, ⟨rfl, rfl, rfl, rfl, (congrArg (fun z => some (Value.int .i64 z)) (by omega)), (congrArg (fun z => some (Value.int .i64 z)) (by omega)), trivial⟩, k + 1, G83, rfl, (by omega), rfl, hl84, S89⟩
  refine W_exit ?_
  refine W_seq ?_
  refine W_region ?_
  refine T_pev rfl rfl rfl rfl ?_
  refine T_pev rfl rfl rfl rfl ?_
  refine T_bool 99 true rfl (someLt_of (by omega) h71) ?_
  refine T_yes rfl rfl rfl ?_ rfl
  refine T_pev rfl rfl rfl rfl ?_
  refine T_pev rfl rfl rfl rfl ?_
  refine T_pev rfl rfl rfl rfl ?_
  refine T_bool 102 true rfl (someLt_of (by omega) (fun e => h71 e.symm)) ?_
  refine T_yes rfl rfl rfl ?_ rfl
  refine T_callS rfl rfl g_aumbry_aumbrylaw08_wakes rfl rfl rfl rfl ((wakes_ok S86.le (hT.mono (hl27.trans (hl40.trans (hl62.trans (hl66.trans hl84)))))).mono ?_)
  rintro e w118 ⟨rfl, hB117⟩
  have S119 := S86.call hB117
  refine ⟨_, rfl, trivial, ?_⟩
  refine T_pev rfl rfl rfl rfl ?_
  refine T_pev rfl rfl rfl rfl ?_
  refine T_nil ?_
  refine W_ret ?_
  refine ⟨_, ⟨_, _, rfl, rfl, rfl⟩, ?_⟩
  exact ⟨rfl, S119.below⟩


theorem wotsRecovers_ok {H : Hp} {w : World} (hH : H.le (hw w)) (hT : Tabs H) {m : List UInt8} {aa0 : Option Addr} {nn0 cc0 : Nat} (hv : Rd H (.slice aa0 nn0 cc0) nn0 1 (m.map bV)) {v : List (List UInt8)} {aa1 : Option Addr} {nn1 cc1 : Nat} (hx : RdH H (.slice aa1 nn1 cc1) 32 v) (b : Bool) :
    Calls Tryd.prog 8 #[.slice aa0 nn0 cc0, .slice aa1 nn1 cc1, .bool b] w fun e w' => e = .returned (.bool true) ∧ Below w.heap.size w w' := by
  cases b
  · by_cases hn : (v.take 70).length = 67
    · exact wotsRecovers_f hH hT hv hx hn
    · exact wotsRecovers_n hH hT hv hx hn
  · exact wotsRecovers_t hH hT hv hx
end Go.Proofs.YthfdnnjlnipikaaDoor
