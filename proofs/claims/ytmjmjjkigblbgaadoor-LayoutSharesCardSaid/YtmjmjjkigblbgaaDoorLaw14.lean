/- The statements of chapter 14, walked: layouts and versions. -/
import Derived.Test.YtmjmjjkigblbgaaDoorLayC
set_option linter.unusedVariables false
set_option linter.unusedSimpArgs false
set_option maxRecDepth 8192
namespace Go.Proofs.YtmjmjjkigblbgaaDoor
open Go Go.F Go.RowKit

theorem ueb_nil : ¬ Go.Au.UebOk [] := fun h => absurd (h.1.1 0 (by decide)).1 (by decide)
theorem ueb_tag : (Go.Au.tagged [117, 101, 98] [[]]).take 4 = [65, 92, 97, 191] := by kernel_rfl
theorem ueb_zero : ¬ Go.Au.tagged [117, 101, 98] [[]] = List.replicate 32 0 := by
  intro h
  have := ueb_tag
  rw [h] at this
  exact absurd this (by decide)
theorem wakes_ok {H : Hp} {w : World} (hH : H.le (hw w)) (hT : Tabs H) :
    Calls Tryd.prog 17 #[] w fun e w' => e = .returned (.bool true) ∧ Below w.heap.size w w' := by
  refine enter0 _ Tryd.func17 rfl Tryd.ntmps17 Tryd.results17 ?_
  have S0 := St.start w hH
  refine W_seq ?_
  refine W_region ?_
  refine T_pev rfl rfl rfl rfl ?_
  refine T_nil ?_
  refine W_seq ?_
  refine W_region ?_
  refine T_callS rfl rfl g_aumbry_layout_Unpack rfl rfl rfl rfl ((unpackU_ok S0.le hT (nilB _) (by first | omega | decide)).mono ?_)
  rintro e w2 ⟨rfl, hB1⟩
  have S3 := S0.call hB1
  refine ⟨_, rfl, trivial, ?_⟩
  refine T_pev rfl rfl rfl rfl ?_
  refine T_pev rfl rfl rfl rfl ?_
  refine T_pev rfl rfl rfl rfl ?_
  refine T_allocS S3 (fun _ _ => trivial) rfl rfl rfl rfl rfl rfl rfl fun b4 w5 S6 => ?_
  refine T_storeFS 0 S6 (fun _ _ => trivial) rfl rfl rfl rfl rfl rfl rfl rfl rfl (qV_sz (q_len (Go.Au.uH4 _) (Go.Au.uH5 _) rfl)) (qV_sz (q_len (Go.Au.uH4 _) (Go.Au.uH5 _) rfl)) (qV_one) fun w7 S8 => ?_
  refine T_pev rfl rfl rfl rfl ?_
  refine T_nil ?_
  refine W_seq ?_
  refine W_region ?_
  refine T_pev rfl rfl rfl rfl ?_
  refine T_pev rfl rfl rfl rfl ?_
  refine T_pev rfl rfl rfl rfl ?_
  refine T_bool 9 true rfl (ndec_t ueb_nil) ?_
  refine T_yes rfl rfl rfl ?_ rfl
  refine T_callS rfl rfl g_aumbry_layout_Print rfl rfl rfl rfl ((print_ok S8.le hT (nilB _) (by first | omega | decide)).mono ?_)
  rintro e w10 ⟨rfl, hB9⟩
  have S11 := S8.call hB9
  refine ⟨_, rfl, trivial, ?_⟩
  refine T_yes rfl rfl rfl ?_ rfl
  refine T_buildA (cells := (hV (List.replicate 32 0)).cells) rfl rfl rfl rfl rfl rfl rfl rfl rfl rfl ?_
  refine T_yes rfl rfl rfl ?_ rfl
  refine T_neB (xs := Go.Au.tagged [117, 101, 98] [([] : List UInt8)]) (ys := (List.replicate 32 0)) rfl rfl rfl rfl rfl rfl rfl rfl rfl rfl rfl (Go.Au.tagged_len _ _) List.length_replicate ?_
  refine T_re (v' := .bool true) (congrArg Value.bool (ndec_t ueb_zero)) ?_
  refine T_pev rfl rfl rfl rfl ?_
  refine T_pev rfl rfl rfl rfl ?_
  refine T_nil ?_
  refine W_ret ?_
  refine ⟨_, ⟨_, _, rfl, rfl, rfl⟩, ?_⟩
  exact ⟨rfl, S11.below⟩


theorem layoutUebs_ok {H : Hp} {w : World} (hH : H.le (hw w)) (hT : Tabs H) (p q r u : Int) {s t : List UInt8} (hs : s.length = 32) (ht : t.length = 32) (ha : p ≤ 9223372036854775807) (hb : q ≤ 9223372036854775807) (hc : r ≤ 9223372036854775807) (hd : u ≤ 9223372036854775807) {b : List UInt8} {aa1 : Option Addr} {nn1 cc1 : Nat} (hv : Rd H (.slice aa1 nn1 cc1) nn1 1 (b.map bV)) :
    Calls Tryd.prog 3 #[qV p q r u s t, .slice aa1 nn1 cc1] w fun e w' => e = .returned (.bool true) ∧ Below w.heap.size w w' := by
  obtain rfl : nn1 = b.length := hv.lenB
  have hvcap : b.length ≤ cc1 := hv.capOf
  have hb20 : (b.take 200).length ≤ 200 := by rw [List.length_take]; omega
  refine enter2 _ Tryd.func3 rfl Tryd.ntmps3 Tryd.results3 rfl ?_
  have S0 := St.start w hH
  refine W_seq ?_
  refine W_region ?_
  refine T_boxS S0 (fun _ _ => trivial) rfl rfl rfl rfl rfl rfl fun b1 w2 S3 => ?_
  refine T_pev rfl rfl rfl rfl ?_
  refine T_nil ?_
  refine W_seq ?_
  refine W_region ?_
  refine T_pev rfl rfl rfl rfl ?_
  refine T_callS rfl rfl g_aumbry_aumbrykeep_Cut_byte rfl rfl rfl rfl ((cutB_ok S3.le hv 200).mono ?_)
  rintro e w9 ⟨a4, c5, hc6, rfl, hr7, hB8⟩
  have S10 := S3.call hB8
  refine ⟨_, rfl, trivial, ?_⟩
  refine T_pev rfl rfl rfl rfl ?_
  refine T_nil ?_
  refine W_seq ?_
  refine W_region ?_
  refine T_pev rfl rfl rfl rfl ?_
  refine T_callS rfl rfl g_aumbry_layout_Unpack rfl rfl rfl rfl ((unpackU_ok S10.le hT hr7 (by first | omega | decide)).mono ?_)
  rintro e w12 ⟨rfl, hB11⟩
  have S13 := S10.call hB11
  refine ⟨_, rfl, trivial, ?_⟩
  refine T_pev rfl rfl rfl rfl ?_
  refine T_pev rfl rfl rfl rfl ?_
  refine T_pev rfl rfl rfl rfl ?_
  refine T_allocS S13 (fun _ _ => trivial) rfl rfl rfl rfl rfl rfl rfl fun b14 w15 S16 => ?_
  refine T_storeFS 0 S16 (fun _ _ => trivial) rfl rfl rfl rfl rfl rfl rfl rfl rfl (qV_sz (q_len (Go.Au.uH4 _) (Go.Au.uH5 _) rfl)) (qV_sz (q_len (Go.Au.uH4 _) (Go.Au.uH5 _) rfl)) (qV_one) fun w17 S18 => ?_
  refine T_pev rfl rfl rfl rfl ?_
  refine T_nil ?_
  refine W_seq ?_
  refine W_region ?_
  refine T_pev rfl rfl rfl rfl ?_
  refine T_callS rfl rfl g_aumbry_aumbryref13_Unpack rfl rfl rfl rfl ((unpackUR_ok S18.le hr7 (by first | omega | decide)).mono ?_)
  rintro e w20 ⟨rfl, hB19⟩
  have S21 := S18.call hB19
  refine ⟨_, rfl, trivial, ?_⟩
  refine T_pev rfl rfl rfl rfl ?_
  refine T_pev rfl rfl rfl rfl ?_
  refine T_pev rfl rfl rfl rfl ?_
  refine T_allocS S21 (fun _ _ => trivial) rfl rfl rfl rfl rfl rfl rfl fun b22 w23 S24 => ?_
  refine T_storeFS 0 S24 (fun _ _ => trivial) rfl rfl rfl rfl rfl rfl rfl rfl rfl (qV_sz (q_len (Go.Au.uH4 _) (Go.Au.uH5 _) rfl)) (qV_sz (q_len (Go.Au.uH4 _) (Go.Au.uH5 _) rfl)) (qV_one) fun w25 S26 => ?_
  refine T_pev rfl rfl rfl rfl ?_
  refine T_nil ?_
  refine W_seq ?_
  refine W_region ?_
  refine T_loadFS 2 S26 rfl rfl rfl rfl rfl rfl rfl rfl rfl (qV_sz (q_len hs ht rfl)) ?_
  refine T_callS rfl rfl g_aumbry_layout_Pack rfl rfl rfl rfl ((packU_ok S26.le hT p q r u (s := s) (t := t) hs ht (by omega) (by omega) (by omega) (by omega)).mono ?_)
  rintro e w32 ⟨a27, c28, hc29, rfl, ho30, hB31⟩
  have hl33 := Go.Au.packU_len p q r u (s := s) (t := t) (by have := hs; omega) (by have := ht; omega)
  have S34 := S26.own hB31 ho30
  refine ⟨_, rfl, trivial, ?_⟩
  refine T_pev rfl rfl rfl rfl ?_
  refine T_nil ?_
  refine W_seq ?_
  refine W_region ?_
  refine T_pev rfl rfl rfl rfl ?_
  obtain ⟨G36, hl37, S35, r38⟩ := S34.stillRow 0 rfl
  refine T_callS rfl rfl g_aumbry_layout_Unpack rfl rfl rfl rfl ((unpackU_ok S35.le (hT.mono hl37) r38 (by first | omega | decide)).mono ?_)
  rintro e w40 ⟨rfl, hB39⟩
  have S41 := S35.call hB39
  refine ⟨_, rfl, trivial, ?_⟩
  refine T_pev rfl rfl rfl rfl ?_
  refine T_pev rfl rfl rfl rfl ?_
  refine T_pev rfl rfl rfl rfl ?_
  refine T_allocS S41 (fun _ _ => trivial) rfl rfl rfl rfl rfl rfl rfl fun b42 w43 S44 => ?_
  refine T_storeFS 0 S44 (fun _ _ => trivial) rfl rfl rfl rfl rfl rfl rfl rfl rfl (qV_sz (q_len (Go.Au.uH4 _) (Go.Au.uH5 _) rfl)) (qV_sz (q_len (Go.Au.uH4 _) (Go.Au.uH5 _) rfl)) (qV_one) fun w45 S46 => ?_
  refine T_pev rfl rfl rfl rfl ?_
  refine T_nil ?_
  refine W_seq ?_
  refine W_region ?_
  refine T_pev rfl rfl rfl rfl ?_
  refine T_callS rfl rfl g_aumbry_aumbryref13_Unpack rfl rfl rfl rfl ((unpackUR_ok S46.le r38 (by first | omega | decide)).mono ?_)
  rintro e w48 ⟨rfl, hB47⟩
  have S49 := S46.call hB47
  refine ⟨_, rfl, trivial, ?_⟩
  refine T_pev rfl rfl rfl rfl ?_
  refine T_pev rfl rfl rfl rfl ?_
  refine T_pev rfl rfl rfl rfl ?_
  refine T_allocS S49 (fun _ _ => trivial) rfl rfl rfl rfl rfl rfl rfl fun b50 w51 S52 => ?_
  refine T_storeFS 0 S52 (fun _ _ => trivial) rfl rfl rfl rfl rfl rfl rfl rfl rfl (qV_sz (q_len (Go.Au.uH4 _) (Go.Au.uH5 _) rfl)) (qV_sz (q_len (Go.Au.uH4 _) (Go.Au.uH5 _) rfl)) (qV_one) fun w53 S54 => ?_
  refine T_pev rfl rfl rfl rfl ?_
  refine T_nil ?_
  refine W_seq ?_
  refine W_region ?_
  refine T_pev rfl rfl rfl rfl ?_
  refine T_loadFS 4 S54 rfl rfl rfl rfl rfl rfl rfl rfl rfl (qV_sz (q_len hs ht rfl)) ?_
  refine T_callS rfl rfl g_aumbry_aumbryref13_Pack rfl rfl rfl rfl ((packUR_ok S54.le p q r u (s := s) (t := t) hs ht (by omega) (by omega) (by omega) (by omega)).mono ?_)
  rintro e w60 ⟨a55, c56, hc57, rfl, ho58, hB59⟩
  have hl61 := Go.Au.packU_len p q r u (s := s) (t := t) (by have := hs; omega) (by have := ht; omega)
  have S62 := S54.own hB59 ho58
  refine ⟨_, rfl, trivial, ?_⟩
  obtain ⟨G64, hl65, S63, r66⟩ := S62.stillRow 0 rfl
  refine T_callS rfl rfl g_aumbry_aumbrykeep_Same_byte rfl rfl rfl rfl ((sameB_ok S63.le (r38.mono hl65) r66 (by first | omega | (simp; done) | (simp only [List.length_take, List.length_drop]; omega))).mono ?_)
  rintro e w68 ⟨rfl, hB67⟩
  have S69 := S63.call hB67
  refine ⟨_, rfl, trivial, ?_⟩
  refine T_pev rfl rfl rfl rfl ?_
  refine T_bool 42 true rfl (decide_eq_true (by first | rfl | omega | exact ⟨rfl, rfl, rfl, rfl, rfl, rfl⟩)) ?_
  refine T_yes rfl rfl rfl ?_ rfl
  refine T_pev rfl rfl rfl rfl ?_
  refine T_yes rfl rfl rfl ?_ rfl
  refine T_pev rfl rfl rfl rfl ?_
  refine T_yes rfl rfl rfl ?_ rfl
  refine T_beq rfl rfl rfl rfl rfl rfl rfl ?_
  refine T_pev rfl rfl rfl rfl ?_
  refine T_pev rfl rfl rfl rfl ?_
  refine T_bool 47 true rfl (decide_eq_true (by first | rfl | omega | exact ⟨rfl, rfl, rfl, rfl, rfl, rfl⟩)) ?_
  refine T_yes rfl rfl rfl ?_ rfl
  refine T_loadFS 3 S69 rfl rfl rfl rfl rfl rfl rfl rfl rfl (qV_sz (q_len (Go.Au.uH4 _) (Go.Au.uH5 _) rfl)) ?_
  refine T_yes rfl rfl rfl ?_ rfl
  refine T_loadFS 2 S69 rfl rfl rfl rfl rfl rfl rfl rfl rfl (qV_sz (q_len (Go.Au.uH4 _) (Go.Au.uH5 _) rfl)) ?_
  refine T_yes rfl rfl rfl ?_ rfl
  refine T_eqQ rfl rfl rfl rfl (by kernel_rfl) rfl rfl rfl rfl rfl rfl rfl rfl rfl rfl rfl rfl rfl rfl rfl rfl rfl rfl rfl (by kernel_rfl) (by kernel_rfl) rfl rfl rfl (Go.Au.uH4 _) (Go.Au.uH4 _) (Go.Au.uH5 _) (Go.Au.uH5 _) ?_
  refine T_pev rfl rfl rfl rfl ?_
  refine T_pev rfl rfl rfl rfl ?_
  refine T_bool 52 true rfl (decide_eq_true (by first | rfl | omega | exact ⟨rfl, rfl, rfl, rfl, rfl, rfl⟩)) ?_
  refine T_yes rfl rfl rfl ?_ rfl
  refine T_pev rfl rfl rfl rfl ?_
  refine T_yes rfl rfl rfl ?_ rfl
  refine T_pev rfl rfl rfl rfl ?_
  refine T_yes rfl rfl rfl ?_ rfl
  refine T_beq rfl rfl rfl rfl rfl rfl rfl ?_
  refine T_pev rfl rfl rfl rfl ?_
  refine T_pev rfl rfl rfl rfl ?_
  refine T_bool 57 true rfl (decide_eq_true (by first | rfl | omega | exact ⟨rfl, rfl, rfl, rfl, rfl, rfl⟩)) ?_
  refine T_yes rfl rfl rfl ?_ rfl
  refine T_loadFS 1 S69 rfl rfl rfl rfl rfl rfl rfl rfl rfl (qV_sz (q_len (Go.Au.uH4 _) (Go.Au.uH5 _) rfl)) ?_
  refine T_yes rfl rfl rfl ?_ rfl
  refine T_loadFS 0 S69 rfl rfl rfl rfl rfl rfl rfl rfl rfl (qV_sz (q_len (Go.Au.uH4 _) (Go.Au.uH5 _) rfl)) ?_
  refine T_yes rfl rfl rfl ?_ rfl
  refine T_eqQ rfl rfl rfl rfl (by kernel_rfl) rfl rfl rfl rfl rfl rfl rfl rfl rfl rfl rfl rfl rfl rfl rfl rfl rfl rfl rfl (by kernel_rfl) (by kernel_rfl) rfl rfl rfl (Go.Au.uH4 _) (Go.Au.uH4 _) (Go.Au.uH5 _) (Go.Au.uH5 _) ?_
  refine T_pev rfl rfl rfl rfl ?_
  refine T_pev rfl rfl rfl rfl ?_
  refine T_bool 62 true rfl (decide_eq_true (by first | rfl | omega | exact ⟨rfl, rfl, rfl, rfl, rfl, rfl⟩)) ?_
  refine T_yes rfl rfl rfl ?_ rfl
  refine T_pev rfl rfl rfl rfl ?_
  refine T_yes rfl rfl rfl ?_ rfl
  refine T_callS rfl rfl g_aumbry_layout_Print rfl rfl rfl rfl ((print_ok S69.le (hT.mono (hl37.trans hl65)) (hr7.mono (hl37.trans hl65)) (by first | omega | decide)).mono ?_)
  rintro e w71 ⟨rfl, hB70⟩
  have S72 := S69.call hB70
  refine ⟨_, rfl, trivial, ?_⟩
  refine T_yes rfl rfl rfl ?_ rfl
  refine T_pev rfl rfl rfl rfl ?_
  refine T_yes rfl rfl rfl ?_ rfl
  refine T_callS rfl rfl g_aumbry_aumbryref13_PrintUeb rfl rfl rfl rfl ((printR_ok S72.le (hr7.mono (hl37.trans hl65)) (by first | omega | decide)).mono ?_)
  rintro e w74 ⟨rfl, hB73⟩
  have S75 := S72.call hB73
  refine ⟨_, rfl, trivial, ?_⟩
  refine T_yes rfl rfl rfl ?_ rfl
  refine T_eqB (xs := Go.Au.tagged [117, 101, 98] [(b.take 200)]) (ys := Go.Au.tagged [117, 101, 98] [(b.take 200)]) rfl rfl rfl rfl rfl rfl rfl rfl rfl rfl rfl (Go.Au.tagged_len _ _) (Go.Au.tagged_len _ _) ?_
  refine T_pev rfl rfl rfl rfl ?_
  refine T_pev rfl rfl rfl rfl ?_
  refine T_bool 69 true rfl (decide_eq_true (by first | rfl | omega | exact ⟨rfl, rfl, rfl, rfl, rfl, rfl⟩)) ?_
  refine T_yes rfl rfl rfl ?_ rfl
  refine T_callS rfl rfl g_aumbry_aumbrylaw14_wakes rfl rfl rfl rfl ((wakes_ok S75.le (hT.mono (hl37.trans hl65))).mono ?_)
  rintro e w77 ⟨rfl, hB76⟩
  have S78 := S75.call hB76
  refine ⟨_, rfl, trivial, ?_⟩
  refine T_pev rfl rfl rfl rfl ?_
  refine T_pev rfl rfl rfl rfl ?_
  refine T_nil ?_
  refine W_ret ?_
  refine ⟨_, ⟨_, _, rfl, rfl, rfl⟩, ?_⟩
  exact ⟨rfl, S78.below⟩


theorem layoutVersions_ok {H : Hp} {w : World} (hH : H.le (hw w)) (hT : Tabs H) (p q r u : Int) {s t : List UInt8} (hs : s.length = 16) (ht : t.length = 32) (ha : p ≤ 9223372036854775807) (hb : q ≤ 9223372036854775807) (hc : r ≤ 9223372036854775807) (hd : u ≤ 9223372036854775807) {b : List UInt8} {aa1 : Option Addr} {nn1 cc1 : Nat} (hv : Rd H (.slice aa1 nn1 cc1) nn1 1 (b.map bV)) :
    Calls Tryd.prog 5 #[qV p q r u s t, .slice aa1 nn1 cc1] w fun e w' => e = .returned (.bool true) ∧ Below w.heap.size w w' := by
  obtain rfl : nn1 = b.length := hv.lenB
  have hvcap : b.length ≤ cc1 := hv.capOf
  have hb20 : (b.take 200).length ≤ 200 := by rw [List.length_take]; omega
  refine enter2 _ Tryd.func5 rfl Tryd.ntmps5 Tryd.results5 rfl ?_
  have S0 := St.start w hH
  refine W_seq ?_
  refine W_region ?_
  refine T_boxS S0 (fun _ _ => trivial) rfl rfl rfl rfl rfl rfl fun b1 w2 S3 => ?_
  refine T_pev rfl rfl rfl rfl ?_
  refine T_nil ?_
  refine W_seq ?_
  refine W_region ?_
  refine T_pev rfl rfl rfl rfl ?_
  refine T_callS rfl rfl g_aumbry_aumbrykeep_Cut_byte rfl rfl rfl rfl ((cutB_ok S3.le hv 200).mono ?_)
  rintro e w9 ⟨a4, c5, hc6, rfl, hr7, hB8⟩
  have S10 := S3.call hB8
  refine ⟨_, rfl, trivial, ?_⟩
  refine T_pev rfl rfl rfl rfl ?_
  refine T_nil ?_
  refine W_seq ?_
  refine W_region ?_
  refine T_pev rfl rfl rfl rfl ?_
  refine T_callS rfl rfl g_aumbry_layout_UnpackVersion rfl rfl rfl rfl ((unpackV_ok S10.le hT hr7 (by first | omega | decide)).mono ?_)
  rintro e w12 ⟨rfl, hB11⟩
  have S13 := S10.call hB11
  refine ⟨_, rfl, trivial, ?_⟩
  refine T_pev rfl rfl rfl rfl ?_
  refine T_pev rfl rfl rfl rfl ?_
  refine T_pev rfl rfl rfl rfl ?_
  refine T_allocS S13 (fun _ _ => trivial) rfl rfl rfl rfl rfl rfl rfl fun b14 w15 S16 => ?_
  refine T_storeFS 0 S16 (fun _ _ => trivial) rfl rfl rfl rfl rfl rfl rfl rfl rfl (qV_sz (q_len (Go.Au.vS_len _) (Go.Au.vR_len _) rfl)) (qV_sz (q_len (Go.Au.vS_len _) (Go.Au.vR_len _) rfl)) (qV_one) fun w17 S18 => ?_
  refine T_pev rfl rfl rfl rfl ?_
  refine T_nil ?_
  refine W_seq ?_
  refine W_region ?_
  refine T_pev rfl rfl rfl rfl ?_
  refine T_callS rfl rfl g_aumbry_aumbryref13_UnpackVersion rfl rfl rfl rfl ((unpackVR_ok S18.le hr7 (by first | omega | decide)).mono ?_)
  rintro e w20 ⟨rfl, hB19⟩
  have S21 := S18.call hB19
  refine ⟨_, rfl, trivial, ?_⟩
  refine T_pev rfl rfl rfl rfl ?_
  refine T_pev rfl rfl rfl rfl ?_
  refine T_pev rfl rfl rfl rfl ?_
  refine T_allocS S21 (fun _ _ => trivial) rfl rfl rfl rfl rfl rfl rfl fun b22 w23 S24 => ?_
  refine T_storeFS 0 S24 (fun _ _ => trivial) rfl rfl rfl rfl rfl rfl rfl rfl rfl (qV_sz (q_len (Go.Au.vS_len _) (Go.Au.vR_len _) rfl)) (qV_sz (q_len (Go.Au.vS_len _) (Go.Au.vR_len _) rfl)) (qV_one) fun w25 S26 => ?_
  refine T_pev rfl rfl rfl rfl ?_
  refine T_nil ?_
  refine W_seq ?_
  refine W_region ?_
  refine T_loadFS 2 S26 rfl rfl rfl rfl rfl rfl rfl rfl rfl (qV_sz (q_len hs ht rfl)) ?_
  refine T_callS rfl rfl g_aumbry_layout_PackVersion rfl rfl rfl rfl ((packV_ok S26.le hT p q r u (s := s) (t := t) hs ht (by omega) (by omega) (by omega) (by omega)).mono ?_)
  rintro e w32 ⟨a27, c28, hc29, rfl, ho30, hB31⟩
  have hl33 := Go.Au.packV_len p q r u (s := s) (t := t) (by have := hs; omega) (by have := ht; omega)
  have S34 := S26.own hB31 ho30
  refine ⟨_, rfl, trivial, ?_⟩
  refine T_pev rfl rfl rfl rfl ?_
  refine T_nil ?_
  refine W_seq ?_
  refine W_region ?_
  refine T_pev rfl rfl rfl rfl ?_
  obtain ⟨G36, hl37, S35, r38⟩ := S34.stillRow 0 rfl
  refine T_callS rfl rfl g_aumbry_layout_UnpackVersion rfl rfl rfl rfl ((unpackV_ok S35.le (hT.mono hl37) r38 (by first | omega | decide)).mono ?_)
  rintro e w40 ⟨rfl, hB39⟩
  have S41 := S35.call hB39
  refine ⟨_, rfl, trivial, ?_⟩
  refine T_pev rfl rfl rfl rfl ?_
  refine T_pev rfl rfl rfl rfl ?_
  refine T_pev rfl rfl rfl rfl ?_
  refine T_allocS S41 (fun _ _ => trivial) rfl rfl rfl rfl rfl rfl rfl fun b42 w43 S44 => ?_
  refine T_storeFS 0 S44 (fun _ _ => trivial) rfl rfl rfl rfl rfl rfl rfl rfl rfl (qV_sz (q_len (Go.Au.vS_len _) (Go.Au.vR_len _) rfl)) (qV_sz (q_len (Go.Au.vS_len _) (Go.Au.vR_len _) rfl)) (qV_one) fun w45 S46 => ?_
  refine T_pev rfl rfl rfl rfl ?_
  refine T_nil ?_
  refine W_seq ?_
  refine W_region ?_
  refine T_pev rfl rfl rfl rfl ?_
  refine T_callS rfl rfl g_aumbry_aumbryref13_UnpackVersion rfl rfl rfl rfl ((unpackVR_ok S46.le r38 (by first | omega | decide)).mono ?_)
  rintro e w48 ⟨rfl, hB47⟩
  have S49 := S46.call hB47
  refine ⟨_, rfl, trivial, ?_⟩
  refine T_pev rfl rfl rfl rfl ?_
  refine T_pev rfl rfl rfl rfl ?_
  refine T_pev rfl rfl rfl rfl ?_
  refine T_allocS S49 (fun _ _ => trivial) rfl rfl rfl rfl rfl rfl rfl fun b50 w51 S52 => ?_
  refine T_storeFS 0 S52 (fun _ _ => trivial) rfl rfl rfl rfl rfl rfl rfl rfl rfl (qV_sz (q_len (Go.Au.vS_len _) (Go.Au.vR_len _) rfl)) (qV_sz (q_len (Go.Au.vS_len _) (Go.Au.vR_len _) rfl)) (qV_one) fun w53 S54 => ?_
  refine T_pev rfl rfl rfl rfl ?_
  refine T_nil ?_
  refine W_seq ?_
  refine W_region ?_
  refine T_pev rfl rfl rfl rfl ?_
  refine T_loadFS 4 S54 rfl rfl rfl rfl rfl rfl rfl rfl rfl (qV_sz (q_len hs ht rfl)) ?_
  refine T_callS rfl rfl g_aumbry_aumbryref13_PackVersion rfl rfl rfl rfl ((packVR_ok S54.le p q r u (s := s) (t := t) hs ht (by omega) (by omega) (by omega) (by omega)).mono ?_)
  rintro e w60 ⟨a55, c56, hc57, rfl, ho58, hB59⟩
  have hl61 := Go.Au.packV_len p q r u (s := s) (t := t) (by have := hs; omega) (by have := ht; omega)
  have S62 := S54.own hB59 ho58
  refine ⟨_, rfl, trivial, ?_⟩
  obtain ⟨G64, hl65, S63, r66⟩ := S62.stillRow 0 rfl
  refine T_callS rfl rfl g_aumbry_aumbrykeep_Same_byte rfl rfl rfl rfl ((sameB_ok S63.le (r38.mono hl65) r66 (by first | omega | (simp; done) | (simp only [List.length_take, List.length_drop]; omega))).mono ?_)
  rintro e w68 ⟨rfl, hB67⟩
  have S69 := S63.call hB67
  refine ⟨_, rfl, trivial, ?_⟩
  refine T_pev rfl rfl rfl rfl ?_
  refine T_bool 42 true rfl (decide_eq_true (by first | rfl | omega | exact ⟨rfl, rfl, rfl, rfl, rfl, rfl⟩)) ?_
  refine T_yes rfl rfl rfl ?_ rfl
  refine T_pev rfl rfl rfl rfl ?_
  refine T_yes rfl rfl rfl ?_ rfl
  refine T_pev rfl rfl rfl rfl ?_
  refine T_yes rfl rfl rfl ?_ rfl
  refine T_beq rfl rfl rfl rfl rfl rfl rfl ?_
  refine T_pev rfl rfl rfl rfl ?_
  refine T_pev rfl rfl rfl rfl ?_
  refine T_bool 47 true rfl (decide_eq_true (by first | rfl | omega | exact ⟨rfl, rfl, rfl, rfl, rfl, rfl⟩)) ?_
  refine T_yes rfl rfl rfl ?_ rfl
  refine T_loadFS 3 S69 rfl rfl rfl rfl rfl rfl rfl rfl rfl (qV_sz (q_len (Go.Au.vS_len _) (Go.Au.vR_len _) rfl)) ?_
  refine T_yes rfl rfl rfl ?_ rfl
  refine T_loadFS 2 S69 rfl rfl rfl rfl rfl rfl rfl rfl rfl (qV_sz (q_len (Go.Au.vS_len _) (Go.Au.vR_len _) rfl)) ?_
  refine T_yes rfl rfl rfl ?_ rfl
  refine T_eqQ rfl rfl rfl rfl (by kernel_rfl) rfl rfl rfl rfl rfl rfl rfl rfl rfl rfl rfl rfl rfl rfl rfl rfl rfl rfl rfl (by kernel_rfl) (by kernel_rfl) rfl rfl rfl (Go.Au.vS_len _) (Go.Au.vS_len _) (Go.Au.vR_len _) (Go.Au.vR_len _) ?_
  refine T_pev rfl rfl rfl rfl ?_
  refine T_pev rfl rfl rfl rfl ?_
  refine T_bool 52 true rfl (decide_eq_true (by first | rfl | omega | exact ⟨rfl, rfl, rfl, rfl, rfl, rfl⟩)) ?_
  refine T_yes rfl rfl rfl ?_ rfl
  refine T_pev rfl rfl rfl rfl ?_
  refine T_yes rfl rfl rfl ?_ rfl
  refine T_pev rfl rfl rfl rfl ?_
  refine T_yes rfl rfl rfl ?_ rfl
  refine T_beq rfl rfl rfl rfl rfl rfl rfl ?_
  refine T_pev rfl rfl rfl rfl ?_
  refine T_pev rfl rfl rfl rfl ?_
  refine T_bool 57 true rfl (decide_eq_true (by first | rfl | omega | exact ⟨rfl, rfl, rfl, rfl, rfl, rfl⟩)) ?_
  refine T_yes rfl rfl rfl ?_ rfl
  refine T_loadFS 1 S69 rfl rfl rfl rfl rfl rfl rfl rfl rfl (qV_sz (q_len (Go.Au.vS_len _) (Go.Au.vR_len _) rfl)) ?_
  refine T_yes rfl rfl rfl ?_ rfl
  refine T_loadFS 0 S69 rfl rfl rfl rfl rfl rfl rfl rfl rfl (qV_sz (q_len (Go.Au.vS_len _) (Go.Au.vR_len _) rfl)) ?_
  refine T_yes rfl rfl rfl ?_ rfl
  refine T_eqQ rfl rfl rfl rfl (by kernel_rfl) rfl rfl rfl rfl rfl rfl rfl rfl rfl rfl rfl rfl rfl rfl rfl rfl rfl rfl rfl (by kernel_rfl) (by kernel_rfl) rfl rfl rfl (Go.Au.vS_len _) (Go.Au.vS_len _) (Go.Au.vR_len _) (Go.Au.vR_len _) ?_
  refine T_pev rfl rfl rfl rfl ?_
  refine T_pev rfl rfl rfl rfl ?_
  refine T_bool 62 true rfl (decide_eq_true (by first | rfl | omega | exact ⟨rfl, rfl, rfl, rfl, rfl, rfl⟩)) ?_
  refine T_yes rfl rfl rfl ?_ rfl
  refine T_callS rfl rfl g_aumbry_aumbrylaw14_wakes rfl rfl rfl rfl ((wakes_ok S69.le (hT.mono (hl37.trans hl65))).mono ?_)
  rintro e w71 ⟨rfl, hB70⟩
  have S72 := S69.call hB70
  refine ⟨_, rfl, trivial, ?_⟩
  refine T_pev rfl rfl rfl rfl ?_
  refine T_pev rfl rfl rfl rfl ?_
  refine T_nil ?_
  refine W_ret ?_
  refine ⟨_, ⟨_, _, rfl, rfl, rfl⟩, ?_⟩
  exact ⟨rfl, S72.below⟩

end Go.Proofs.YtmjmjjkigblbgaaDoor
