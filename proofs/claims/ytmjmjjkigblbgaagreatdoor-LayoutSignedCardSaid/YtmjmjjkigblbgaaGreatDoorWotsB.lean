/- Leaves and signatures: the program's and the document's. -/
import Derived.Test.YtmjmjjkigblbgaaGreatDoorWotsA
set_option linter.unusedVariables false
set_option linter.unusedSimpArgs false
set_option maxRecDepth 8192
namespace Go.Proofs.YtmjmjjkigblbgaaGreatDoor
open Go Go.F Go.RowKit

theorem digitsR_w_ok {H : Hp} {w : World} (hH : H.le (hw w)) {m : List UInt8} {aa0 : Option Addr} {nn0 cc0 : Nat} (hv : Rd H (.slice aa0 nn0 cc0) nn0 1 (m.map bV)) (hl : m.length < 1000) :
  Calls Tryz.prog 118 #[.slice aa0 nn0 cc0] w fun e w' => ∃ a c, 67 ≤ c ∧ e = .returned (.slice a 67 c) ∧ rowZ w' w.heap.size 3 1 (.slice a 67 c) 67 ((Go.Au.digits m).map iV) ∧ Below w.heap.size w w' := by
 obtain rfl : nn0 = m.length := hv.lenB
 have hvcap : m.length ≤ cc0 := hv.capOf
 refine enter1 _ Tryz.func118 rfl Tryz.ntmps118 Tryz.results118 rfl ?_
 have S0 := St.start w hH
 refine Wr ?_
 refine Pv ?_
 refine T_nil ?_
 refine Wr ?_
 refine Pv ?_
 have rs5 : Rds H [.slice aa0 m.length cc0] [m] := Rds.cons (Rd.canonB hv) (Rds.nil _)
 refine T_litS [.slice aa0 m.length cc0] rfl rfl rfl rfl rfl rfl rfl rfl rfl rfl rfl rfl rfl (by simp [Value.cells]; rfl) rfl fun a1 w2 hB3 ho4 => ?_
 have S6 := S0.own hB3 ho4
 refine ⟨trivial, ?_⟩
 obtain ⟨G8, hl9, S7, r10⟩ := S6.stillRow 0 rfl
 have r11 := RdL.mk r10 (rs5.mono hl9)
 refine T_callS rfl rfl g_aumbry_aumbryref01_Tagged rfl rfl rfl rfl ((taggedR_ok S7.le r11 (Go.Au.text1 (by decide) hl)).mono ?_)
 rintro e w13 ⟨rfl, hB12⟩
 have S14 := S7.call hB12
 refine ⟨_, rfl, trivial, ?_⟩
 refine T_re (v' := hV (Go.Au.mh m)) rfl ?_
 refine T_allocS S14 (fun _ _ => trivial) rfl rfl rfl rfl rfl rfl rfl fun b15 w16 S17 => ?_
 refine T_storeFS 0 S17 (fun _ _ => trivial) rfl rfl rfl rfl rfl rfl rfl rfl rfl (hVs (Go.Au.mh_len _)) (hVs (Go.Au.mh_len _)) (one_hA _) fun w18 S19 => ?_
 refine T_nil ?_
 refine Wr ?_
 refine Pv ?_
 refine T_nil ?_
 refine Wr ?_
 refine Pv ?_
 refine T_nil ?_
 refine W_seq ?_
 refine Wr ?_
 refine Pv ?_
 refine T_nil ?_
 refine W_block ?_
 have S20 := S19.nilRow 3 1
 refine W_loop (fun M ρ w' => ∃ (k : Nat) (a23 : Option Addr) (c24 : Nat) (G21 : Hp), M = 32 - k ∧ k ≤ 32 ∧ ρ = [(3, .pointer (some ⟨b15, 0, none⟩)), (4, .slice a23 ((Go.Au.nib ((Go.Au.mh m).take k)).length) c24), (5, .int .i64 ((Go.Au.chk ((Go.Au.mh m).take k) : Nat) : Int)), (10, .int .i64 (k : Int))] ∧ G8.le G21 ∧ St w H G21 [.row 3 1 (.slice a23 ((Go.Au.nib ((Go.Au.mh m).take k)).length) c24) ((Go.Au.nib ((Go.Au.mh m).take k)).length) ((Go.Au.nib ((Go.Au.mh m).take k)).map iV), .blk b15 (hV (Go.Au.mh m) : Value).cells 27] w' ∧ (Go.Au.nib ((Go.Au.mh m).take k)).length ≤ c24)
  (32 - 0) [(3, .pointer (some ⟨b15, 0, none⟩)), (4, .slice none 0 0), (5, .int .i64 ((0 : Nat) : Int)), (10, .int .i64 ((0 : Nat) : Int))] ⟨rfl, rfl, (congrArg (fun z => some (Value.int .i64 z)) (by omega)), (congrArg (fun z => some (Value.int .i64 z)) (by omega)), trivial⟩ ⟨0, none, 0, G8, rfl, (by omega), rfl, Hp.le.refl _, S20, (Nat.le_refl _)⟩ ?_
 rintro M ρ w26 ⟨k, a23, c24, G21, rfl, hp28, rfl, hl22, S27, hc25⟩
 refine Wr ?_
 refine Pv ?_
 refine T_nil ?_
 refine W_seq ?_
 refine W_cond_dec rfl (fun h29 => ?_) (fun h29 => ?_)
 ·refine W_skip ?_
  refine W_seq ?_
  refine W_block ?_
  refine Wr ?_
  have hcb := ((Go.Au.mh m).getD k 0).toNat_lt
  have hck := Go.Au.chk_take_le (Go.Au.mh m) k
  have hml := Go.Au.mh_len m
  have hct := Go.Au.chk_take (l := Go.Au.mh m) (k := k) (by omega)
  iterate 2 refine Pv ?_
  refine T_nil ?_
  refine W_seq ?_
  refine W_draw rfl (by kernel_rfl) ?_
  have S30 := S27.drew
  iterate 2 refine Pv ?_
  refine T_idxA1 rfl rfl rfl rfl rfl rfl rfl rfl rfl (by first | omega | decide) ?_
  refine T_loadS 1 k S30 rfl rfl rfl rfl rfl rfl rfl rfl (by omega) (cell_hV _ k (by rw [(Go.Au.mh_len _)]; omega)) ?_
  refine T_quoU rfl rfl rfl rfl rfl rfl rfl (by omega) (by rw [IntKind.wrap_u8]; omega) ?_
  refine T_re (v' := .int .u8 ((((Go.Au.mh m).getD k 0).toNat / 16 : Nat) : Int)) (congrArg (Value.int .u8) (by omega)) ?_
  refine Pv ?_
  refine T_re (v' := .int .i64 ((((Go.Au.mh m).getD k 0).toNat / 16 : Nat) : Int)) (congrArg (Value.int .i64) (by rw [wrap64_id (by omega) (by omega)])) ?_
  refine Pv ?_
  refine T_idxA1 rfl rfl rfl rfl rfl rfl rfl rfl rfl (by first | omega | decide) ?_
  refine T_loadS 1 k S30 rfl rfl rfl rfl rfl rfl rfl rfl (by omega) (cell_hV _ k (by rw [(Go.Au.mh_len _)]; omega)) ?_
  refine T_remU rfl rfl rfl rfl rfl rfl rfl (by omega) ?_
  refine T_re (v' := .int .u8 ((((Go.Au.mh m).getD k 0).toNat % 16 : Nat) : Int)) (congrArg (Value.int .u8) (by omega)) ?_
  refine Pv ?_
  refine T_re (v' := .int .i64 ((((Go.Au.mh m).getD k 0).toNat % 16 : Nat) : Int)) (congrArg (Value.int .i64) (by rw [wrap64_id (by omega) (by omega)])) ?_
  refine T_litS ([((((Go.Au.mh m).getD k 0).toNat / 16 : Nat) : Int), ((((Go.Au.mh m).getD k 0).toNat % 16 : Nat) : Int)].map iV) rfl rfl rfl rfl rfl rfl rfl rfl rfl rfl rfl rfl rfl (by simp [Value.cells]; rfl) rfl fun a31 w32 hB33 ho34 => ?_
  have S35 := S30.own hB33 ho34
  refine ⟨trivial, ?_⟩
  have hD36 : (Go.Au.nib ((Go.Au.mh m).take k) ++ [((((Go.Au.mh m).getD k 0).toNat / 16 : Nat) : Int), ((((Go.Au.mh m).getD k 0).toNat % 16 : Nat) : Int)]) = Go.Au.nib ((Go.Au.mh m).take (k + 1)) := (Go.Au.nib_take (by omega))
  refine T_appendS 1 ((Go.Au.nib ((Go.Au.mh m).take (k + 1))).length) ((Go.Au.nib ((Go.Au.mh m).take (k + 1))).map iV) S35 (fun _ _ => trivial) rfl rfl rfl rfl rfl rfl rfl rfl rfl rfl rfl rfl rfl rfl (S35.rd 0 rfl) (one_iV _) (by rw [← hD36]; first | rfl | (simp; done) | (simp; omega) | omega) (by rw [← hD36]; simp) (by unfold maxLen; first | (rw [Go.Au.nib_len, List.length_take]; omega) | (rw [Go.Au.digits_len]; omega)) (by show _ * 8 ≤ _; first | (rw [Go.Au.nib_len, List.length_take]; omega) | (rw [Go.Au.digits_len]; omega)) fun a37 c38 w39 hc40 S41 => ?_
  refine Pv ?_
  refine T_nil ?_
  refine W_draw rfl (by kernel_rfl) ?_
  have S42 := S41.drew
  iterate 2 refine Pv ?_
  refine T_idxA1 rfl rfl rfl rfl rfl rfl rfl rfl rfl (by first | omega | decide) ?_
  refine T_loadS 2 k S42 rfl rfl rfl rfl rfl rfl rfl rfl (by omega) (cell_hV _ k (by rw [(Go.Au.mh_len _)]; omega)) ?_
  refine T_quoU rfl rfl rfl rfl rfl rfl rfl (by omega) (by rw [IntKind.wrap_u8]; omega) ?_
  refine T_re (v' := .int .u8 ((((Go.Au.mh m).getD k 0).toNat / 16 : Nat) : Int)) (congrArg (Value.int .u8) (by omega)) ?_
  refine Pv ?_
  refine T_re (v' := .int .i64 ((((Go.Au.mh m).getD k 0).toNat / 16 : Nat) : Int)) (congrArg (Value.int .i64) (by rw [wrap64_id (by omega) (by omega)])) ?_
  refine Ar ?_
  refine Pv ?_
  refine T_idxA1 rfl rfl rfl rfl rfl rfl rfl rfl rfl (by first | omega | decide) ?_
  refine T_loadS 2 k S42 rfl rfl rfl rfl rfl rfl rfl rfl (by omega) (cell_hV _ k (by rw [(Go.Au.mh_len _)]; omega)) ?_
  refine T_remU rfl rfl rfl rfl rfl rfl rfl (by omega) ?_
  refine T_re (v' := .int .u8 ((((Go.Au.mh m).getD k 0).toNat % 16 : Nat) : Int)) (congrArg (Value.int .u8) (by omega)) ?_
  refine Pv ?_
  refine T_re (v' := .int .i64 ((((Go.Au.mh m).getD k 0).toNat % 16 : Nat) : Int)) (congrArg (Value.int .i64) (by rw [wrap64_id (by omega) (by omega)])) ?_
  iterate 2 refine Ar ?_
  refine Pv ?_
  refine T_nil ?_
  refine W_region ?_
  refine Ar ?_
  refine Pv ?_
  refine T_nil ?_
  have S43 := S42.drop 0
  exact ⟨32 - (k + 1), [(3, .pointer (some ⟨b15, 0, none⟩)), (4, .slice a37 ((Go.Au.nib ((Go.Au.mh m).take (k + 1))).length) c38), (5, .int .i64 ((Go.Au.chk ((Go.Au.mh m).take (k + 1)) : Nat) : Int)), (10, .int .i64 ((k + 1 : Nat) : Int))], by omega, ⟨rfl, rfl, (congrArg (fun z => some (Value.int .i64 z)) (by omega)), (congrArg (fun z => some (Value.int .i64 z)) (by omega)), trivial⟩, k + 1, a37, c38, G21, rfl, (by omega), rfl, hl22, S43, hc40⟩
 refine W_exit ?_
 refine Wr ?_
 iterate 2 refine Pv ?_
 have hk32 : k = 32 := by omega
 have hck := Go.Au.chk_take_le (Go.Au.mh m) k
 have hsm : Go.Au.chk ((Go.Au.mh m).take k) = Go.Au.chk (Go.Au.mh m) := by rw [List.take_of_length_le (by rw [Go.Au.mh_len]; omega)]
 refine T_quo rfl rfl rfl rfl rfl rfl (by omega) ?_
 refine T_re (v' := .int .i64 ((Go.Au.chk (Go.Au.mh m) / 256 : Nat) : Int)) (congrArg (Value.int .i64) (by rw [hsm]; omega)) ?_
 refine Pv ?_
 refine T_quo rfl rfl rfl rfl rfl rfl (by omega) ?_
 refine T_rem rfl rfl rfl rfl rfl rfl (by omega) ?_
 refine T_re (v' := .int .i64 ((Go.Au.chk (Go.Au.mh m) / 16 % 16 : Nat) : Int)) (congrArg (Value.int .i64) (by rw [hsm]; omega)) ?_
 refine Pv ?_
 refine T_rem rfl rfl rfl rfl rfl rfl (by omega) ?_
 refine T_re (v' := .int .i64 ((Go.Au.chk (Go.Au.mh m) % 16 : Nat) : Int)) (congrArg (Value.int .i64) (by rw [hsm]; omega)) ?_
 refine T_litS ([((Go.Au.chk (Go.Au.mh m) / 256 : Nat) : Int), ((Go.Au.chk (Go.Au.mh m) / 16 % 16 : Nat) : Int), ((Go.Au.chk (Go.Au.mh m) % 16 : Nat) : Int)].map iV) rfl rfl rfl rfl rfl rfl rfl rfl rfl rfl rfl rfl rfl (by simp [Value.cells]; rfl) rfl fun a44 w45 hB46 ho47 => ?_
 have S48 := S27.own hB46 ho47
 refine ⟨trivial, ?_⟩
 have hD49 : (Go.Au.nib ((Go.Au.mh m).take k) ++ [((Go.Au.chk (Go.Au.mh m) / 256 : Nat) : Int), ((Go.Au.chk (Go.Au.mh m) / 16 % 16 : Nat) : Int), ((Go.Au.chk (Go.Au.mh m) % 16 : Nat) : Int)]) = Go.Au.digits m := (by rw [List.take_of_length_le (by rw [Go.Au.mh_len]; omega)]; rfl)
 refine T_appendS 1 ((Go.Au.digits m).length) ((Go.Au.digits m).map iV) S48 (fun _ _ => trivial) rfl rfl rfl rfl rfl rfl rfl rfl rfl rfl rfl rfl rfl rfl (S48.rd 0 rfl) (one_iV _) (by rw [← hD49]; first | rfl | (simp; done) | (simp; omega) | omega) (by rw [← hD49]; simp) (by unfold maxLen; first | (rw [Go.Au.nib_len, List.length_take]; omega) | (rw [Go.Au.digits_len]; omega)) (by show _ * 8 ≤ _; first | (rw [Go.Au.nib_len, List.length_take]; omega) | (rw [Go.Au.digits_len]; omega)) fun a50 c51 w52 hc53 S54 => ?_
 refine Pv ?_
 refine T_nil ?_
 refine W_ret ?_
 refine ⟨_, ⟨_, _, rfl, rfl, rfl⟩, ?_⟩
 exact dig_end (Go.Au.digits_len m) hc53 (S54.row 1 rfl) S54.below


theorem public_ok {H : Hp} {w : World} (hH : H.le (hw w)) (hT : Tabs H) {l : List (List UInt8)} {aa0 : Option Addr} {nn0 cc0 : Nat} (hv : RdH H (.slice aa0 nn0 cc0) 32 l) (hn : l.length ≤ 100) :
  Calls Tryz.prog 158 #[.slice aa0 nn0 cc0] w fun e w' => e = .returned (hV (Go.Au.pubH l)) ∧ Below w.heap.size w w' := by
 obtain rfl : nn0 = l.length := hv.len
 have hvcap : l.length ≤ cc0 := hv.2.capOf
 refine enter1 _ Tryz.func158 rfl Tryz.ntmps158 Tryz.results158 rfl ?_
 have S0 := St.start w hH
 refine Wr ?_
 refine T_allocS S0 (fun _ _ => trivial) rfl rfl rfl rfl rfl rfl rfl fun b1 w2 S3 => ?_
 refine T_nil ?_
 refine Wr ?_
 refine Pv ?_
 refine T_nil ?_
 refine W_seq ?_
 refine Wr ?_
 iterate 3 refine Pv ?_
 refine T_nil ?_
 refine W_block ?_
 have S4 := S3.nilRow 24 1
 have rs5 := Rds.nil H
 refine W_loop (fun M ρ w' => ∃ (k : Nat) (a8 : Option Addr) (c9 : Nat) (hs11 : List Value) (G6 : Hp), M = l.length - k ∧ k ≤ l.length ∧ ρ = [(2, .pointer (some ⟨b1, 0, none⟩)), (3, .slice a8 ((l.take k).length) c9), (6, .slice aa0 l.length cc0), (7, .int .i64 ((l.length : Nat) : Int)), (8, .int .i64 (k : Int))] ∧ H.le G6 ∧ St w H G6 [.row 24 1 (.slice a8 ((l.take k).length) c9) ((l.take k).length) hs11, .blk b1 (hV (List.replicate 32 0) : Value).cells 27] w' ∧ Rds G6 hs11 (l.take k) ∧ (l.take k).length ≤ c9)
  (l.length - 0) [(2, .pointer (some ⟨b1, 0, none⟩)), (3, .slice none 0 0), (6, .slice aa0 l.length cc0), (7, .int .i64 ((l.length : Nat) : Int)), (8, .int .i64 ((0 : Nat) : Int))] ⟨rfl, rfl, rfl, (congrArg (fun z => some (Value.int .i64 z)) (by omega)), (congrArg (fun z => some (Value.int .i64 z)) (by omega)), trivial⟩ ⟨0, none, 0, _, H, rfl, (by omega), rfl, Hp.le.refl _, S4, rs5, (Nat.le_refl _)⟩ ?_
 rintro M ρ w13 ⟨k, a8, c9, hs11, G6, rfl, hp15, rfl, hl7, S14, rs12, hc10⟩
 refine Wr ?_
 refine Pv ?_
 refine T_nil ?_
 refine W_seq ?_
 refine W_cond_dec rfl (fun h16 => ?_) (fun h16 => ?_)
 ·refine W_skip ?_
  refine W_seq ?_
  refine W_block ?_
  refine Wr ?_
  refine T_idxR k (hv.mono hl7).2 rfl rfl rfl rfl rfl rfl rfl rfl rfl (by omega) (by omega) fun b17 o18 hc19 => ?_
  have hc20 := cells_h (hv.mono hl7).1 k (by omega) hc19
  have hl21 := len_h (hv.mono hl7).1 k (by omega)
  refine T_loadGA _ S14 hc20 rfl rfl rfl rfl rfl rfl rfl rfl (hVs hl21) ?_
  refine T_allocS S14 (fun _ _ => trivial) rfl rfl rfl rfl rfl rfl rfl fun b22 w23 S24 => ?_
  refine T_storeFS 0 S24 (fun _ _ => trivial) rfl rfl rfl rfl rfl rfl rfl rfl rfl (hVs hl21) (hVs hl21) (one_hA _) fun w25 S26 => ?_
  refine T_nil ?_
  refine W_region ?_
  have hlk := len_h hv.1 k (by omega)
  refine Pv ?_
  obtain ⟨G28, hl29, S27, r30⟩ := S26.stillBlk 0 rfl
  refine T_sliceAll rfl rfl rfl rfl rfl rfl rfl rfl ?_
  have r31 := Rd.of_blk (m := 32) (size := 1) (xs := (l.getD k []).map bV) r30 (hcell1 _) (by rw [List.length_map, hl21])
  have S32 := S27.nilRow 5 1
  refine T_appendS 0 ((l.getD k []).length) ((l.getD k []).map bV) S32 (fun _ _ => trivial) rfl rfl rfl rfl rfl rfl rfl rfl rfl rfl rfl rfl rfl rfl (r31.mono S32.le) (one_bV _) (by first | rfl | (simp; done) | (simp; omega) | omega) (by simp) (by unfold maxLen; omega) (by show _ * 1 ≤ _; omega) fun a33 c34 w35 hc36 S37 => ?_
  obtain ⟨G43, hl44, S42, r45⟩ := S37.stillRow 0 rfl
  have rs46 : Rds G43 [.slice a33 ((l.getD k []).length) c34] [l.getD k []] := Rds.cons (Rd.canonB r45) (Rds.nil _)
  refine T_litS [.slice a33 ((l.getD k []).length) c34] rfl rfl rfl rfl rfl rfl rfl rfl rfl rfl rfl rfl rfl (by simp [Value.cells]; rfl) rfl fun a38 w39 hB40 ho41 => ?_
  have S47 := S42.own hB40 ho41
  refine ⟨trivial, ?_⟩
  have hD48 : ((l.take k) ++ [l.getD k []]) = (l.take (k + 1)) := (Go.Au.take_snoc (by omega))
  refine T_appendS 1 ((l.take (k + 1)).length) _ S47 (fun _ _ => trivial) rfl rfl rfl rfl rfl rfl rfl rfl rfl rfl rfl rfl rfl rfl (S47.rd 0 rfl) rs46.one (by rw [← hD48]; first | rfl | (simp; done) | (simp; omega) | omega) rfl (by unfold maxLen; rw [List.length_take]; omega) (by show _ * 24 ≤ _; rw [List.length_take]; omega) fun a49 c50 w51 hc52 S53 => ?_
  have rs54 := Rds.append (rs12.mono (hl29.trans hl44)) rs46
  rw [hD48] at rs54
  refine Pv ?_
  refine T_nil ?_
  refine W_region ?_
  refine Ar ?_
  refine Pv ?_
  refine T_nil ?_
  have S55 := S53.drop 0
  exact ⟨l.length - (k + 1), [(2, .pointer (some ⟨b1, 0, none⟩)), (3, .slice a49 ((l.take (k + 1)).length) c50), (6, .slice aa0 l.length cc0), (7, .int .i64 ((l.length : Nat) : Int)), (8, .int .i64 ((k + 1 : Nat) : Int))], by omega, ⟨rfl, rfl, rfl, (congrArg (fun z => some (Value.int .i64 z)) (by omega)), (congrArg (fun z => some (Value.int .i64 z)) (by omega)), trivial⟩, k + 1, a49, c50, _, G43, rfl, (by omega), rfl, (hl7.trans (hl29.trans hl44)), S55, rs54, hc52⟩
 refine W_exit ?_
 refine Wr ?_
 have hkl : k = l.length := by omega
 have hll : l.take k = l := by rw [List.take_of_length_le (by omega)]
 refine Pv ?_
 obtain ⟨G57, hl58, S56, r59⟩ := S14.stillRow 0 rfl
 have r60 := RdL.mk r59 (rs12.mono hl58)
 refine T_callS rfl rfl g_aumbry_sha_Tagged rfl rfl rfl rfl ((tagged_ok S56.le (hT.mono (hl7.trans hl58)) r60 (by rw [hll]; exact Go.Au.text_all (n := 100) (by decide) hv.1 (by decide) hn (by decide))).mono ?_)
 rintro e w62 ⟨rfl, hB61⟩
 have S63 := S56.call hB61
 refine ⟨_, rfl, trivial, ?_⟩
 refine T_re (v' := hV (Go.Au.pubH l)) (by rw [hll]; rfl) ?_
 refine T_storeFS 0 S63 (fun _ _ => trivial) rfl rfl rfl rfl rfl rfl rfl rfl rfl (hVs (Go.Au.pubH_len _)) (hVs (Go.Au.pubH_len _)) (one_hA _) fun w64 S65 => ?_
 refine T_nil ?_
 refine W_ret ?_
 refine ⟨_, ⟨_, _, _, rfl, rfl, run_loadVarA rfl rfl (hVs (Go.Au.pubH_len _)) (S65.cells 0 rfl), rfl⟩, ?_⟩
 exact ⟨rfl, S65.below⟩


theorem netPub_ok {H : Hp} {w : World} (hH : H.le (hw w)) {a0 : Option Addr} {n0 c0 : Nat} (l : List (List UInt8)) (hv : Rd H (.slice a0 n0 c0) n0 1 (([112, 117, 98, 108, 105, 99] : List UInt8).map bV)) :
  Calls Tryz.prog 121 #[.slice a0 n0 c0] w fun e w' => ∃ a c, (Go.Au.text [112, 117, 98, 108, 105, 99] (l.take 0)).length ≤ c ∧ e = .returned (.slice a (Go.Au.text [112, 117, 98, 108, 105, 99] (l.take 0)).length c) ∧ rowZ w' w.heap.size 5 1 (.slice a (Go.Au.text [112, 117, 98, 108, 105, 99] (l.take 0)).length c) (Go.Au.text [112, 117, 98, 108, 105, 99] (l.take 0)).length ((Go.Au.text [112, 117, 98, 108, 105, 99] (l.take 0)).map bV) ∧ Below w.heap.size w w' := by
 obtain rfl : n0 = _ := hv.lenB
 have h := netR_ok hH hv (by decide)
 have e0 : Go.Au.net [112, 117, 98, 108, 105, 99] = Go.Au.text [112, 117, 98, 108, 105, 99] (l.take 0) := by simp [Go.Au.text, Go.Au.nets]
 rw [e0] at h
 exact h

theorem pubTextR_ok {H : Hp} {w : World} (hH : H.le (hw w)) {l : List (List UInt8)} {aa0 : Option Addr} {nn0 cc0 : Nat} (hv : RdH H (.slice aa0 nn0 cc0) 32 l) (hn : l.length ≤ 100) :
  Calls Tryz.prog 122 #[.slice aa0 nn0 cc0] w fun e w' => ∃ a c, (Go.Au.text [112, 117, 98, 108, 105, 99] l).length ≤ c ∧ e = .returned (.slice a (Go.Au.text [112, 117, 98, 108, 105, 99] l).length c) ∧ rowZ w' w.heap.size 5 1 (.slice a (Go.Au.text [112, 117, 98, 108, 105, 99] l).length c) (Go.Au.text [112, 117, 98, 108, 105, 99] l).length ((Go.Au.text [112, 117, 98, 108, 105, 99] l).map bV) ∧ Below w.heap.size w w' := by
 obtain rfl : nn0 = l.length := hv.len
 have hvcap : l.length ≤ cc0 := hv.2.capOf
 have htl := Go.Au.text_all (tag := [112, 117, 98, 108, 105, 99]) (n := 100) (by decide) hv.1 (by decide) hn (by decide)
 refine enter1 _ Tryz.func122 rfl Tryz.ntmps122 Tryz.results122 rfl ?_
 have S0 := St.start w hH
 refine Wr ?_
 refine Pv ?_
 refine T_nil ?_
 refine Wr ?_
 refine T_litS ([(112 : UInt8), (117 : UInt8), (98 : UInt8), (108 : UInt8), (105 : UInt8), (99 : UInt8)].map bV) rfl rfl rfl rfl rfl rfl rfl rfl rfl rfl rfl rfl rfl (by simp [Value.cells]; rfl) rfl fun a1 w2 hB3 ho4 => ?_
 have S5 := S0.own hB3 ho4
 refine ⟨trivial, ?_⟩
 refine T_mark 0 S5 (fun _ _ => trivial) rfl rfl rfl rfl rfl rfl rfl rfl rfl rfl (by omega) fun w6 S7 => ?_
 obtain ⟨G9, hl10, S8, r11⟩ := S7.stillRow 0 rfl
 refine Cs g_aumbry_aumbryref01_Net ((netPub_ok S8.le l r11).mono ?_)
 rintro e w17 ⟨a12, c13, hc14, rfl, ho15, hB16⟩
 have S18 := S8.own hB16 ho15
 refine ⟨_, rfl, trivial, ?_⟩
 refine Pv ?_
 refine T_nil ?_
 refine W_seq ?_
 refine Wr ?_
 iterate 3 refine Pv ?_
 refine T_nil ?_
 refine W_block ?_
 refine W_loop (fun M ρ w' => ∃ (k : Nat) (a21 : Option Addr) (c22 : Nat) (G19 : Hp), M = l.length - k ∧ k ≤ l.length ∧ ρ = [(0, .slice aa0 l.length cc0), (3, .slice a21 ((Go.Au.text [112, 117, 98, 108, 105, 99] (l.take k)).length) c22), (9, .int .i64 ((l.length : Nat) : Int)), (10, .int .i64 (k : Int))] ∧ G9.le G19 ∧ St w H G19 [.row 5 1 (.slice a21 ((Go.Au.text [112, 117, 98, 108, 105, 99] (l.take k)).length) c22) ((Go.Au.text [112, 117, 98, 108, 105, 99] (l.take k)).length) ((Go.Au.text [112, 117, 98, 108, 105, 99] (l.take k)).map bV)] w' ∧ (Go.Au.text [112, 117, 98, 108, 105, 99] (l.take k)).length ≤ c22)
  (l.length - 0) [(0, .slice aa0 l.length cc0), (3, .slice a12 ((Go.Au.text [112, 117, 98, 108, 105, 99] (l.take 0)).length) c13), (9, .int .i64 ((l.length : Nat) : Int)), (10, .int .i64 ((0 : Nat) : Int))] ⟨rfl, rfl, (congrArg (fun z => some (Value.int .i64 z)) (by omega)), (congrArg (fun z => some (Value.int .i64 z)) (by omega)), trivial⟩ ⟨0, a12, c13, G9, rfl, (by omega), rfl, Hp.le.refl _, S18, hc14⟩ ?_
 rintro M ρ w24 ⟨k, a21, c22, G19, rfl, hp26, rfl, hl20, S25, hc23⟩
 refine Wr ?_
 refine Pv ?_
 refine T_nil ?_
 refine W_seq ?_
 refine W_cond_dec rfl (fun h27 => ?_) (fun h27 => ?_)
 ·refine W_skip ?_
  refine W_seq ?_
  refine W_block ?_
  refine Wr ?_
  iterate 2 refine Pv ?_
  refine T_nil ?_
  refine W_region ?_
  iterate 3 refine Pv ?_
  refine T_idxR k (hv.mono (hl10.trans hl20)).2 rfl rfl rfl rfl rfl rfl rfl rfl rfl (by omega) (by omega) fun b28 o29 hc30 => ?_
  have hc31 := cells_h (hv.mono (hl10.trans hl20)).1 k (by omega) hc30
  have hl32 := len_h (hv.mono (hl10.trans hl20)).1 k (by omega)
  refine T_sliceAll rfl rfl rfl rfl rfl rfl rfl rfl ?_
  have r33 := (Rd.of_cells (m := 32) (size := 1) (xs := (l.getD k []).map bV) (cells_bV hc31) (by rw [List.length_map, hl32]))
  have hlk := len_h hv.1 k (by omega)
  have htk := Go.Au.text_take_le [112, 117, 98, 108, 105, 99] l (k + 1)
  refine T_callS rfl rfl g_aumbry_aumbryref01_Net rfl rfl rfl rfl ((netR_ok S25.le r33 (by rw [hlk]; decide)).mono ?_)
  rintro e w39 ⟨a34, c35, hc36, rfl, ho37, hB38⟩
  have S40 := S25.own hB38 ho37
  refine ⟨_, rfl, trivial, ?_⟩
  have hD41 : (Go.Au.text [112, 117, 98, 108, 105, 99] (l.take k) ++ Go.Au.net (l.getD k [])) = Go.Au.text [112, 117, 98, 108, 105, 99] (l.take (k + 1)) := (Go.Au.text_snoc (by omega))
  refine T_appendS 1 ((Go.Au.text [112, 117, 98, 108, 105, 99] (l.take (k + 1))).length) ((Go.Au.text [112, 117, 98, 108, 105, 99] (l.take (k + 1))).map bV) S40 (fun _ _ => trivial) rfl rfl rfl rfl rfl rfl rfl rfl rfl rfl rfl rfl rfl rfl (S40.rd 0 rfl) (one_bV _) (by rw [← hD41]; first | rfl | (simp; done) | (simp; omega) | omega) (by rw [← hD41]; simp) (by unfold maxLen; omega) (by show _ * 1 ≤ _; omega) fun a42 c43 w44 hc45 S46 => ?_
  refine Pv ?_
  refine T_nil ?_
  refine W_region ?_
  refine Ar ?_
  refine Pv ?_
  refine T_nil ?_
  have S47 := S46.drop 0
  exact ⟨l.length - (k + 1), [(0, .slice aa0 l.length cc0), (3, .slice a42 ((Go.Au.text [112, 117, 98, 108, 105, 99] (l.take (k + 1))).length) c43), (9, .int .i64 ((l.length : Nat) : Int)), (10, .int .i64 ((k + 1 : Nat) : Int))], by omega, ⟨rfl, rfl, (congrArg (fun z => some (Value.int .i64 z)) (by omega)), (congrArg (fun z => some (Value.int .i64 z)) (by omega)), trivial⟩, k + 1, a42, c43, G19, rfl, (by omega), rfl, hl20, S47, hc45⟩
 refine W_exit ?_
 refine Wr ?_
 iterate 2 refine Pv ?_
 refine T_nil ?_
 refine W_ret ?_
 refine ⟨_, ⟨_, _, rfl, rfl, rfl⟩, ?_⟩
 obtain rfl : k = l.length := by omega
 exact nets_end (by rw [List.take_length]) hc23 (S25.row 0 rfl) S25.below




theorem endsR_ok {H : Hp} {w : World} (hH : H.le (hw w)) {seed : List UInt8} (leaf : Int) (hs : seed.length = 16) (hl : leaf ≤ 9223372036854775807) :
  Calls Tryz.prog 123 #[hV seed, .int .i64 leaf] w fun e w' => ∃ a c, 67 ≤ c ∧ e = .returned (.slice a 67 c) ∧ rowZ w' w.heap.size 27 32 (.slice a 67 c) 67 (hcells (Go.Au.trueEnds seed leaf 67)) ∧ Below w.heap.size w w' := by
 refine enter2 _ Tryz.func123 rfl Tryz.ntmps123 Tryz.results123 rfl ?_
 have S0 := St.start w hH
 refine Wr ?_
 refine T_boxS S0 (fun _ _ => trivial) rfl rfl rfl rfl rfl rfl fun b1 w2 S3 => ?_
 refine Pv ?_
 refine T_nil ?_
 refine Wr ?_
 refine Pv ?_
 refine T_nil ?_
 refine W_seq ?_
 refine Wr ?_
 refine Pv ?_
 refine T_nil ?_
 refine W_block ?_
 have S4 := S3.nilRow 27 32
 refine W_loop (fun M ρ w' => ∃ (k : Nat) (a7 : Option Addr) (c8 : Nat) (G5 : Hp), M = 67 - k ∧ k ≤ 67 ∧ ρ = [(1, .int .i64 leaf), (2, .pointer (some ⟨b1, 0, none⟩)), (5, .slice a7 k c8), (6, .int .i64 (k : Int))] ∧ H.le G5 ∧ St w H G5 [.row 27 32 (.slice a7 k c8) k (hcells (Go.Au.trueEnds seed leaf k)), .blk b1 (hV seed : Value).cells 23] w' ∧ (∀ y ∈ Go.Au.trueEnds seed leaf k, y.length = 32) ∧ k ≤ c8)
  (67 - 0) [(1, .int .i64 leaf), (2, .pointer (some ⟨b1, 0, none⟩)), (5, .slice none 0 0), (6, .int .i64 ((0 : Nat) : Int))] ⟨(congrArg (fun z => some (Value.int .i64 z)) (by omega)), rfl, rfl, (congrArg (fun z => some (Value.int .i64 z)) (by omega)), trivial⟩ ⟨0, none, 0, H, rfl, (by omega), rfl, Hp.le.refl _, S4, (fun _ h => by cases h), (Nat.le_refl _)⟩ ?_
 rintro M ρ w11 ⟨k, a7, c8, G5, rfl, hp13, rfl, hl6, S12, hh10, hc9⟩
 refine W_seq ?_
 refine Wr ?_
 iterate 2 refine Pv ?_
 refine T_nil ?_
 refine W_cond_dec rfl (fun h14 => ?_) (fun h14 => ?_)
 ·refine W_skip ?_
  refine W_seq ?_
  refine W_block ?_
  refine W_region ?_
  refine Pv ?_
  refine T_loadFS 1 S12 rfl rfl rfl rfl rfl rfl rfl rfl rfl (hVs hs) ?_
  iterate 2 refine Pv ?_
  refine Cs g_aumbry_aumbryref07_Start ((startR_ok S12.le leaf (k : Int) hs (by omega) (by omega)).mono ?_)
  rintro e w16 ⟨rfl, hB15⟩
  have S17 := S12.call hB15
  refine ⟨_, rfl, trivial, ?_⟩
  refine Cs g_aumbry_aumbryref07_Along ((alongR_ok S17.le (15 : Int) (Go.Au.start_len _ _ _)).mono ?_)
  rintro e w19 ⟨rfl, hB18⟩
  have S20 := S17.call hB18
  refine ⟨_, rfl, trivial, ?_⟩
  refine T_re (v' := hV (Go.Au.steps 15 (Go.Au.start seed leaf (k : Int)))) rfl ?_
  refine T_litS (hcells [Go.Au.steps 15 (Go.Au.start seed leaf (k : Int))]) rfl rfl rfl rfl rfl rfl rfl rfl rfl rfl rfl rfl rfl (one_h (Go.Au.steps_len _ (Go.Au.start_len _ _ _))) (by simp [hcells, hV, Value.cells]) fun a21 w22 hB23 ho24 => ?_
  have S25 := S20.own hB23 ho24
  refine ⟨trivial, ?_⟩
  have hD26 : (Go.Au.trueEnds seed leaf k ++ [Go.Au.steps 15 (Go.Au.start seed leaf (k : Int))]) = Go.Au.trueEnds seed leaf (k + 1) := (Go.Au.trueEnds_snoc _ _ _)
  refine T_appendS 1 (k + 1) (hcells (Go.Au.trueEnds seed leaf (k + 1))) S25 (fun _ _ => trivial) rfl rfl rfl rfl rfl rfl rfl rfl rfl rfl rfl rfl rfl rfl (S25.rd 0 rfl) (one_hcells _) (by first | rfl | (simp; done) | (simp; omega) | omega) (by rw [← hD26]; simp [hcells_append, hcells]) (by unfold maxLen; omega) (by show _ * 32 ≤ _; omega) fun a27 c28 w29 hc30 S31 => ?_
  have hh32 : ∀ y ∈ Go.Au.trueEnds seed leaf (k + 1), y.length = 32 := by rw [← hD26]; exact (all_app hh10 (all_h1 (Go.Au.steps_len _ (Go.Au.start_len _ _ _))))
  refine Pv ?_
  refine T_nil ?_
  refine W_region ?_
  refine Pv ?_
  refine Ar ?_
  refine Pv ?_
  refine T_nil ?_
  have S33 := S31.drop 0
  exact ⟨67 - (k + 1), [(1, .int .i64 leaf), (2, .pointer (some ⟨b1, 0, none⟩)), (5, .slice a27 (k + 1) c28), (6, .int .i64 ((k + 1 : Nat) : Int))], by omega, ⟨(congrArg (fun z => some (Value.int .i64 z)) (by omega)), rfl, rfl, (congrArg (fun z => some (Value.int .i64 z)) (by omega)), trivial⟩, k + 1, a27, c28, G5, rfl, (by omega), rfl, hl6, S33, hh32, hc30⟩
 refine W_exit ?_
 refine Wr ?_
 iterate 2 refine Pv ?_
 refine T_nil ?_
 refine W_ret ?_
 refine ⟨_, ⟨_, _, rfl, rfl, rfl⟩, ?_⟩
 obtain rfl : k = 67 := by omega
 exact ⟨_, _, hc9, rfl, S12.row 0 rfl, S12.below⟩


theorem pubR_ok {H : Hp} {w : World} (hH : H.le (hw w)) {seed : List UInt8} (leaf : Int) (hs : seed.length = 16) (hl : leaf ≤ 9223372036854775807) :
  Calls Tryz.prog 90 #[hV seed, .int .i64 leaf] w fun e w' => e = .returned (hV (Go.Au.pub seed leaf)) ∧ Below w.heap.size w w' := by
 refine enter2 _ Tryz.func90 rfl Tryz.ntmps90 Tryz.results90 rfl ?_
 have S0 := St.start w hH
 refine Wr ?_
 refine T_boxS S0 (fun _ _ => trivial) rfl rfl rfl rfl rfl rfl fun b1 w2 S3 => ?_
 refine T_allocS S3 (fun _ _ => trivial) rfl rfl rfl rfl rfl rfl rfl fun b4 w5 S6 => ?_
 refine T_nil ?_
 refine Wr ?_
 refine T_loadFS 1 S6 rfl rfl rfl rfl rfl rfl rfl rfl rfl (hVs hs) ?_
 refine Pv ?_
 refine Cs g_aumbry_aumbryref07_ends ((endsR_ok S6.le leaf hs (by omega)).mono ?_)
 rintro e w12 ⟨a7, c8, hc9, rfl, ho10, hB11⟩
 have S13 := S6.own hB11 ho10
 refine ⟨_, rfl, trivial, ?_⟩
 have hel := Go.Au.trueEnds_len seed leaf 67
 have htl := Go.Au.text_all (tag := [112, 117, 98, 108, 105, 99]) (n := 67) (by decide) (Go.Au.trueEnds_all seed leaf 67) (by decide) (by omega) (by decide)
 obtain ⟨G15, hl16, S14, r17⟩ := S13.stillRow 0 rfl
 have r18 := RdH.mk (Go.Au.trueEnds_all _ _ _) (by decide) r17
 refine Cs g_aumbry_aumbryref07_publicText ((pubTextR_ok S14.le r18 (by omega)).mono ?_)
 rintro e w24 ⟨a19, c20, hc21, rfl, ho22, hB23⟩
 have S25 := S14.own hB23 ho22
 refine ⟨_, rfl, trivial, ?_⟩
 obtain ⟨G27, hl28, S26, r29⟩ := S25.stillRow 0 rfl
 refine Cs g_aumbry_aumbryref01_Sum ((sumR_ok S26.le r29 (by omega)).mono ?_)
 rintro e w31 ⟨rfl, hB30⟩
 have S32 := S26.call hB30
 refine ⟨_, rfl, trivial, ?_⟩
 refine T_re (v' := hV (Go.Au.pub seed leaf)) rfl ?_
 refine T_storeFS 0 S32 (fun _ _ => trivial) rfl rfl rfl rfl rfl rfl rfl rfl rfl (hVs (Go.Au.pub_len _ _)) (hVs (Go.Au.pub_len _ _)) (one_hA _) fun w33 S34 => ?_
 refine T_nil ?_
 refine W_ret ?_
 refine ⟨_, ⟨_, _, _, rfl, rfl, run_loadVarA rfl rfl (hVs (Go.Au.pub_len _ _)) (S34.cells 0 rfl), rfl⟩, ?_⟩
 exact ⟨rfl, S34.below⟩




theorem signR_ok {H : Hp} {w : World} (hH : H.le (hw w)) {seed : List UInt8} (leaf : Int) (hs : seed.length = 16) (hl : leaf ≤ 9223372036854775807) {m : List UInt8} {aa2 : Option Addr} {nn2 cc2 : Nat} (hv : Rd H (.slice aa2 nn2 cc2) nn2 1 (m.map bV)) (hm : m.length < 1000) :
  Calls Tryz.prog 84 #[hV seed, .int .i64 leaf, .slice aa2 nn2 cc2] w fun e w' => ∃ a c, 67 ≤ c ∧ e = .returned (.slice a 67 c) ∧ rowZ w' w.heap.size 27 32 (.slice a 67 c) 67 (hcells (Go.Au.sign seed leaf m 67)) ∧ Below w.heap.size w w' := by
 obtain rfl : nn2 = m.length := hv.lenB
 have hvcap : m.length ≤ cc2 := hv.capOf
 have hdl := Go.Au.digits_len m
 refine enter3 _ Tryz.func84 rfl Tryz.ntmps84 Tryz.results84 rfl ?_
 have S0 := St.start w hH
 refine Wr ?_
 refine T_boxS S0 (fun _ _ => trivial) rfl rfl rfl rfl rfl rfl fun b1 w2 S3 => ?_
 refine Pv ?_
 refine T_nil ?_
 refine Wr ?_
 refine Pv ?_
 refine Cs g_aumbry_aumbryref07_Digits ((digitsR_w_ok S3.le hv (by omega)).mono ?_)
 rintro e w9 ⟨a4, c5, hc6, rfl, ho7, hB8⟩
 have S10 := S3.own hB8 ho7
 refine ⟨_, rfl, trivial, ?_⟩
 refine Pv ?_
 refine T_nil ?_
 refine Wr ?_
 refine Pv ?_
 refine T_nil ?_
 refine W_seq ?_
 refine Wr ?_
 refine Pv ?_
 refine T_nil ?_
 refine W_block ?_
 obtain ⟨G12, hl13, S11, r14⟩ := S10.stillRow 0 rfl
 have S15 := S11.nilRow 27 32
 refine W_loop (fun M ρ w' => ∃ (k : Nat) (a18 : Option Addr) (c19 : Nat) (G16 : Hp), M = 67 - k ∧ k ≤ 67 ∧ ρ = [(1, .int .i64 leaf), (3, .pointer (some ⟨b1, 0, none⟩)), (7, .slice a4 67 c5), (8, .slice a18 k c19), (9, .int .i64 (k : Int))] ∧ G12.le G16 ∧ St w H G16 [.row 27 32 (.slice a18 k c19) k (hcells (Go.Au.sign seed leaf m k)), .blk b1 (hV seed : Value).cells 23] w' ∧ (∀ y ∈ Go.Au.sign seed leaf m k, y.length = 32) ∧ k ≤ c19)
  (67 - 0) [(1, .int .i64 leaf), (3, .pointer (some ⟨b1, 0, none⟩)), (7, .slice a4 67 c5), (8, .slice none 0 0), (9, .int .i64 ((0 : Nat) : Int))] ⟨(congrArg (fun z => some (Value.int .i64 z)) (by omega)), rfl, rfl, rfl, (congrArg (fun z => some (Value.int .i64 z)) (by omega)), trivial⟩ ⟨0, none, 0, G12, rfl, (by omega), rfl, Hp.le.refl _, S15, (fun _ h => by cases h), (Nat.le_refl _)⟩ ?_
 rintro M ρ w22 ⟨k, a18, c19, G16, rfl, hp24, rfl, hl17, S23, hh21, hc20⟩
 refine W_seq ?_
 refine Wr ?_
 iterate 2 refine Pv ?_
 refine T_nil ?_
 refine W_cond_dec rfl (fun h25 => ?_) (fun h25 => ?_)
 ·refine W_skip ?_
  refine W_seq ?_
  refine W_block ?_
  refine W_plan (planF Tryz.prog G16 [24]) rfl (by kernel_rfl) S23.le ?_
  have S26 := S23.drew
  refine Pv ?_
  refine T_loadFS 1 S26 rfl rfl rfl rfl rfl rfl rfl rfl rfl (hVs hs) ?_
  iterate 2 refine Pv ?_
  refine Cs g_aumbry_aumbryref07_Start ((startR_ok S26.le leaf (k : Int) hs (by omega) (by omega)).mono ?_)
  rintro e w28 ⟨rfl, hB27⟩
  have S29 := S26.call hB27
  refine ⟨_, rfl, (((Hp.le.refl _)).trans S29.le), ?_⟩
  iterate 2 refine Pv ?_
  refine T_idxR k (r14.mono hl17) rfl rfl rfl rfl rfl rfl rfl rfl rfl (by omega) (by omega) fun b30 o31 hc32 => ?_
  have hc33 := hc32 0 (.int .i64 ((Go.Au.digits m).getD k 0)) (at_i (Go.Au.digits m) k (by omega))
  simp only [Nat.add_zero] at hc33
  refine T_loadGP (fun _ h => h) hc33 rfl rfl rfl rfl rfl rfl rfl ?_
  have hdk := Go.Au.digits_at m k (by omega)
  refine Cs g_aumbry_aumbryref07_Along ((alongR_ok S29.le ((Go.Au.digits m).getD k 0) (Go.Au.start_len _ _ _)).mono ?_)
  rintro e w35 ⟨rfl, hB34⟩
  have S36 := S29.call hB34
  refine ⟨_, rfl, (((Hp.le.refl _)).trans S36.le), ?_⟩
  refine T_re (v' := hV (Go.Au.steps ((Go.Au.digits m).getD k 0).toNat (Go.Au.start seed leaf (k : Int)))) (congrArg (fun q => hV (Go.Au.steps q _)) (by omega)) ?_
  refine T_litS (hcells [Go.Au.steps ((Go.Au.digits m).getD k 0).toNat (Go.Au.start seed leaf (k : Int))]) rfl rfl rfl rfl rfl rfl rfl rfl rfl rfl rfl rfl rfl (one_h (Go.Au.steps_len _ (Go.Au.start_len _ _ _))) (by simp [hcells, hV, Value.cells]) fun a37 w38 hB39 ho40 => ?_
  have S41 := S36.own hB39 ho40
  refine ⟨(((Hp.le.refl _)).trans S41.le), ?_⟩
  have hD42 : (Go.Au.sign seed leaf m k ++ [Go.Au.steps ((Go.Au.digits m).getD k 0).toNat (Go.Au.start seed leaf (k : Int))]) = Go.Au.sign seed leaf m (k + 1) := (Go.Au.sign_snoc _ _ _ _)
  refine T_appendS 1 (k + 1) (hcells (Go.Au.sign seed leaf m (k + 1))) S41 (fun _ h => ((Hp.le.refl _)).trans h) rfl rfl rfl rfl rfl rfl rfl rfl rfl rfl rfl rfl rfl rfl (S41.rd 0 rfl) (one_hcells _) (by first | rfl | (simp; done) | (simp; omega) | omega) (by rw [← hD42]; simp [hcells_append, hcells]) (by unfold maxLen; omega) (by show _ * 32 ≤ _; omega) fun a43 c44 w45 hc46 S47 => ?_
  have hh48 : ∀ y ∈ Go.Au.sign seed leaf m (k + 1), y.length = 32 := by rw [← hD42]; exact (all_app hh21 (all_h1 (Go.Au.steps_len _ (Go.Au.start_len _ _ _))))
  refine Pv ?_
  refine T_nil ?_
  refine W_region ?_
  refine Pv ?_
  refine Ar ?_
  refine Pv ?_
  refine T_nil ?_
  have S49 := S47.drop 0
  exact ⟨67 - (k + 1), [(1, .int .i64 leaf), (3, .pointer (some ⟨b1, 0, none⟩)), (7, .slice a4 67 c5), (8, .slice a43 (k + 1) c44), (9, .int .i64 ((k + 1 : Nat) : Int))], by omega, ⟨(congrArg (fun z => some (Value.int .i64 z)) (by omega)), rfl, rfl, rfl, (congrArg (fun z => some (Value.int .i64 z)) (by omega)), trivial⟩, k + 1, a43, c44, G16, rfl, (by omega), rfl, hl17, S49, hh48, hc46⟩
 refine W_exit ?_
 refine Wr ?_
 iterate 2 refine Pv ?_
 refine T_nil ?_
 refine W_ret ?_
 refine ⟨_, ⟨_, _, rfl, rfl, rfl⟩, ?_⟩
 obtain rfl : k = 67 := by omega
 exact ⟨_, _, hc20, rfl, S23.row 0 rfl, S23.below⟩


theorem ends_ok_no {H : Hp} {w : World} (hH : H.le (hw w)) (hT : Tabs H) {m : List UInt8} {aa0 : Option Addr} {nn0 cc0 : Nat} (hv : Rd H (.slice aa0 nn0 cc0) nn0 1 (m.map bV)) {v : List (List UInt8)} {aa1 : Option Addr} {nn1 cc1 : Nat} (hx : RdH H (.slice aa1 nn1 cc1) 32 v) (hm : m.length < 1000) (hn : v.length ≠ 67) :
  Calls Tryz.prog 157 #[.slice aa0 nn0 cc0, .slice aa1 nn1 cc1] w fun e w' => e = .returned (.tuple #[.slice none 0 0, .bool false]) ∧ Below w.heap.size w w' := by
 obtain rfl : nn0 = m.length := hv.lenB
 have hvcap : m.length ≤ cc0 := hv.capOf
 obtain rfl : nn1 = v.length := hx.len
 have hxcap : v.length ≤ cc1 := hx.2.capOf
 refine enter2 _ Tryz.func157 rfl Tryz.ntmps157 Tryz.results157 rfl ?_
 have S0 := St.start w hH
 refine Wr ?_
 iterate 2 refine Pv ?_
 refine T_nil ?_
 refine W_seq ?_
 refine Wr ?_
 iterate 3 refine Pv ?_
 refine T_nil ?_
 refine W_bool 11 true rfl (ndec_t (by omega)) ?_
 refine W_cond_true rfl ?_
 refine Wr ?_
 iterate 2 refine Pv ?_
 refine T_nil ?_
 refine W_ret ?_
 refine ⟨_, ⟨_, _, rfl, rfl, ⟨_, _, rfl, rfl, rfl⟩⟩, ?_⟩
 exact ⟨rfl, S0.below⟩


theorem ends_ok {H : Hp} {w : World} (hH : H.le (hw w)) (hT : Tabs H) {m : List UInt8} {aa0 : Option Addr} {nn0 cc0 : Nat} (hv : Rd H (.slice aa0 nn0 cc0) nn0 1 (m.map bV)) {v : List (List UInt8)} {aa1 : Option Addr} {nn1 cc1 : Nat} (hx : RdH H (.slice aa1 nn1 cc1) 32 v) (hm : m.length < 1000) (hn : v.length = 67) :
  Calls Tryz.prog 157 #[.slice aa0 nn0 cc0, .slice aa1 nn1 cc1] w fun e w' => ∃ a c, 67 ≤ c ∧ e = .returned (.tuple #[.slice a 67 c, .bool true]) ∧ rowZ w' w.heap.size 27 32 (.slice a 67 c) 67 (hcells (Go.Au.ends m v 67)) ∧ Below w.heap.size w w' := by
 obtain rfl : nn0 = m.length := hv.lenB
 have hvcap : m.length ≤ cc0 := hv.capOf
 obtain rfl : nn1 = v.length := hx.len
 have hxcap : v.length ≤ cc1 := hx.2.capOf
 have hdl := Go.Au.digits_len m
 refine enter2 _ Tryz.func157 rfl Tryz.ntmps157 Tryz.results157 rfl ?_
 have S0 := St.start w hH
 refine Wr ?_
 iterate 2 refine Pv ?_
 refine T_nil ?_
 refine W_seq ?_
 refine Wr ?_
 iterate 3 refine Pv ?_
 refine T_nil ?_
 refine W_bool 11 false rfl (ndec_f (by omega)) ?_
 refine W_cond_false rfl ?_
 refine W_skip ?_
 refine Wr ?_
 refine Pv ?_
 refine T_nil ?_
 refine W_seq ?_
 refine Wr ?_
 refine Pv ?_
 refine Cs g_aumbry_wots_Digits ((digits_w_ok S0.le hT hv (by omega)).mono ?_)
 rintro e w6 ⟨a1, c2, hc3, rfl, ho4, hB5⟩
 have S7 := S0.own hB5 ho4
 refine ⟨_, rfl, trivial, ?_⟩
 iterate 2 refine Pv ?_
 refine T_nil ?_
 refine W_block ?_
 obtain ⟨G9, hl10, S8, r11⟩ := S7.stillRow 0 rfl
 have S12 := S8.nilRow 27 32
 refine W_loop (fun M ρ w' => ∃ (k : Nat) (a15 : Option Addr) (c16 : Nat) (G13 : Hp), M = 67 - k ∧ k ≤ 67 ∧ ρ = [(1, .slice aa1 v.length cc1), (6, .slice a15 k c16), (13, .slice a1 67 c2), (14, .int .i64 ((67 : Nat) : Int)), (15, .int .i64 (k : Int))] ∧ G9.le G13 ∧ St w H G13 [.row 27 32 (.slice a15 k c16) k (hcells (Go.Au.ends m v k))] w' ∧ (∀ y ∈ Go.Au.ends m v k, y.length = 32) ∧ k ≤ c16)
  (67 - 0) [(1, .slice aa1 v.length cc1), (6, .slice none 0 0), (13, .slice a1 67 c2), (14, .int .i64 ((67 : Nat) : Int)), (15, .int .i64 ((0 : Nat) : Int))] ⟨rfl, rfl, rfl, (congrArg (fun z => some (Value.int .i64 z)) (by omega)), (congrArg (fun z => some (Value.int .i64 z)) (by omega)), trivial⟩ ⟨0, none, 0, G9, rfl, (by omega), rfl, Hp.le.refl _, S12, (fun _ h => by cases h), (Nat.le_refl _)⟩ ?_
 rintro M ρ w19 ⟨k, a15, c16, G13, rfl, hp21, rfl, hl14, S20, hh18, hc17⟩
 refine Wr ?_
 refine Pv ?_
 refine T_nil ?_
 refine W_seq ?_
 refine W_cond_dec rfl (fun h22 => ?_) (fun h22 => ?_)
 ·refine W_skip ?_
  refine W_seq ?_
  refine W_block ?_
  refine Wr ?_
  refine Pv ?_
  refine T_idxR k (r11.mono hl14) rfl rfl rfl rfl rfl rfl rfl rfl rfl (by omega) (by omega) fun b23 o24 hc25 => ?_
  have hc26 := hc25 0 (.int .i64 ((Go.Au.digits m).getD k 0)) (at_i (Go.Au.digits m) k (by omega))
  simp only [Nat.add_zero] at hc26
  refine T_loadG S20 hc26 rfl rfl rfl rfl rfl rfl rfl ?_
  iterate 2 refine Pv ?_
  refine T_nil ?_
  refine W_region ?_
  iterate 3 refine Pv ?_
  refine T_idxR k (hx.mono (hl10.trans hl14)).2 rfl rfl rfl rfl rfl rfl rfl rfl rfl (by omega) (by omega) fun b27 o28 hc29 => ?_
  have hc30 := cells_h (hx.mono (hl10.trans hl14)).1 k (by omega) hc29
  have hl31 := len_h (hx.mono (hl10.trans hl14)).1 k (by omega)
  refine T_loadGA _ S20 hc30 rfl rfl rfl rfl rfl rfl rfl rfl (hVs hl31) ?_
  refine Pv ?_
  have hdk := Go.Au.digits_at m k (by omega)
  refine Ar ?_
  refine Cs g_aumbry_wots_Along ((along_ok S20.le (hT.mono (hl10.trans hl14)) ((15 : Int) - ((Go.Au.digits m).getD k 0)) hl31).mono ?_)
  rintro e w33 ⟨rfl, hB32⟩
  have S34 := S20.call hB32
  refine ⟨_, rfl, trivial, ?_⟩
  refine T_re (v' := hV (Go.Au.steps (15 - ((Go.Au.digits m).getD k 0).toNat) (v.getD k []))) (congrArg (fun q => hV (Go.Au.steps q _)) (by omega)) ?_
  refine T_litS (hcells [Go.Au.steps (15 - ((Go.Au.digits m).getD k 0).toNat) (v.getD k [])]) rfl rfl rfl rfl rfl rfl rfl rfl rfl rfl rfl rfl rfl (one_h (Go.Au.steps_len _ (len_h hx.1 k (by omega)))) (by simp [hcells, hV, Value.cells]) fun a35 w36 hB37 ho38 => ?_
  have S39 := S34.own hB37 ho38
  refine ⟨trivial, ?_⟩
  have hD40 : (Go.Au.ends m v k ++ [Go.Au.steps (15 - ((Go.Au.digits m).getD k 0).toNat) (v.getD k [])]) = Go.Au.ends m v (k + 1) := (Go.Au.ends_snoc _ _ _)
  refine T_appendS 1 (k + 1) (hcells (Go.Au.ends m v (k + 1))) S39 (fun _ _ => trivial) rfl rfl rfl rfl rfl rfl rfl rfl rfl rfl rfl rfl rfl rfl (S39.rd 0 rfl) (one_hcells _) (by first | rfl | (simp; done) | (simp; omega) | omega) (by rw [← hD40]; simp [hcells_append, hcells]) (by unfold maxLen; omega) (by show _ * 32 ≤ _; omega) fun a41 c42 w43 hc44 S45 => ?_
  have hh46 : ∀ y ∈ Go.Au.ends m v (k + 1), y.length = 32 := by rw [← hD40]; exact (all_app hh18 (all_h1 (Go.Au.steps_len _ (len_h hx.1 k (by omega)))))
  refine Pv ?_
  refine T_nil ?_
  refine W_region ?_
  refine Ar ?_
  refine Pv ?_
  refine T_nil ?_
  have S47 := S45.drop 0
  exact ⟨67 - (k + 1), [(1, .slice aa1 v.length cc1), (6, .slice a41 (k + 1) c42), (13, .slice a1 67 c2), (14, .int .i64 ((67 : Nat) : Int)), (15, .int .i64 ((k + 1 : Nat) : Int))], by omega, ⟨rfl, rfl, rfl, (congrArg (fun z => some (Value.int .i64 z)) (by omega)), (congrArg (fun z => some (Value.int .i64 z)) (by omega)), trivial⟩, k + 1, a41, c42, G13, rfl, (by omega), rfl, hl14, S47, hh46, hc44⟩
 refine W_exit ?_
 refine Wr ?_
 iterate 3 refine Pv ?_
 refine T_nil ?_
 refine W_ret ?_
 refine ⟨_, ⟨_, _, rfl, rfl, ⟨_, _, rfl, rfl, rfl⟩⟩, ?_⟩
 obtain rfl : k = 67 := by omega
 exact ⟨_, _, hc17, rfl, S20.row 0 rfl, S20.below⟩


theorem endsVR_ok_no {H : Hp} {w : World} (hH : H.le (hw w)) {m : List UInt8} {aa0 : Option Addr} {nn0 cc0 : Nat} (hv : Rd H (.slice aa0 nn0 cc0) nn0 1 (m.map bV)) {v : List (List UInt8)} {aa1 : Option Addr} {nn1 cc1 : Nat} (hx : RdH H (.slice aa1 nn1 cc1) 32 v) (hm : m.length < 1000) (hn : v.length ≠ 67) :
  Calls Tryz.prog 130 #[.slice aa0 nn0 cc0, .slice aa1 nn1 cc1] w fun e w' => e = .returned (.tuple #[.slice none 0 0, .bool false]) ∧ Below w.heap.size w w' := by
 obtain rfl : nn0 = m.length := hv.lenB
 have hvcap : m.length ≤ cc0 := hv.capOf
 obtain rfl : nn1 = v.length := hx.len
 have hxcap : v.length ≤ cc1 := hx.2.capOf
 refine enter2 _ Tryz.func130 rfl Tryz.ntmps130 Tryz.results130 rfl ?_
 have S0 := St.start w hH
 refine Wr ?_
 iterate 2 refine Pv ?_
 refine T_nil ?_
 refine W_seq ?_
 refine Wr ?_
 iterate 3 refine Pv ?_
 refine T_nil ?_
 refine W_bool 11 true rfl (ndec_t (by omega)) ?_
 refine W_cond_true rfl ?_
 refine Wr ?_
 iterate 2 refine Pv ?_
 refine T_nil ?_
 refine W_ret ?_
 refine ⟨_, ⟨_, _, rfl, rfl, ⟨_, _, rfl, rfl, rfl⟩⟩, ?_⟩
 exact ⟨rfl, S0.below⟩


theorem endsVR_ok {H : Hp} {w : World} (hH : H.le (hw w)) {m : List UInt8} {aa0 : Option Addr} {nn0 cc0 : Nat} (hv : Rd H (.slice aa0 nn0 cc0) nn0 1 (m.map bV)) {v : List (List UInt8)} {aa1 : Option Addr} {nn1 cc1 : Nat} (hx : RdH H (.slice aa1 nn1 cc1) 32 v) (hm : m.length < 1000) (hn : v.length = 67) :
  Calls Tryz.prog 130 #[.slice aa0 nn0 cc0, .slice aa1 nn1 cc1] w fun e w' => ∃ a c, 67 ≤ c ∧ e = .returned (.tuple #[.slice a 67 c, .bool true]) ∧ rowZ w' w.heap.size 27 32 (.slice a 67 c) 67 (hcells (Go.Au.ends m v 67)) ∧ Below w.heap.size w w' := by
 obtain rfl : nn0 = m.length := hv.lenB
 have hvcap : m.length ≤ cc0 := hv.capOf
 obtain rfl : nn1 = v.length := hx.len
 have hxcap : v.length ≤ cc1 := hx.2.capOf
 have hdl := Go.Au.digits_len m
 refine enter2 _ Tryz.func130 rfl Tryz.ntmps130 Tryz.results130 rfl ?_
 have S0 := St.start w hH
 refine Wr ?_
 iterate 2 refine Pv ?_
 refine T_nil ?_
 refine W_seq ?_
 refine Wr ?_
 iterate 3 refine Pv ?_
 refine T_nil ?_
 refine W_bool 11 false rfl (ndec_f (by omega)) ?_
 refine W_cond_false rfl ?_
 refine W_skip ?_
 refine Wr ?_
 refine Pv ?_
 refine Cs g_aumbry_aumbryref07_Digits ((digitsR_w_ok S0.le hv (by omega)).mono ?_)
 rintro e w6 ⟨a1, c2, hc3, rfl, ho4, hB5⟩
 have S7 := S0.own hB5 ho4
 refine ⟨_, rfl, trivial, ?_⟩
 refine Pv ?_
 refine T_nil ?_
 refine Wr ?_
 refine Pv ?_
 refine T_nil ?_
 refine W_seq ?_
 refine Wr ?_
 iterate 3 refine Pv ?_
 refine T_nil ?_
 refine W_block ?_
 obtain ⟨G9, hl10, S8, r11⟩ := S7.stillRow 0 rfl
 have S12 := S8.nilRow 27 32
 refine W_loop (fun M ρ w' => ∃ (k : Nat) (a15 : Option Addr) (c16 : Nat) (G13 : Hp), M = 67 - k ∧ k ≤ 67 ∧ ρ = [(1, .slice aa1 v.length cc1), (6, .slice a1 67 c2), (7, .slice a15 k c16), (15, .int .i64 ((v.length : Nat) : Int)), (16, .int .i64 (k : Int))] ∧ G9.le G13 ∧ St w H G13 [.row 27 32 (.slice a15 k c16) k (hcells (Go.Au.ends m v k))] w' ∧ (∀ y ∈ Go.Au.ends m v k, y.length = 32) ∧ k ≤ c16)
  (67 - 0) [(1, .slice aa1 v.length cc1), (6, .slice a1 67 c2), (7, .slice none 0 0), (15, .int .i64 ((v.length : Nat) : Int)), (16, .int .i64 ((0 : Nat) : Int))] ⟨rfl, rfl, rfl, (congrArg (fun z => some (Value.int .i64 z)) (by omega)), (congrArg (fun z => some (Value.int .i64 z)) (by omega)), trivial⟩ ⟨0, none, 0, G9, rfl, (by omega), rfl, Hp.le.refl _, S12, (fun _ h => by cases h), (Nat.le_refl _)⟩ ?_
 rintro M ρ w19 ⟨k, a15, c16, G13, rfl, hp21, rfl, hl14, S20, hh18, hc17⟩
 refine Wr ?_
 refine Pv ?_
 refine T_nil ?_
 refine W_seq ?_
 refine W_cond_dec rfl (fun h22 => ?_) (fun h22 => ?_)
 ·refine W_skip ?_
  refine W_seq ?_
  refine W_block ?_
  refine Wr ?_
  iterate 2 refine Pv ?_
  refine T_nil ?_
  refine W_draw rfl (by kernel_rfl) ?_
  have S23 := S20.drew
  iterate 3 refine Pv ?_
  refine T_idxR k (hx.mono (hl10.trans hl14)).2 rfl rfl rfl rfl rfl rfl rfl rfl rfl (by omega) (by omega) fun b24 o25 hc26 => ?_
  have hc27 := cells_h (hx.mono (hl10.trans hl14)).1 k (by omega) hc26
  have hl28 := len_h (hx.mono (hl10.trans hl14)).1 k (by omega)
  refine T_loadGA _ S23 hc27 rfl rfl rfl rfl rfl rfl rfl rfl (hVs hl28) ?_
  iterate 2 refine Pv ?_
  refine T_idxR k (r11.mono hl14) rfl rfl rfl rfl rfl rfl rfl rfl rfl (by omega) (by omega) fun b29 o30 hc31 => ?_
  have hc32 := hc31 0 (.int .i64 ((Go.Au.digits m).getD k 0)) (at_i (Go.Au.digits m) k (by omega))
  simp only [Nat.add_zero] at hc32
  refine T_loadG S23 hc32 rfl rfl rfl rfl rfl rfl rfl ?_
  have hdk := Go.Au.digits_at m k (by omega)
  refine Ar ?_
  refine Cs g_aumbry_aumbryref07_Along ((alongR_ok S23.le ((15 : Int) - ((Go.Au.digits m).getD k 0)) hl28).mono ?_)
  rintro e w34 ⟨rfl, hB33⟩
  have S35 := S23.call hB33
  refine ⟨_, rfl, trivial, ?_⟩
  refine T_re (v' := hV (Go.Au.steps (15 - ((Go.Au.digits m).getD k 0).toNat) (v.getD k []))) (congrArg (fun q => hV (Go.Au.steps q _)) (by omega)) ?_
  refine T_litS (hcells [Go.Au.steps (15 - ((Go.Au.digits m).getD k 0).toNat) (v.getD k [])]) rfl rfl rfl rfl rfl rfl rfl rfl rfl rfl rfl rfl rfl (one_h (Go.Au.steps_len _ (len_h hx.1 k (by omega)))) (by simp [hcells, hV, Value.cells]) fun a36 w37 hB38 ho39 => ?_
  have S40 := S35.own hB38 ho39
  refine ⟨trivial, ?_⟩
  have hD41 : (Go.Au.ends m v k ++ [Go.Au.steps (15 - ((Go.Au.digits m).getD k 0).toNat) (v.getD k [])]) = Go.Au.ends m v (k + 1) := (Go.Au.ends_snoc _ _ _)
  refine T_appendS 1 (k + 1) (hcells (Go.Au.ends m v (k + 1))) S40 (fun _ _ => trivial) rfl rfl rfl rfl rfl rfl rfl rfl rfl rfl rfl rfl rfl rfl (S40.rd 0 rfl) (one_hcells _) (by first | rfl | (simp; done) | (simp; omega) | omega) (by rw [← hD41]; simp [hcells_append, hcells]) (by unfold maxLen; omega) (by show _ * 32 ≤ _; omega) fun a42 c43 w44 hc45 S46 => ?_
  have hh47 : ∀ y ∈ Go.Au.ends m v (k + 1), y.length = 32 := by rw [← hD41]; exact (all_app hh18 (all_h1 (Go.Au.steps_len _ (len_h hx.1 k (by omega)))))
  refine Pv ?_
  refine T_nil ?_
  refine W_region ?_
  refine Ar ?_
  refine Pv ?_
  refine T_nil ?_
  have S48 := S46.drop 0
  exact ⟨67 - (k + 1), [(1, .slice aa1 v.length cc1), (6, .slice a1 67 c2), (7, .slice a42 (k + 1) c43), (15, .int .i64 ((v.length : Nat) : Int)), (16, .int .i64 ((k + 1 : Nat) : Int))], by omega, ⟨rfl, rfl, rfl, (congrArg (fun z => some (Value.int .i64 z)) (by omega)), (congrArg (fun z => some (Value.int .i64 z)) (by omega)), trivial⟩, k + 1, a42, c43, G13, rfl, (by omega), rfl, hl14, S48, hh47, hc45⟩
 refine W_exit ?_
 refine Wr ?_
 iterate 3 refine Pv ?_
 refine T_nil ?_
 refine W_ret ?_
 refine ⟨_, ⟨_, _, rfl, rfl, ⟨_, _, rfl, rfl, rfl⟩⟩, ?_⟩
 obtain rfl : k = 67 := by omega
 exact ⟨_, _, hc17, rfl, S20.row 0 rfl, S20.below⟩


theorem recover_ok_no {H : Hp} {w : World} (hH : H.le (hw w)) (hT : Tabs H) {m : List UInt8} {aa0 : Option Addr} {nn0 cc0 : Nat} (hv : Rd H (.slice aa0 nn0 cc0) nn0 1 (m.map bV)) {v : List (List UInt8)} {aa1 : Option Addr} {nn1 cc1 : Nat} (hx : RdH H (.slice aa1 nn1 cc1) 32 v) (hm : m.length < 1000) (hn : v.length ≠ 67) :
  Calls Tryz.prog 125 #[.slice aa0 nn0 cc0, .slice aa1 nn1 cc1] w fun e w' => e = .returned (.tuple #[hV (List.replicate 32 0), .bool false]) ∧ Below w.heap.size w w' := by
 obtain rfl : nn0 = m.length := hv.lenB
 have hvcap : m.length ≤ cc0 := hv.capOf
 obtain rfl : nn1 = v.length := hx.len
 have hxcap : v.length ≤ cc1 := hx.2.capOf
 refine enter2 _ Tryz.func125 rfl Tryz.ntmps125 Tryz.results125 rfl ?_
 have S0 := St.start w hH
 refine Wr ?_
 refine T_allocS S0 (fun _ _ => trivial) rfl rfl rfl rfl rfl rfl rfl fun b1 w2 S3 => ?_
 refine Pv ?_
 refine T_nil ?_
 refine Wr ?_
 iterate 2 refine Pv ?_
 refine Cs g_aumbry_wots_Ends ((ends_ok_no S3.le hT hv hx (by omega) (by omega)).mono ?_)
 rintro e w5 ⟨rfl, hB4⟩
 have S6 := S3.call hB4
 refine ⟨_, rfl, trivial, ?_⟩
 iterate 5 refine Pv ?_
 refine T_nil ?_
 refine W_seq ?_
 refine Wr ?_
 iterate 2 refine Pv ?_
 refine T_nil ?_
 refine W_cond_true rfl ?_
 refine Wr ?_
 refine T_buildA (cells := (hV (List.replicate 32 0)).cells) rfl rfl rfl rfl rfl rfl rfl rfl rfl rfl ?_
 refine T_storeFS 0 S6 (fun _ _ => trivial) rfl rfl rfl rfl rfl rfl rfl rfl rfl (hVs List.length_replicate) (hVs List.length_replicate) (one_hA _) fun w7 S8 => ?_
 refine Pv ?_
 refine T_nil ?_
 refine W_ret ?_
 refine ⟨_, ⟨_, _, _, rfl, rfl, run_loadVarA rfl rfl (hVs List.length_replicate) (S8.cells 0 rfl), ⟨_, _, rfl, rfl, rfl⟩⟩, ?_⟩
 exact ⟨rfl, S8.below⟩


theorem recover_ok {H : Hp} {w : World} (hH : H.le (hw w)) (hT : Tabs H) {m : List UInt8} {aa0 : Option Addr} {nn0 cc0 : Nat} (hv : Rd H (.slice aa0 nn0 cc0) nn0 1 (m.map bV)) {v : List (List UInt8)} {aa1 : Option Addr} {nn1 cc1 : Nat} (hx : RdH H (.slice aa1 nn1 cc1) 32 v) (hm : m.length < 1000) (hn : v.length = 67) :
  Calls Tryz.prog 125 #[.slice aa0 nn0 cc0, .slice aa1 nn1 cc1] w fun e w' => e = .returned (.tuple #[hV (Go.Au.pubH (Go.Au.ends m v 67)), .bool true]) ∧ Below w.heap.size w w' := by
 obtain rfl : nn0 = m.length := hv.lenB
 have hvcap : m.length ≤ cc0 := hv.capOf
 obtain rfl : nn1 = v.length := hx.len
 have hxcap : v.length ≤ cc1 := hx.2.capOf
 have hel := Go.Au.ends_len m v 67
 refine enter2 _ Tryz.func125 rfl Tryz.ntmps125 Tryz.results125 rfl ?_
 have S0 := St.start w hH
 refine Wr ?_
 refine T_allocS S0 (fun _ _ => trivial) rfl rfl rfl rfl rfl rfl rfl fun b1 w2 S3 => ?_
 refine Pv ?_
 refine T_nil ?_
 refine Wr ?_
 iterate 2 refine Pv ?_
 refine Cs g_aumbry_wots_Ends ((ends_ok S3.le hT hv hx (by omega) (by omega)).mono ?_)
 rintro e w9 ⟨a4, c5, hc6, rfl, ho7, hB8⟩
 have S10 := S3.own hB8 ho7
 refine ⟨_, rfl, trivial, ?_⟩
 iterate 5 refine Pv ?_
 refine T_nil ?_
 refine W_seq ?_
 refine Wr ?_
 iterate 2 refine Pv ?_
 refine T_nil ?_
 refine W_cond_false rfl ?_
 refine W_skip ?_
 refine Wr ?_
 refine Pv ?_
 obtain ⟨G12, hl13, S11, r14⟩ := S10.stillRow 0 rfl
 have r15 := RdH.mk (Go.Au.ends_all hx.1 (by omega)) (by decide) r14
 refine Cs g_aumbry_wots_public ((public_ok S11.le (hT.mono hl13) r15 (by omega)).mono ?_)
 rintro e w17 ⟨rfl, hB16⟩
 have S18 := S11.call hB16
 refine ⟨_, rfl, trivial, ?_⟩
 refine T_storeFS 0 S18 (fun _ _ => trivial) rfl rfl rfl rfl rfl rfl rfl rfl rfl (hVs (Go.Au.pubH_len _)) (hVs (Go.Au.pubH_len _)) (one_hA _) fun w19 S20 => ?_
 refine Pv ?_
 refine T_nil ?_
 refine W_ret ?_
 refine ⟨_, ⟨_, _, _, rfl, rfl, run_loadVarA rfl rfl (hVs (Go.Au.pubH_len _)) (S20.cells 0 rfl), ⟨_, _, rfl, rfl, rfl⟩⟩, ?_⟩
 exact ⟨rfl, S20.below⟩


theorem recoverR_ok_no {H : Hp} {w : World} (hH : H.le (hw w)) {m : List UInt8} {aa0 : Option Addr} {nn0 cc0 : Nat} (hv : Rd H (.slice aa0 nn0 cc0) nn0 1 (m.map bV)) {v : List (List UInt8)} {aa1 : Option Addr} {nn1 cc1 : Nat} (hx : RdH H (.slice aa1 nn1 cc1) 32 v) (hm : m.length < 1000) (hn : v.length ≠ 67) :
  Calls Tryz.prog 97 #[.slice aa0 nn0 cc0, .slice aa1 nn1 cc1] w fun e w' => e = .returned (.tuple #[hV (List.replicate 32 0), .bool false]) ∧ Below w.heap.size w w' := by
 obtain rfl : nn0 = m.length := hv.lenB
 have hvcap : m.length ≤ cc0 := hv.capOf
 obtain rfl : nn1 = v.length := hx.len
 have hxcap : v.length ≤ cc1 := hx.2.capOf
 refine enter2 _ Tryz.func97 rfl Tryz.ntmps97 Tryz.results97 rfl ?_
 have S0 := St.start w hH
 refine Wr ?_
 refine T_allocS S0 (fun _ _ => trivial) rfl rfl rfl rfl rfl rfl rfl fun b1 w2 S3 => ?_
 refine Pv ?_
 refine T_nil ?_
 refine Wr ?_
 iterate 2 refine Pv ?_
 refine Cs g_aumbry_aumbryref07_Ends ((endsVR_ok_no S3.le hv hx (by omega) (by omega)).mono ?_)
 rintro e w5 ⟨rfl, hB4⟩
 have S6 := S3.call hB4
 refine ⟨_, rfl, trivial, ?_⟩
 iterate 5 refine Pv ?_
 refine T_nil ?_
 refine W_seq ?_
 refine Wr ?_
 iterate 2 refine Pv ?_
 refine T_nil ?_
 refine W_cond_true rfl ?_
 refine Wr ?_
 refine T_buildA (cells := (hV (List.replicate 32 0)).cells) rfl rfl rfl rfl rfl rfl rfl rfl rfl rfl ?_
 refine T_storeFS 0 S6 (fun _ _ => trivial) rfl rfl rfl rfl rfl rfl rfl rfl rfl (hVs List.length_replicate) (hVs List.length_replicate) (one_hA _) fun w7 S8 => ?_
 refine Pv ?_
 refine T_nil ?_
 refine W_ret ?_
 refine ⟨_, ⟨_, _, _, rfl, rfl, run_loadVarA rfl rfl (hVs List.length_replicate) (S8.cells 0 rfl), ⟨_, _, rfl, rfl, rfl⟩⟩, ?_⟩
 exact ⟨rfl, S8.below⟩


theorem recoverR_ok {H : Hp} {w : World} (hH : H.le (hw w)) {m : List UInt8} {aa0 : Option Addr} {nn0 cc0 : Nat} (hv : Rd H (.slice aa0 nn0 cc0) nn0 1 (m.map bV)) {v : List (List UInt8)} {aa1 : Option Addr} {nn1 cc1 : Nat} (hx : RdH H (.slice aa1 nn1 cc1) 32 v) (hm : m.length < 1000) (hn : v.length = 67) :
  Calls Tryz.prog 97 #[.slice aa0 nn0 cc0, .slice aa1 nn1 cc1] w fun e w' => e = .returned (.tuple #[hV (Go.Au.pubH (Go.Au.ends m v 67)), .bool true]) ∧ Below w.heap.size w w' := by
 obtain rfl : nn0 = m.length := hv.lenB
 have hvcap : m.length ≤ cc0 := hv.capOf
 obtain rfl : nn1 = v.length := hx.len
 have hxcap : v.length ≤ cc1 := hx.2.capOf
 have hel := Go.Au.ends_len m v 67
 refine enter2 _ Tryz.func97 rfl Tryz.ntmps97 Tryz.results97 rfl ?_
 have S0 := St.start w hH
 refine Wr ?_
 refine T_allocS S0 (fun _ _ => trivial) rfl rfl rfl rfl rfl rfl rfl fun b1 w2 S3 => ?_
 refine Pv ?_
 refine T_nil ?_
 refine Wr ?_
 iterate 2 refine Pv ?_
 refine Cs g_aumbry_aumbryref07_Ends ((endsVR_ok S3.le hv hx (by omega) (by omega)).mono ?_)
 rintro e w9 ⟨a4, c5, hc6, rfl, ho7, hB8⟩
 have S10 := S3.own hB8 ho7
 refine ⟨_, rfl, trivial, ?_⟩
 iterate 5 refine Pv ?_
 refine T_nil ?_
 refine W_seq ?_
 refine Wr ?_
 iterate 2 refine Pv ?_
 refine T_nil ?_
 refine W_cond_false rfl ?_
 refine W_skip ?_
 refine Wr ?_
 refine Pv ?_
 obtain ⟨G12, hl13, S11, r14⟩ := S10.stillRow 0 rfl
 have r15 := RdH.mk (Go.Au.ends_all hx.1 (by omega)) (by decide) r14
 refine Cs g_aumbry_aumbryref07_publicText ((pubTextR_ok S11.le r15 (by omega)).mono ?_)
 rintro e w21 ⟨a16, c17, hc18, rfl, ho19, hB20⟩
 have S22 := S11.own hB20 ho19
 refine ⟨_, rfl, trivial, ?_⟩
 have htl := Go.Au.text_all (tag := [112, 117, 98, 108, 105, 99]) (n := 67) (by decide) (Go.Au.ends_all (m := m) (k := 67) hx.1 (by omega)) (by decide) (by omega) (by decide)
 obtain ⟨G24, hl25, S23, r26⟩ := S22.stillRow 0 rfl
 refine Cs g_aumbry_aumbryref01_Sum ((sumR_ok S23.le r26 (by omega)).mono ?_)
 rintro e w28 ⟨rfl, hB27⟩
 have S29 := S23.call hB27
 refine ⟨_, rfl, trivial, ?_⟩
 refine T_re (v' := hV (Go.Au.pubH (Go.Au.ends m v 67))) rfl ?_
 refine T_storeFS 0 S29 (fun _ _ => trivial) rfl rfl rfl rfl rfl rfl rfl rfl rfl (hVs (Go.Au.pubH_len _)) (hVs (Go.Au.pubH_len _)) (one_hA _) fun w30 S31 => ?_
 refine Pv ?_
 refine T_nil ?_
 refine W_ret ?_
 refine ⟨_, ⟨_, _, _, rfl, rfl, run_loadVarA rfl rfl (hVs (Go.Au.pubH_len _)) (S31.cells 0 rfl), ⟨_, _, rfl, rfl, rfl⟩⟩, ?_⟩
 exact ⟨rfl, S31.below⟩

end Go.Proofs.YtmjmjjkigblbgaaGreatDoor
