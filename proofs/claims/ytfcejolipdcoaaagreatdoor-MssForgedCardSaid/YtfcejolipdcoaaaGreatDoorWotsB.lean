/- Walks of the program's functions. -/
import Derived.Test.YtfcejolipdcoaaaGreatDoorRefB
import Derived.Test.YtfcejolipdcoaaaGreatDoorTab
import Derived.Test.YtfcejolipdcoaaaGreatDoorFLaidAll
import Derived.Test.YtfcejolipdcoaaaGreatDoorRows
import Derived.WalkKit
import Derived.ProofKit
import Derived.OpenShut
import Derived.ShutString
import Derived.ChangeOld
import Derived.Below
import Derived.LaidMore
import Derived.Stop.Joined
import Derived.Test.YtfcejolipdcoaaaGreatDoorAuAll
import Derived.Test.YtfcejolipdcoaaaGreatDoorFRest
import Derived.Test.YtfcejolipdcoaaaGreatDoorFDoor
set_option linter.unusedVariables false
set_option linter.unusedSimpArgs false
set_option maxRecDepth 8192
namespace Go.Proofs.YtfcejolipdcoaaaGreatDoor
open Go Go.F Go.RowKit
open Go.Au

theorem digitsR_w_ok {H : Hp} {w : World} (hH : H.le (hw w)) {m : List UInt8} {aa0 : Option Addr} {nn0 cc0 : Nat} (hv : Rd H (.slice aa0 nn0 cc0) nn0 1 (m.map bV)) (hl : m.length < 1000) :
  Calls Tryz.prog 48 #[.slice aa0 nn0 cc0] w fun e w' => ∃ a c, 67 ≤ c ∧ e = .returned (.slice a 67 c) ∧ rowZ w' w.heap.size 3 1 (.slice a 67 c) 67 ((Go.Au.digits m).map iV) ∧ Below w.heap.size w w' := by
 obtain rfl : nn0 = m.length := hv.lenB
 have hvcap : m.length ≤ cc0 := hv.capOf
 refine enter1 _ Tryz.func48 rfl Tryz.ntmps48 Tryz.results48 rfl ?_
 have S0 := St.start w hH
 refine Wr (Pv (Nr ?_))
 refine Pv ?_
 have rs5 : Rds H [.slice aa0 m.length cc0] [m] := Rds.cons (Rd.canonB hv) (Rds.nil _)
 refine Ad (hone := by simp [Value.cells]; rfl) [.slice aa0 m.length cc0] fun a1 w2 hB3 ho4 => ?_
 have S6 := S0.own hB3 ho4
 refine ⟨trivial, ?_⟩
 obtain ⟨G8, hl9, S7, r10⟩ := S6.stillRow 0 rfl
 have r11 := RdL.mk r10 (rs5.mono hl9)
 refine T_callS rfl rfl g_aumbry_aumbryref01_Tagged rfl rfl rfl rfl ((taggedR_ok S7.le r11 (text1 (by decide) hl)).mono ?_)
 rintro e w13 ⟨rfl, hB12⟩
 have S14 := S7.call hB12
 refine ⟨_, rfl, trivial, ?_⟩
 refine T_re (v' := hV (mh m)) rfl (Ac S14 fun b15 w16 S17 => ?_)
 refine Ag (hl := by exact hVs (mh_len _)) (hl2 := by exact hVs (mh_len _)) (h1 := by exact one_hA _) 0 S17 fun w18 S19 => (Nr ?_)
 refine Pv (Nr ?_)
 refine Pv (T_nil (W_seq (Wr ?_)))
 refine Pv (T_nil (W_block ?_))
 have S20 := S19.nilRow 3 1
 refine W_loop (fun M ρ w' => ∃ (k : Nat) (a23 : Option Addr) (c24 : Nat) (G21 : Hp), M = 32 - k ∧ k ≤ 32 ∧ ρ = [(3, .pointer (some ⟨b15, 0, none⟩)), (4, .slice a23 ((nib ((mh m).take k)).length) c24), (5, .int .i64 ((chk ((mh m).take k) : Nat) : Int)), (10, .int .i64 (k : Int))] ∧ G8.le G21 ∧ St w H G21 [.row 3 1 (.slice a23 ((nib ((mh m).take k)).length) c24) ((nib ((mh m).take k)).length) ((nib ((mh m).take k)).map iV), .blk b15 (hV (mh m) : Value).cells 37] w' ∧ (nib ((mh m).take k)).length ≤ c24)
  (32 - 0) [(3, .pointer (some ⟨b15, 0, none⟩)), (4, .slice none 0 0), (5, .int .i64 ((0 : Nat) : Int)), (10, .int .i64 ((0 : Nat) : Int))] ⟨rfl, rfl, ciI, ciI, trivial⟩ ⟨0, none, 0, G8, rfl, (by omega), rfl, Hp.le.refl _, S20, (Nat.le_refl _)⟩ ?_
 rintro M ρ w26 ⟨k, a23, c24, G21, rfl, hp28, rfl, hl22, S27, hc25⟩
 refine Wr (Pv (T_nil (W_seq ?_)))
 refine Aa (fun h29 => ?_) (fun h29 => ?_)
 ·refine W_skip (W_seq (W_block (Wr ?_)))
  have hcb := ((mh m).getD k 0).toNat_lt
  have hck := chk_take_le (mh m) k
  have hml := mh_len m
  have hct := chk_take (l := mh m) (k := k) (by omega)
  refine P2 (T_nil (W_seq ?_))
  refine W_draw rfl (by kernel_rfl) ?_
  have S30 := S27.drew
  refine P2 ?_
  refine T_idxA1 rfl rfl rfl rfl rfl rfl rfl rfl rfl (by first | omega | decide) ?_
  refine T_loadS 1 k S30 rfl rfl rfl rfl rfl rfl rfl rfl (by omega) (cell_hV _ k (by rw [(mh_len _)]; omega)) ?_
  refine T_quoU rfl rfl rfl rfl rfl rfl rfl (by omega) (by rw [IntKind.wrap_u8]; omega) ?_
  refine T_re (v' := .int .u8 ((((mh m).getD k 0).toNat / 16 : Nat) : Int)) (congrArg (Value.int .u8) (by omega)) ?_
  refine Pv ?_
  refine T_re (v' := .int .i64 ((((mh m).getD k 0).toNat / 16 : Nat) : Int)) (congrArg (Value.int .i64) (by rw [wrap64_id (by omega) (by omega)])) ?_
  refine Pv ?_
  refine T_idxA1 rfl rfl rfl rfl rfl rfl rfl rfl rfl (by first | omega | decide) ?_
  refine T_loadS 1 k S30 rfl rfl rfl rfl rfl rfl rfl rfl (by omega) (cell_hV _ k (by rw [(mh_len _)]; omega)) ?_
  refine T_remU rfl rfl rfl rfl rfl rfl rfl (by omega) ?_
  refine T_re (v' := .int .u8 ((((mh m).getD k 0).toNat % 16 : Nat) : Int)) (congrArg (Value.int .u8) (by omega)) ?_
  refine Pv ?_
  refine T_re (v' := .int .i64 ((((mh m).getD k 0).toNat % 16 : Nat) : Int)) (congrArg (Value.int .i64) (by rw [wrap64_id (by omega) (by omega)])) ?_
  refine Ad (hone := by simp [Value.cells]; rfl) ([((((mh m).getD k 0).toNat / 16 : Nat) : Int), ((((mh m).getD k 0).toNat % 16 : Nat) : Int)].map iV) fun a31 w32 hB33 ho34 => ?_
  have S35 := S30.own hB33 ho34
  refine ⟨trivial, ?_⟩
  have hD36 : (nib ((mh m).take k) ++ [((((mh m).getD k 0).toNat / 16 : Nat) : Int), ((((mh m).getD k 0).toNat % 16 : Nat) : Int)]) = nib ((mh m).take (k + 1)) := (nib_take (by omega))
  refine Ae (h1 := by exact one_iV _) (hn' := by rw [← hD36]; first | rfl | (simp; done) | (simp; omega) | omega) (hx' := by rw [← hD36]; simp) (h63 := by unfold maxLen; first | (rw [nib_len, List.length_take]; omega) | (rw [digits_len]; omega)) (hbytes := by show _ * 8 ≤ _; first | (rw [nib_len, List.length_take]; omega) | (rw [digits_len]; omega)) 1 ((nib ((mh m).take (k + 1))).length) ((nib ((mh m).take (k + 1))).map iV) S35 (S35.rd 0 rfl) fun a37 c38 w39 hc40 S41 => ?_
  refine Pv (T_nil ?_)
  refine W_draw rfl (by kernel_rfl) ?_
  have S42 := S41.drew
  refine P2 ?_
  refine T_idxA1 rfl rfl rfl rfl rfl rfl rfl rfl rfl (by first | omega | decide) ?_
  refine T_loadS 2 k S42 rfl rfl rfl rfl rfl rfl rfl rfl (by omega) (cell_hV _ k (by rw [(mh_len _)]; omega)) ?_
  refine T_quoU rfl rfl rfl rfl rfl rfl rfl (by omega) (by rw [IntKind.wrap_u8]; omega) ?_
  refine T_re (v' := .int .u8 ((((mh m).getD k 0).toNat / 16 : Nat) : Int)) (congrArg (Value.int .u8) (by omega)) ?_
  refine Pv ?_
  refine T_re (v' := .int .i64 ((((mh m).getD k 0).toNat / 16 : Nat) : Int)) (congrArg (Value.int .i64) (by rw [wrap64_id (by omega) (by omega)])) ?_
  refine Ar ?_
  refine Pv ?_
  refine T_idxA1 rfl rfl rfl rfl rfl rfl rfl rfl rfl (by first | omega | decide) ?_
  refine T_loadS 2 k S42 rfl rfl rfl rfl rfl rfl rfl rfl (by omega) (cell_hV _ k (by rw [(mh_len _)]; omega)) ?_
  refine T_remU rfl rfl rfl rfl rfl rfl rfl (by omega) ?_
  refine T_re (v' := .int .u8 ((((mh m).getD k 0).toNat % 16 : Nat) : Int)) (congrArg (Value.int .u8) (by omega)) ?_
  refine Pv ?_
  refine T_re (v' := .int .i64 ((((mh m).getD k 0).toNat % 16 : Nat) : Int)) (congrArg (Value.int .i64) (by rw [wrap64_id (by omega) (by omega)])) ?_
  iterate 2 refine Ar ?_
  refine Pv (T_nil (W_region ?_))
  refine Ar ?_
  refine Pv (T_nil ?_)
  have S43 := S42.drop 0
  exact ⟨32 - (k + 1), [(3, .pointer (some ⟨b15, 0, none⟩)), (4, .slice a37 ((nib ((mh m).take (k + 1))).length) c38), (5, .int .i64 ((chk ((mh m).take (k + 1)) : Nat) : Int)), (10, .int .i64 ((k + 1 : Nat) : Int))], by omega, ⟨rfl, rfl, ciI, ciI, trivial⟩, k + 1, a37, c38, G21, rfl, (by omega), rfl, hl22, S43, hc40⟩
 refine W_exit (Wr (P2 ?_))
 have hk32 : k = 32 := by omega
 have hck := chk_take_le (mh m) k
 have hsm : chk ((mh m).take k) = chk (mh m) := by rw [List.take_of_length_le (by rw [mh_len]; omega)]
 refine T_quo rfl rfl rfl rfl rfl rfl (by omega) ?_
 refine T_re (v' := .int .i64 ((chk (mh m) / 256 : Nat) : Int)) (congrArg (Value.int .i64) (by rw [hsm]; omega)) ?_
 refine Pv ?_
 refine T_quo rfl rfl rfl rfl rfl rfl (by omega) ?_
 refine T_rem rfl rfl rfl rfl rfl rfl (by omega) ?_
 refine T_re (v' := .int .i64 ((chk (mh m) / 16 % 16 : Nat) : Int)) (congrArg (Value.int .i64) (by rw [hsm]; omega)) ?_
 refine Pv ?_
 refine T_rem rfl rfl rfl rfl rfl rfl (by omega) ?_
 refine T_re (v' := .int .i64 ((chk (mh m) % 16 : Nat) : Int)) (congrArg (Value.int .i64) (by rw [hsm]; omega)) ?_
 refine Ad (hone := by simp [Value.cells]; rfl) ([((chk (mh m) / 256 : Nat) : Int), ((chk (mh m) / 16 % 16 : Nat) : Int), ((chk (mh m) % 16 : Nat) : Int)].map iV) fun a44 w45 hB46 ho47 => ?_
 have S48 := S27.own hB46 ho47
 refine ⟨trivial, ?_⟩
 have hD49 : (nib ((mh m).take k) ++ [((chk (mh m) / 256 : Nat) : Int), ((chk (mh m) / 16 % 16 : Nat) : Int), ((chk (mh m) % 16 : Nat) : Int)]) = Go.Au.digits m := (by rw [List.take_of_length_le (by rw [mh_len]; omega)]; rfl)
 refine Ae (h1 := by exact one_iV _) (hn' := by rw [← hD49]; first | rfl | (simp; done) | (simp; omega) | omega) (hx' := by rw [← hD49]; simp) (h63 := by unfold maxLen; first | (rw [nib_len, List.length_take]; omega) | (rw [digits_len]; omega)) (hbytes := by show _ * 8 ≤ _; first | (rw [nib_len, List.length_take]; omega) | (rw [digits_len]; omega)) 1 ((Go.Au.digits m).length) ((Go.Au.digits m).map iV) S48 (S48.rd 0 rfl) fun a50 c51 w52 hc53 S54 => ?_
 refine Pv (T_nil (W_ret ?_))
 refine ⟨_, ⟨_, _, rfl, rfl, rfl⟩, ?_⟩
 exact dig_end (digits_len m) hc53 (S54.row 1 rfl) S54.below


theorem public_ok {H : Hp} {w : World} (hH : H.le (hw w)) (hT : Tabs H) {l : List (List UInt8)} {aa0 : Option Addr} {nn0 cc0 : Nat} (hv : RdH H (.slice aa0 nn0 cc0) 32 l) (hn : l.length ≤ 100) :
  Calls Tryz.prog 67 #[.slice aa0 nn0 cc0] w fun e w' => e = .returned (hV (pubH l)) ∧ Below w.heap.size w w' := by
 obtain rfl : nn0 = l.length := hv.len
 have hvcap : l.length ≤ cc0 := hv.2.capOf
 refine enter1 _ Tryz.func67 rfl Tryz.ntmps67 Tryz.results67 rfl ?_
 have S0 := St.start w hH
 refine Wr (Ac S0 fun b1 w2 S3 => (Nr ?_))
 refine Pv (T_nil (W_seq (Wr ?_)))
 refine P3 (T_nil (W_block ?_))
 have S4 := S3.nilRow 24 1
 have rs5 := Rds.nil H
 refine W_loop (fun M ρ w' => ∃ (k : Nat) (a8 : Option Addr) (c9 : Nat) (hs11 : List Value) (G6 : Hp), M = l.length - k ∧ k ≤ l.length ∧ ρ = [(2, .pointer (some ⟨b1, 0, none⟩)), (3, .slice a8 ((l.take k).length) c9), (6, .slice aa0 l.length cc0), (7, .int .i64 ((l.length : Nat) : Int)), (8, .int .i64 (k : Int))] ∧ H.le G6 ∧ St w H G6 [.row 24 1 (.slice a8 ((l.take k).length) c9) ((l.take k).length) hs11, .blk b1 (hV (List.replicate 32 0) : Value).cells 37] w' ∧ Rds G6 hs11 (l.take k) ∧ (l.take k).length ≤ c9)
  (l.length - 0) [(2, .pointer (some ⟨b1, 0, none⟩)), (3, .slice none 0 0), (6, .slice aa0 l.length cc0), (7, .int .i64 ((l.length : Nat) : Int)), (8, .int .i64 ((0 : Nat) : Int))] ⟨rfl, rfl, rfl, ciI, ciI, trivial⟩ ⟨0, none, 0, _, H, rfl, (by omega), rfl, Hp.le.refl _, S4, rs5, (Nat.le_refl _)⟩ ?_
 rintro M ρ w13 ⟨k, a8, c9, hs11, G6, rfl, hp15, rfl, hl7, S14, rs12, hc10⟩
 refine Wr (Pv (T_nil (W_seq ?_)))
 refine Aa (fun h16 => ?_) (fun h16 => ?_)
 ·refine W_skip (W_seq (W_block (Wr (Af k (hv.mono hl7).2 fun b17 o18 hc19 => ?_))))
  have hc20 := cells_h (hv.mono hl7).1 k (by omega) hc19
  have hl21 := len_h (hv.mono hl7).1 k (by omega)
  refine T_loadGA _ S14 hc20 rfl rfl rfl rfl rfl rfl rfl rfl (hVs hl21) (Ac S14 fun b22 w23 S24 => ?_)
  refine Ag (hl := by exact hVs hl21) (hl2 := by exact hVs hl21) (h1 := by exact one_hA _) 0 S24 fun w25 S26 => (T_nil (W_region ?_))
  have hlk := len_h hv.1 k (by omega)
  refine Pv ?_
  obtain ⟨G28, hl29, S27, r30⟩ := S26.stillBlk 0 rfl
  refine T_sliceAll rfl rfl rfl rfl rfl rfl rfl rfl ?_
  have r31 := Rd.of_blk (m := 32) (size := 1) (xs := (l.getD k []).map bV) r30 (hcell1 _) (by rw [List.length_map, hl21])
  have S32 := S27.nilRow 5 1
  refine Ae (h1 := by exact one_bV _) (hn' := by first | rfl | (simp; done) | (simp; omega) | omega) (hx' := by simp) (hbytes := by show _ * 1 ≤ _; omega) 0 ((l.getD k []).length) ((l.getD k []).map bV) S32 (r31.mono S32.le) fun a33 c34 w35 hc36 S37 => ?_
  obtain ⟨G43, hl44, S42, r45⟩ := S37.stillRow 0 rfl
  have rs46 : Rds G43 [.slice a33 ((l.getD k []).length) c34] [l.getD k []] := Rds.cons (Rd.canonB r45) (Rds.nil _)
  refine Ad (hone := by simp [Value.cells]; rfl) [.slice a33 ((l.getD k []).length) c34] fun a38 w39 hB40 ho41 => ?_
  have S47 := S42.own hB40 ho41
  refine ⟨trivial, ?_⟩
  have hD48 : ((l.take k) ++ [l.getD k []]) = (l.take (k + 1)) := (take_snoc (by omega))
  refine T_appendS 1 ((l.take (k + 1)).length) _ S47 (fun _ _ => trivial) rfl rfl rfl rfl rfl rfl rfl rfl rfl rfl rfl rfl rfl rfl (S47.rd 0 rfl) rs46.one (by rw [← hD48]; first | rfl | (simp; done) | (simp; omega) | omega) rfl (by unfold maxLen; rw [List.length_take]; omega) (by show _ * 24 ≤ _; rw [List.length_take]; omega) fun a49 c50 w51 hc52 S53 => ?_
  have rs54 := Rds.append (rs12.mono (hl29.trans hl44)) rs46
  rw [hD48] at rs54
  refine Pv (T_nil (W_region ?_))
  refine Ar ?_
  refine Pv (T_nil ?_)
  have S55 := S53.drop 0
  exact ⟨l.length - (k + 1), [(2, .pointer (some ⟨b1, 0, none⟩)), (3, .slice a49 ((l.take (k + 1)).length) c50), (6, .slice aa0 l.length cc0), (7, .int .i64 ((l.length : Nat) : Int)), (8, .int .i64 ((k + 1 : Nat) : Int))], by omega, ⟨rfl, rfl, rfl, ciI, ciI, trivial⟩, k + 1, a49, c50, _, G43, rfl, (by omega), rfl, (hl7.trans (hl29.trans hl44)), S55, rs54, hc52⟩
 refine W_exit (Wr ?_)
 have hkl : k = l.length := by omega
 have hll : l.take k = l := by rw [List.take_of_length_le (by omega)]
 refine Pv ?_
 obtain ⟨G57, hl58, S56, r59⟩ := S14.stillRow 0 rfl
 have r60 := RdL.mk r59 (rs12.mono hl58)
 refine T_callS rfl rfl g_aumbry_sha_Tagged rfl rfl rfl rfl ((tagged_ok S56.le (hT.mono (hl7.trans hl58)) r60 (by rw [hll]; exact text_all (n := 100) (by decide) hv.1 (by decide) hn (by decide))).mono ?_)
 rintro e w62 ⟨rfl, hB61⟩
 have S63 := S56.call hB61
 refine ⟨_, rfl, trivial, ?_⟩
 refine T_re (v' := hV (pubH l)) (by rw [hll]; rfl) ?_
 refine Ag (hl := by exact hVs (pubH_len _)) (hl2 := by exact hVs (pubH_len _)) (h1 := by exact one_hA _) 0 S63 fun w64 S65 => (T_nil (W_ret ?_))
 refine ⟨_, ⟨_, _, _, rfl, rfl, run_loadVarA rfl rfl (hVs (pubH_len _)) (S65.cells 0 rfl), rfl⟩, ?_⟩
 exact ⟨rfl, S65.below⟩


theorem netPub_ok {H : Hp} {w : World} (hH : H.le (hw w)) {a0 : Option Addr} {n0 c0 : Nat} (l : List (List UInt8)) (hv : Rd H (.slice a0 n0 c0) n0 1 (([112, 117, 98, 108, 105, 99] : List UInt8).map bV)) :
  Calls Tryz.prog 80 #[.slice a0 n0 c0] w fun e w' => ∃ a c, (Go.Au.text [112, 117, 98, 108, 105, 99] (l.take 0)).length ≤ c ∧ e = .returned (.slice a (Go.Au.text [112, 117, 98, 108, 105, 99] (l.take 0)).length c) ∧ rowZ w' w.heap.size 5 1 (.slice a (Go.Au.text [112, 117, 98, 108, 105, 99] (l.take 0)).length c) (Go.Au.text [112, 117, 98, 108, 105, 99] (l.take 0)).length ((Go.Au.text [112, 117, 98, 108, 105, 99] (l.take 0)).map bV) ∧ Below w.heap.size w w' := by
 obtain rfl : n0 = _ := hv.lenB
 have h := netR_ok hH hv (by decide)
 have e0 : net [112, 117, 98, 108, 105, 99] = Go.Au.text [112, 117, 98, 108, 105, 99] (l.take 0) := by simp [Go.Au.text, nets]
 rw [e0] at h
 exact h

theorem pubTextR_ok {H : Hp} {w : World} (hH : H.le (hw w)) {l : List (List UInt8)} {aa0 : Option Addr} {nn0 cc0 : Nat} (hv : RdH H (.slice aa0 nn0 cc0) 32 l) (hn : l.length ≤ 100) :
  Calls Tryz.prog 46 #[.slice aa0 nn0 cc0] w fun e w' => ∃ a c, (Go.Au.text [112, 117, 98, 108, 105, 99] l).length ≤ c ∧ e = .returned (.slice a (Go.Au.text [112, 117, 98, 108, 105, 99] l).length c) ∧ rowZ w' w.heap.size 5 1 (.slice a (Go.Au.text [112, 117, 98, 108, 105, 99] l).length c) (Go.Au.text [112, 117, 98, 108, 105, 99] l).length ((Go.Au.text [112, 117, 98, 108, 105, 99] l).map bV) ∧ Below w.heap.size w w' := by
 obtain rfl : nn0 = l.length := hv.len
 have hvcap : l.length ≤ cc0 := hv.2.capOf
 have htl := text_all (tag := [112, 117, 98, 108, 105, 99]) (n := 100) (by decide) hv.1 (by decide) hn (by decide)
 refine enter1 _ Tryz.func46 rfl Tryz.ntmps46 Tryz.results46 rfl ?_
 have S0 := St.start w hH
 refine Wr (Pv (Nr ?_))
 refine Ad (hone := by simp [Value.cells]; rfl) ([(112 : UInt8), (117 : UInt8), (98 : UInt8), (108 : UInt8), (105 : UInt8), (99 : UInt8)].map bV) fun a1 w2 hB3 ho4 => ?_
 have S5 := S0.own hB3 ho4
 refine ⟨trivial, ?_⟩
 refine T_mark 0 S5 (fun _ _ => trivial) rfl rfl rfl rfl rfl rfl rfl rfl rfl rfl (by omega) fun w6 S7 => ?_
 obtain ⟨G9, hl10, S8, r11⟩ := S7.stillRow 0 rfl
 refine Cs g_aumbry_aumbryref01_Net ((netPub_ok S8.le l r11).mono ?_)
 rintro e w17 ⟨a12, c13, hc14, rfl, ho15, hB16⟩
 have S18 := S8.own hB16 ho15
 refine ⟨_, rfl, trivial, ?_⟩
 refine Pv (T_nil (W_seq (Wr ?_)))
 refine P3 (T_nil (W_block ?_))
 refine W_loop (fun M ρ w' => ∃ (k : Nat) (a21 : Option Addr) (c22 : Nat) (G19 : Hp), M = l.length - k ∧ k ≤ l.length ∧ ρ = [(0, .slice aa0 l.length cc0), (3, .slice a21 ((Go.Au.text [112, 117, 98, 108, 105, 99] (l.take k)).length) c22), (9, .int .i64 ((l.length : Nat) : Int)), (10, .int .i64 (k : Int))] ∧ G9.le G19 ∧ St w H G19 [.row 5 1 (.slice a21 ((Go.Au.text [112, 117, 98, 108, 105, 99] (l.take k)).length) c22) ((Go.Au.text [112, 117, 98, 108, 105, 99] (l.take k)).length) ((Go.Au.text [112, 117, 98, 108, 105, 99] (l.take k)).map bV)] w' ∧ (Go.Au.text [112, 117, 98, 108, 105, 99] (l.take k)).length ≤ c22)
  (l.length - 0) [(0, .slice aa0 l.length cc0), (3, .slice a12 ((Go.Au.text [112, 117, 98, 108, 105, 99] (l.take 0)).length) c13), (9, .int .i64 ((l.length : Nat) : Int)), (10, .int .i64 ((0 : Nat) : Int))] ⟨rfl, rfl, ciI, ciI, trivial⟩ ⟨0, a12, c13, G9, rfl, (by omega), rfl, Hp.le.refl _, S18, hc14⟩ ?_
 rintro M ρ w24 ⟨k, a21, c22, G19, rfl, hp26, rfl, hl20, S25, hc23⟩
 refine Wr (Pv (T_nil (W_seq ?_)))
 refine Aa (fun h27 => ?_) (fun h27 => ?_)
 ·refine W_skip (W_seq (W_block (Wr (P2 (T_nil (W_region ?_))))))
  refine P3 ?_
  refine Af k (hv.mono (hl10.trans hl20)).2 fun b28 o29 hc30 => ?_
  have hc31 := cells_h (hv.mono (hl10.trans hl20)).1 k (by omega) hc30
  have hl32 := len_h (hv.mono (hl10.trans hl20)).1 k (by omega)
  refine T_sliceAll rfl rfl rfl rfl rfl rfl rfl rfl ?_
  have r33 := (Rd.of_cells (m := 32) (size := 1) (xs := (l.getD k []).map bV) (cells_bV hc31) (by rw [List.length_map, hl32]))
  have hlk := len_h hv.1 k (by omega)
  have htk := text_take_le [112, 117, 98, 108, 105, 99] l (k + 1)
  refine T_callS rfl rfl g_aumbry_aumbryref01_Net rfl rfl rfl rfl ((netR_ok S25.le r33 (by rw [hlk]; decide)).mono ?_)
  rintro e w39 ⟨a34, c35, hc36, rfl, ho37, hB38⟩
  have S40 := S25.own hB38 ho37
  refine ⟨_, rfl, trivial, ?_⟩
  have hD41 : (Go.Au.text [112, 117, 98, 108, 105, 99] (l.take k) ++ net (l.getD k [])) = Go.Au.text [112, 117, 98, 108, 105, 99] (l.take (k + 1)) := (text_snoc (by omega))
  refine Ae (h1 := by exact one_bV _) (hn' := by rw [← hD41]; first | rfl | (simp; done) | (simp; omega) | omega) (hx' := by rw [← hD41]; simp) (hbytes := by show _ * 1 ≤ _; omega) 1 ((Go.Au.text [112, 117, 98, 108, 105, 99] (l.take (k + 1))).length) ((Go.Au.text [112, 117, 98, 108, 105, 99] (l.take (k + 1))).map bV) S40 (S40.rd 0 rfl) fun a42 c43 w44 hc45 S46 => ?_
  refine Pv (T_nil (W_region ?_))
  refine Ar ?_
  refine Pv (T_nil ?_)
  have S47 := S46.drop 0
  exact ⟨l.length - (k + 1), [(0, .slice aa0 l.length cc0), (3, .slice a42 ((Go.Au.text [112, 117, 98, 108, 105, 99] (l.take (k + 1))).length) c43), (9, .int .i64 ((l.length : Nat) : Int)), (10, .int .i64 ((k + 1 : Nat) : Int))], by omega, ⟨rfl, rfl, ciI, ciI, trivial⟩, k + 1, a42, c43, G19, rfl, (by omega), rfl, hl20, S47, hc45⟩
 refine W_exit (Wr (P2 (T_nil (W_ret ?_))))
 refine ⟨_, ⟨_, _, rfl, rfl, rfl⟩, ?_⟩
 obtain rfl : k = l.length := by omega
 exact nets_end (by rw [List.take_length]) hc23 (S25.row 0 rfl) S25.below


theorem pub_ok {H : Hp} {w : World} (hH : H.le (hw w)) (hT : Tabs H) {seed : List UInt8} (leaf : Int) (hs : seed.length = 16) (hl : leaf ≤ 9223372036854775807) :
  Calls Tryz.prog 63 #[hV seed, .int .i64 leaf] w fun e w' => e = .returned (hV (pub seed leaf)) ∧ Below w.heap.size w w' := by
 refine enter2 _ Tryz.func63 rfl Tryz.ntmps63 Tryz.results63 rfl ?_
 have S0 := St.start w hH
 refine Wr (Ah S0 fun b1 w2 S3 => ?_)
 refine Ac S3 fun b4 w5 S6 => (Nr ?_)
 refine Pv (T_nil (W_seq (Wr ?_)))
 refine Pv (T_nil (W_block ?_))
 have S7 := S6.nilRow 37 32
 refine W_loop (fun M ρ w' => ∃ (k : Nat) (a10 : Option Addr) (c11 : Nat) (G8 : Hp), M = 67 - k ∧ k ≤ 67 ∧ ρ = [(1, .int .i64 leaf), (2, .pointer (some ⟨b1, 0, none⟩)), (4, .pointer (some ⟨b4, 0, none⟩)), (5, .slice a10 k c11), (7, .int .i64 (k : Int))] ∧ H.le G8 ∧ St w H G8 [.row 37 32 (.slice a10 k c11) k (hcells (trueEnds seed leaf k)), .blk b4 (hV (List.replicate 32 0) : Value).cells 37, .blk b1 (hV seed : Value).cells 23] w' ∧ (∀ y ∈ trueEnds seed leaf k, y.length = 32) ∧ k ≤ c11)
  (67 - 0) [(1, .int .i64 leaf), (2, .pointer (some ⟨b1, 0, none⟩)), (4, .pointer (some ⟨b4, 0, none⟩)), (5, .slice none 0 0), (7, .int .i64 ((0 : Nat) : Int))] ⟨ciI, rfl, rfl, rfl, ciI, trivial⟩ ⟨0, none, 0, H, rfl, (by omega), rfl, Hp.le.refl _, S7, (fun _ h => by cases h), (Nat.le_refl _)⟩ ?_
 rintro M ρ w14 ⟨k, a10, c11, G8, rfl, hp16, rfl, hl9, S15, hh13, hc12⟩
 refine Wr (Pv (T_nil (W_seq ?_)))
 refine Aa (fun h17 => ?_) (fun h17 => ?_)
 ·refine W_skip (W_seq (W_block (Wr (P2 (T_nil (W_region ?_))))))
  refine Pv ?_
  refine Ai (hl := by exact hVs hs) 2 S15 ?_
  refine P2 ?_
  refine Cs g_aumbry_wots_Start ((start_ok S15.le (hT.mono hl9) leaf (k : Int) hs (by omega) (by omega)).mono ?_)
  rintro e w19 ⟨rfl, hB18⟩
  have S20 := S15.call hB18
  refine ⟨_, rfl, trivial, ?_⟩
  refine Cs g_aumbry_wots_Along ((along_ok S20.le (hT.mono hl9) (15 : Int) (start_len _ _ _)).mono ?_)
  rintro e w22 ⟨rfl, hB21⟩
  have S23 := S20.call hB21
  refine ⟨_, rfl, trivial, ?_⟩
  refine T_re (v' := hV (Go.Au.steps 15 (Go.Au.start seed leaf (k : Int)))) rfl (T_litS (hcells [Go.Au.steps 15 (Go.Au.start seed leaf (k : Int))]) rfl rfl rfl rfl rfl rfl rfl rfl rfl rfl rfl rfl rfl (one_h (steps_len _ (start_len _ _ _))) (by simp [hcells, hV, Value.cells]) fun a24 w25 hB26 ho27 => ?_)
  have S28 := S23.own hB26 ho27
  refine ⟨trivial, ?_⟩
  have hD29 : (trueEnds seed leaf k ++ [Go.Au.steps 15 (Go.Au.start seed leaf (k : Int))]) = trueEnds seed leaf (k + 1) := (trueEnds_snoc _ _ _)
  refine Ae (h1 := by exact one_hcells _) (hn' := by first | rfl | (simp; done) | (simp; omega) | omega) (hx' := by rw [← hD29]; simp [hcells_append, hcells]) (hbytes := by show _ * 32 ≤ _; omega) 1 (k + 1) (hcells (trueEnds seed leaf (k + 1))) S28 (S28.rd 0 rfl) fun a30 c31 w32 hc33 S34 => ?_
  have hh35 : ∀ y ∈ trueEnds seed leaf (k + 1), y.length = 32 := by rw [← hD29]; exact (all_app hh13 (all_h1 (steps_len _ (start_len _ _ _))))
  refine Pv (T_nil (W_region ?_))
  refine Ar ?_
  refine Pv (T_nil ?_)
  have S36 := S34.drop 0
  exact ⟨67 - (k + 1), [(1, .int .i64 leaf), (2, .pointer (some ⟨b1, 0, none⟩)), (4, .pointer (some ⟨b4, 0, none⟩)), (5, .slice a30 (k + 1) c31), (7, .int .i64 ((k + 1 : Nat) : Int))], by omega, ⟨ciI, rfl, rfl, rfl, ciI, trivial⟩, k + 1, a30, c31, G8, rfl, (by omega), rfl, hl9, S36, hh35, hc33⟩
 refine W_exit (Wr (Pv ?_))
 have htk := trueEnds_len seed leaf k
 obtain ⟨G38, hl39, S37, r40⟩ := S15.stillRow 0 rfl
 have r41 := RdH.mk hh13 (by decide) r40
 refine Cs g_aumbry_wots_public ((public_ok S37.le (hT.mono (hl9.trans hl39)) r41 (by omega)).mono ?_)
 rintro e w43 ⟨rfl, hB42⟩
 have S44 := S37.call hB42
 refine ⟨_, rfl, trivial, ?_⟩
 refine T_re (v' := hV (pub seed leaf)) (by rw [show k = 67 by omega]; rfl) ?_
 refine Ag (hl := by exact hVs (pub_len _ _)) (hl2 := by exact hVs (pub_len _ _)) (h1 := by exact one_hA _) 0 S44 fun w45 S46 => (T_nil (W_ret ?_))
 refine ⟨_, ⟨_, _, _, rfl, rfl, run_loadVarA rfl rfl (hVs (pub_len _ _)) (S46.cells 0 rfl), rfl⟩, ?_⟩
 exact ⟨rfl, S46.below⟩


theorem endsR_ok {H : Hp} {w : World} (hH : H.le (hw w)) {seed : List UInt8} (leaf : Int) (hs : seed.length = 16) (hl : leaf ≤ 9223372036854775807) :
  Calls Tryz.prog 47 #[hV seed, .int .i64 leaf] w fun e w' => ∃ a c, 67 ≤ c ∧ e = .returned (.slice a 67 c) ∧ rowZ w' w.heap.size 37 32 (.slice a 67 c) 67 (hcells (trueEnds seed leaf 67)) ∧ Below w.heap.size w w' := by
 refine enter2 _ Tryz.func47 rfl Tryz.ntmps47 Tryz.results47 rfl ?_
 have S0 := St.start w hH
 refine Wr (Ah S0 fun b1 w2 S3 => ?_)
 refine Pv (Nr ?_)
 refine Pv (T_nil (W_seq (Wr ?_)))
 refine Pv (T_nil (W_block ?_))
 have S4 := S3.nilRow 37 32
 refine W_loop (fun M ρ w' => ∃ (k : Nat) (a7 : Option Addr) (c8 : Nat) (G5 : Hp), M = 67 - k ∧ k ≤ 67 ∧ ρ = [(1, .int .i64 leaf), (2, .pointer (some ⟨b1, 0, none⟩)), (5, .slice a7 k c8), (6, .int .i64 (k : Int))] ∧ H.le G5 ∧ St w H G5 [.row 37 32 (.slice a7 k c8) k (hcells (trueEnds seed leaf k)), .blk b1 (hV seed : Value).cells 23] w' ∧ (∀ y ∈ trueEnds seed leaf k, y.length = 32) ∧ k ≤ c8)
  (67 - 0) [(1, .int .i64 leaf), (2, .pointer (some ⟨b1, 0, none⟩)), (5, .slice none 0 0), (6, .int .i64 ((0 : Nat) : Int))] ⟨ciI, rfl, rfl, ciI, trivial⟩ ⟨0, none, 0, H, rfl, (by omega), rfl, Hp.le.refl _, S4, (fun _ h => by cases h), (Nat.le_refl _)⟩ ?_
 rintro M ρ w11 ⟨k, a7, c8, G5, rfl, hp13, rfl, hl6, S12, hh10, hc9⟩
 refine W_seq (Wr (P2 (T_nil ?_)))
 refine Aa (fun h14 => ?_) (fun h14 => ?_)
 ·refine W_skip (W_seq (W_block (W_region (Pv ?_))))
  refine Ai (hl := by exact hVs hs) 1 S12 ?_
  refine P2 ?_
  refine Cs g_aumbry_aumbryref07_Start ((startR_ok S12.le leaf (k : Int) hs (by omega) (by omega)).mono ?_)
  rintro e w16 ⟨rfl, hB15⟩
  have S17 := S12.call hB15
  refine ⟨_, rfl, trivial, ?_⟩
  refine Cs g_aumbry_aumbryref07_Along ((alongR_ok S17.le (15 : Int) (start_len _ _ _)).mono ?_)
  rintro e w19 ⟨rfl, hB18⟩
  have S20 := S17.call hB18
  refine ⟨_, rfl, trivial, ?_⟩
  refine T_re (v' := hV (Go.Au.steps 15 (Go.Au.start seed leaf (k : Int)))) rfl (T_litS (hcells [Go.Au.steps 15 (Go.Au.start seed leaf (k : Int))]) rfl rfl rfl rfl rfl rfl rfl rfl rfl rfl rfl rfl rfl (one_h (steps_len _ (start_len _ _ _))) (by simp [hcells, hV, Value.cells]) fun a21 w22 hB23 ho24 => ?_)
  have S25 := S20.own hB23 ho24
  refine ⟨trivial, ?_⟩
  have hD26 : (trueEnds seed leaf k ++ [Go.Au.steps 15 (Go.Au.start seed leaf (k : Int))]) = trueEnds seed leaf (k + 1) := (trueEnds_snoc _ _ _)
  refine Ae (h1 := by exact one_hcells _) (hn' := by first | rfl | (simp; done) | (simp; omega) | omega) (hx' := by rw [← hD26]; simp [hcells_append, hcells]) (hbytes := by show _ * 32 ≤ _; omega) 1 (k + 1) (hcells (trueEnds seed leaf (k + 1))) S25 (S25.rd 0 rfl) fun a27 c28 w29 hc30 S31 => ?_
  have hh32 : ∀ y ∈ trueEnds seed leaf (k + 1), y.length = 32 := by rw [← hD26]; exact (all_app hh10 (all_h1 (steps_len _ (start_len _ _ _))))
  refine Pv (T_nil (W_region ?_))
  refine Pv ?_
  refine Ar ?_
  refine Pv (T_nil ?_)
  have S33 := S31.drop 0
  exact ⟨67 - (k + 1), [(1, .int .i64 leaf), (2, .pointer (some ⟨b1, 0, none⟩)), (5, .slice a27 (k + 1) c28), (6, .int .i64 ((k + 1 : Nat) : Int))], by omega, ⟨ciI, rfl, rfl, ciI, trivial⟩, k + 1, a27, c28, G5, rfl, (by omega), rfl, hl6, S33, hh32, hc30⟩
 refine W_exit (Wr (P2 (T_nil (W_ret ?_))))
 refine ⟨_, ⟨_, _, rfl, rfl, rfl⟩, ?_⟩
 obtain rfl : k = 67 := by omega
 exact ⟨_, _, hc9, rfl, S12.row 0 rfl, S12.below⟩


theorem pubR_ok {H : Hp} {w : World} (hH : H.le (hw w)) {seed : List UInt8} (leaf : Int) (hs : seed.length = 16) (hl : leaf ≤ 9223372036854775807) :
  Calls Tryz.prog 61 #[hV seed, .int .i64 leaf] w fun e w' => e = .returned (hV (pub seed leaf)) ∧ Below w.heap.size w w' := by
 refine enter2 _ Tryz.func61 rfl Tryz.ntmps61 Tryz.results61 rfl ?_
 have S0 := St.start w hH
 refine Wr (Ah S0 fun b1 w2 S3 => ?_)
 refine Ac S3 fun b4 w5 S6 => (Nr ?_)
 refine Ai (hl := by exact hVs hs) 1 S6 ?_
 refine Pv ?_
 refine Cs g_aumbry_aumbryref07_ends ((endsR_ok S6.le leaf hs (by omega)).mono ?_)
 rintro e w12 ⟨a7, c8, hc9, rfl, ho10, hB11⟩
 have S13 := S6.own hB11 ho10
 refine ⟨_, rfl, trivial, ?_⟩
 have hel := trueEnds_len seed leaf 67
 have htl := text_all (tag := [112, 117, 98, 108, 105, 99]) (n := 67) (by decide) (trueEnds_all seed leaf 67) (by decide) (by omega) (by decide)
 obtain ⟨G15, hl16, S14, r17⟩ := S13.stillRow 0 rfl
 have r18 := RdH.mk (trueEnds_all _ _ _) (by decide) r17
 refine Cs g_aumbry_aumbryref07_publicText ((pubTextR_ok S14.le r18 (by omega)).mono ?_)
 rintro e w24 ⟨a19, c20, hc21, rfl, ho22, hB23⟩
 have S25 := S14.own hB23 ho22
 refine ⟨_, rfl, trivial, ?_⟩
 obtain ⟨G27, hl28, S26, r29⟩ := S25.stillRow 0 rfl
 refine Cs g_aumbry_aumbryref01_Sum ((sumR_ok S26.le r29 (by omega)).mono ?_)
 rintro e w31 ⟨rfl, hB30⟩
 have S32 := S26.call hB30
 refine ⟨_, rfl, trivial, ?_⟩
 refine T_re (v' := hV (pub seed leaf)) rfl (Ag (hl := by exact hVs (pub_len _ _)) (hl2 := by exact hVs (pub_len _ _)) (h1 := by exact one_hA _) 0 S32 fun w33 S34 => (T_nil (W_ret ?_)))
 refine ⟨_, ⟨_, _, _, rfl, rfl, run_loadVarA rfl rfl (hVs (pub_len _ _)) (S34.cells 0 rfl), rfl⟩, ?_⟩
 exact ⟨rfl, S34.below⟩




theorem signR_ok {H : Hp} {w : World} (hH : H.le (hw w)) {seed : List UInt8} (leaf : Int) (hs : seed.length = 16) (hl : leaf ≤ 9223372036854775807) {m : List UInt8} {aa2 : Option Addr} {nn2 cc2 : Nat} (hv : Rd H (.slice aa2 nn2 cc2) nn2 1 (m.map bV)) (hm : m.length < 1000) :
  Calls Tryz.prog 17 #[hV seed, .int .i64 leaf, .slice aa2 nn2 cc2] w fun e w' => ∃ a c, 67 ≤ c ∧ e = .returned (.slice a 67 c) ∧ rowZ w' w.heap.size 37 32 (.slice a 67 c) 67 (hcells (Go.Au.sign seed leaf m 67)) ∧ Below w.heap.size w w' := by
 obtain rfl : nn2 = m.length := hv.lenB
 have hvcap : m.length ≤ cc2 := hv.capOf
 have hdl := digits_len m
 refine enter3 _ Tryz.func17 rfl Tryz.ntmps17 Tryz.results17 rfl ?_
 have S0 := St.start w hH
 refine Wr (Ah S0 fun b1 w2 S3 => ?_)
 refine Pv (Nr ?_)
 refine Pv ?_
 refine Cs g_aumbry_aumbryref07_Digits ((digitsR_w_ok S3.le hv (by omega)).mono ?_)
 rintro e w9 ⟨a4, c5, hc6, rfl, ho7, hB8⟩
 have S10 := S3.own hB8 ho7
 refine ⟨_, rfl, trivial, ?_⟩
 refine Pv (Nr ?_)
 refine Pv (T_nil (W_seq (Wr ?_)))
 refine Pv (T_nil (W_block ?_))
 obtain ⟨G12, hl13, S11, r14⟩ := S10.stillRow 0 rfl
 have S15 := S11.nilRow 37 32
 refine W_loop (fun M ρ w' => ∃ (k : Nat) (a18 : Option Addr) (c19 : Nat) (G16 : Hp), M = 67 - k ∧ k ≤ 67 ∧ ρ = [(1, .int .i64 leaf), (3, .pointer (some ⟨b1, 0, none⟩)), (7, .slice a4 67 c5), (8, .slice a18 k c19), (9, .int .i64 (k : Int))] ∧ G12.le G16 ∧ St w H G16 [.row 37 32 (.slice a18 k c19) k (hcells (Go.Au.sign seed leaf m k)), .blk b1 (hV seed : Value).cells 23] w' ∧ (∀ y ∈ Go.Au.sign seed leaf m k, y.length = 32) ∧ k ≤ c19)
  (67 - 0) [(1, .int .i64 leaf), (3, .pointer (some ⟨b1, 0, none⟩)), (7, .slice a4 67 c5), (8, .slice none 0 0), (9, .int .i64 ((0 : Nat) : Int))] ⟨ciI, rfl, rfl, rfl, ciI, trivial⟩ ⟨0, none, 0, G12, rfl, (by omega), rfl, Hp.le.refl _, S15, (fun _ h => by cases h), (Nat.le_refl _)⟩ ?_
 rintro M ρ w22 ⟨k, a18, c19, G16, rfl, hp24, rfl, hl17, S23, hh21, hc20⟩
 refine W_seq (Wr (P2 (T_nil ?_)))
 refine Aa (fun h25 => ?_) (fun h25 => ?_)
 ·refine W_skip (W_seq (W_block (W_plan (planF Tryz.prog G16 [24]) rfl (by kernel_rfl) S23.le ?_)))
  have S26 := S23.drew
  refine Pv ?_
  refine Ai (hl := by exact hVs hs) 1 S26 ?_
  refine P2 ?_
  refine Cs g_aumbry_aumbryref07_Start ((startR_ok S26.le leaf (k : Int) hs (by omega) (by omega)).mono ?_)
  rintro e w28 ⟨rfl, hB27⟩
  have S29 := S26.call hB27
  refine ⟨_, rfl, (((Hp.le.refl _)).trans S29.le), ?_⟩
  refine P2 ?_
  refine Af k (r14.mono hl17) fun b30 o31 hc32 => ?_
  have hc33 := hc32 0 (.int .i64 ((Go.Au.digits m).getD k 0)) (at_i (Go.Au.digits m) k (by omega))
  simp only [Nat.add_zero] at hc33
  refine Ak (r := by exact hc33) ?_
  have hdk := digits_at m k (by omega)
  refine Cs g_aumbry_aumbryref07_Along ((alongR_ok S29.le ((Go.Au.digits m).getD k 0) (start_len _ _ _)).mono ?_)
  rintro e w35 ⟨rfl, hB34⟩
  have S36 := S29.call hB34
  refine ⟨_, rfl, (((Hp.le.refl _)).trans S36.le), ?_⟩
  refine T_re (v' := hV (Go.Au.steps ((Go.Au.digits m).getD k 0).toNat (Go.Au.start seed leaf (k : Int)))) (congrArg (fun q => hV (Go.Au.steps q _)) (by omega)) ?_
  refine T_litS (hcells [Go.Au.steps ((Go.Au.digits m).getD k 0).toNat (Go.Au.start seed leaf (k : Int))]) rfl rfl rfl rfl rfl rfl rfl rfl rfl rfl rfl rfl rfl (one_h (steps_len _ (start_len _ _ _))) (by simp [hcells, hV, Value.cells]) fun a37 w38 hB39 ho40 => ?_
  have S41 := S36.own hB39 ho40
  refine ⟨(((Hp.le.refl _)).trans S41.le), ?_⟩
  have hD42 : (Go.Au.sign seed leaf m k ++ [Go.Au.steps ((Go.Au.digits m).getD k 0).toNat (Go.Au.start seed leaf (k : Int))]) = Go.Au.sign seed leaf m (k + 1) := (sign_snoc _ _ _ _)
  refine Ae (hC := fun _ h => ((Hp.le.refl _)).trans h) (h1 := by exact one_hcells _) (hn' := by first | rfl | (simp; done) | (simp; omega) | omega) (hx' := by rw [← hD42]; simp [hcells_append, hcells]) (hbytes := by show _ * 32 ≤ _; omega) 1 (k + 1) (hcells (Go.Au.sign seed leaf m (k + 1))) S41 (S41.rd 0 rfl) fun a43 c44 w45 hc46 S47 => ?_
  have hh48 : ∀ y ∈ Go.Au.sign seed leaf m (k + 1), y.length = 32 := by rw [← hD42]; exact (all_app hh21 (all_h1 (steps_len _ (start_len _ _ _))))
  refine Pv (T_nil (W_region ?_))
  refine Pv ?_
  refine Ar ?_
  refine Pv (T_nil ?_)
  have S49 := S47.drop 0
  exact ⟨67 - (k + 1), [(1, .int .i64 leaf), (3, .pointer (some ⟨b1, 0, none⟩)), (7, .slice a4 67 c5), (8, .slice a43 (k + 1) c44), (9, .int .i64 ((k + 1 : Nat) : Int))], by omega, ⟨ciI, rfl, rfl, rfl, ciI, trivial⟩, k + 1, a43, c44, G16, rfl, (by omega), rfl, hl17, S49, hh48, hc46⟩
 refine W_exit (Wr (P2 (T_nil (W_ret ?_))))
 refine ⟨_, ⟨_, _, rfl, rfl, rfl⟩, ?_⟩
 obtain rfl : k = 67 := by omega
 exact ⟨_, _, hc20, rfl, S23.row 0 rfl, S23.below⟩


theorem ends_ok_no {H : Hp} {w : World} (hH : H.le (hw w)) (hT : Tabs H) {m : List UInt8} {aa0 : Option Addr} {nn0 cc0 : Nat} (hv : Rd H (.slice aa0 nn0 cc0) nn0 1 (m.map bV)) {v : List (List UInt8)} {aa1 : Option Addr} {nn1 cc1 : Nat} (hx : RdH H (.slice aa1 nn1 cc1) 32 v) (hm : m.length < 1000) (hn : v.length ≠ 67) :
  Calls Tryz.prog 32 #[.slice aa0 nn0 cc0, .slice aa1 nn1 cc1] w fun e w' => e = .returned (.tuple #[.slice none 0 0, .bool false]) ∧ Below w.heap.size w w' := by
 obtain rfl : nn0 = m.length := hv.lenB
 have hvcap : m.length ≤ cc0 := hv.capOf
 obtain rfl : nn1 = v.length := hx.len
 have hxcap : v.length ≤ cc1 := hx.2.capOf
 refine enter2 _ Tryz.func32 rfl Tryz.ntmps32 Tryz.results32 rfl ?_
 have S0 := St.start w hH
 refine Wr (P2 (T_nil (W_seq (Wr ?_))))
 refine P3 (T_nil ?_)
 refine W_bool 11 true rfl (ndec_t (by omega)) ?_
 refine W_cond_true rfl (Wr (P2 (T_nil (W_ret ?_))))
 refine ⟨_, ⟨_, _, rfl, rfl, ⟨_, _, rfl, rfl, rfl⟩⟩, ?_⟩
 exact ⟨rfl, S0.below⟩


theorem ends_ok {H : Hp} {w : World} (hH : H.le (hw w)) (hT : Tabs H) {m : List UInt8} {aa0 : Option Addr} {nn0 cc0 : Nat} (hv : Rd H (.slice aa0 nn0 cc0) nn0 1 (m.map bV)) {v : List (List UInt8)} {aa1 : Option Addr} {nn1 cc1 : Nat} (hx : RdH H (.slice aa1 nn1 cc1) 32 v) (hm : m.length < 1000) (hn : v.length = 67) :
  Calls Tryz.prog 32 #[.slice aa0 nn0 cc0, .slice aa1 nn1 cc1] w fun e w' => ∃ a c, 67 ≤ c ∧ e = .returned (.tuple #[.slice a 67 c, .bool true]) ∧ rowZ w' w.heap.size 37 32 (.slice a 67 c) 67 (hcells (ends m v 67)) ∧ Below w.heap.size w w' := by
 obtain rfl : nn0 = m.length := hv.lenB
 have hvcap : m.length ≤ cc0 := hv.capOf
 obtain rfl : nn1 = v.length := hx.len
 have hxcap : v.length ≤ cc1 := hx.2.capOf
 have hdl := digits_len m
 refine enter2 _ Tryz.func32 rfl Tryz.ntmps32 Tryz.results32 rfl ?_
 have S0 := St.start w hH
 refine Wr (P2 (T_nil (W_seq (Wr ?_))))
 refine P3 (T_nil ?_)
 refine W_bool 11 false rfl (ndec_f (by omega)) ?_
 refine W_cond_false rfl (W_skip (Wr (Pv (T_nil (W_seq (Wr ?_))))))
 refine Pv ?_
 refine Cs g_aumbry_wots_Digits ((digits_w_ok S0.le hT hv (by omega)).mono ?_)
 rintro e w6 ⟨a1, c2, hc3, rfl, ho4, hB5⟩
 have S7 := S0.own hB5 ho4
 refine ⟨_, rfl, trivial, ?_⟩
 refine P2 (T_nil (W_block ?_))
 obtain ⟨G9, hl10, S8, r11⟩ := S7.stillRow 0 rfl
 have S12 := S8.nilRow 37 32
 refine W_loop (fun M ρ w' => ∃ (k : Nat) (a15 : Option Addr) (c16 : Nat) (G13 : Hp), M = 67 - k ∧ k ≤ 67 ∧ ρ = [(1, .slice aa1 v.length cc1), (6, .slice a15 k c16), (13, .slice a1 67 c2), (14, .int .i64 ((67 : Nat) : Int)), (15, .int .i64 (k : Int))] ∧ G9.le G13 ∧ St w H G13 [.row 37 32 (.slice a15 k c16) k (hcells (ends m v k))] w' ∧ (∀ y ∈ ends m v k, y.length = 32) ∧ k ≤ c16)
  (67 - 0) [(1, .slice aa1 v.length cc1), (6, .slice none 0 0), (13, .slice a1 67 c2), (14, .int .i64 ((67 : Nat) : Int)), (15, .int .i64 ((0 : Nat) : Int))] ⟨rfl, rfl, rfl, ciI, ciI, trivial⟩ ⟨0, none, 0, G9, rfl, (by omega), rfl, Hp.le.refl _, S12, (fun _ h => by cases h), (Nat.le_refl _)⟩ ?_
 rintro M ρ w19 ⟨k, a15, c16, G13, rfl, hp21, rfl, hl14, S20, hh18, hc17⟩
 refine Wr (Pv (T_nil (W_seq ?_)))
 refine Aa (fun h22 => ?_) (fun h22 => ?_)
 ·refine W_skip (W_seq (W_block (Wr (Pv ?_))))
  refine Af k (r11.mono hl14) fun b23 o24 hc25 => ?_
  have hc26 := hc25 0 (.int .i64 ((Go.Au.digits m).getD k 0)) (at_i (Go.Au.digits m) k (by omega))
  simp only [Nat.add_zero] at hc26
  refine Ab (r := by exact hc26) S20 ?_
  refine P2 (T_nil (W_region ?_))
  refine P3 ?_
  refine Af k (hx.mono (hl10.trans hl14)).2 fun b27 o28 hc29 => ?_
  have hc30 := cells_h (hx.mono (hl10.trans hl14)).1 k (by omega) hc29
  have hl31 := len_h (hx.mono (hl10.trans hl14)).1 k (by omega)
  refine T_loadGA _ S20 hc30 rfl rfl rfl rfl rfl rfl rfl rfl (hVs hl31) (Pv ?_)
  have hdk := digits_at m k (by omega)
  refine Ar ?_
  refine Cs g_aumbry_wots_Along ((along_ok S20.le (hT.mono (hl10.trans hl14)) ((15 : Int) - ((Go.Au.digits m).getD k 0)) hl31).mono ?_)
  rintro e w33 ⟨rfl, hB32⟩
  have S34 := S20.call hB32
  refine ⟨_, rfl, trivial, ?_⟩
  refine T_re (v' := hV (Go.Au.steps (15 - ((Go.Au.digits m).getD k 0).toNat) (v.getD k []))) (congrArg (fun q => hV (Go.Au.steps q _)) (by omega)) ?_
  refine T_litS (hcells [Go.Au.steps (15 - ((Go.Au.digits m).getD k 0).toNat) (v.getD k [])]) rfl rfl rfl rfl rfl rfl rfl rfl rfl rfl rfl rfl rfl (one_h (steps_len _ (len_h hx.1 k (by omega)))) (by simp [hcells, hV, Value.cells]) fun a35 w36 hB37 ho38 => ?_
  have S39 := S34.own hB37 ho38
  refine ⟨trivial, ?_⟩
  have hD40 : (ends m v k ++ [Go.Au.steps (15 - ((Go.Au.digits m).getD k 0).toNat) (v.getD k [])]) = ends m v (k + 1) := (ends_snoc _ _ _)
  refine Ae (h1 := by exact one_hcells _) (hn' := by first | rfl | (simp; done) | (simp; omega) | omega) (hx' := by rw [← hD40]; simp [hcells_append, hcells]) (hbytes := by show _ * 32 ≤ _; omega) 1 (k + 1) (hcells (ends m v (k + 1))) S39 (S39.rd 0 rfl) fun a41 c42 w43 hc44 S45 => ?_
  have hh46 : ∀ y ∈ ends m v (k + 1), y.length = 32 := by rw [← hD40]; exact (all_app hh18 (all_h1 (steps_len _ (len_h hx.1 k (by omega)))))
  refine Pv (T_nil (W_region ?_))
  refine Ar ?_
  refine Pv (T_nil ?_)
  have S47 := S45.drop 0
  exact ⟨67 - (k + 1), [(1, .slice aa1 v.length cc1), (6, .slice a41 (k + 1) c42), (13, .slice a1 67 c2), (14, .int .i64 ((67 : Nat) : Int)), (15, .int .i64 ((k + 1 : Nat) : Int))], by omega, ⟨rfl, rfl, rfl, ciI, ciI, trivial⟩, k + 1, a41, c42, G13, rfl, (by omega), rfl, hl14, S47, hh46, hc44⟩
 refine W_exit (Wr (P3 (T_nil (W_ret ?_))))
 refine ⟨_, ⟨_, _, rfl, rfl, ⟨_, _, rfl, rfl, rfl⟩⟩, ?_⟩
 obtain rfl : k = 67 := by omega
 exact ⟨_, _, hc17, rfl, S20.row 0 rfl, S20.below⟩


theorem endsVR_ok_no {H : Hp} {w : World} (hH : H.le (hw w)) {m : List UInt8} {aa0 : Option Addr} {nn0 cc0 : Nat} (hv : Rd H (.slice aa0 nn0 cc0) nn0 1 (m.map bV)) {v : List (List UInt8)} {aa1 : Option Addr} {nn1 cc1 : Nat} (hx : RdH H (.slice aa1 nn1 cc1) 32 v) (hm : m.length < 1000) (hn : v.length ≠ 67) :
  Calls Tryz.prog 45 #[.slice aa0 nn0 cc0, .slice aa1 nn1 cc1] w fun e w' => e = .returned (.tuple #[.slice none 0 0, .bool false]) ∧ Below w.heap.size w w' := by
 obtain rfl : nn0 = m.length := hv.lenB
 have hvcap : m.length ≤ cc0 := hv.capOf
 obtain rfl : nn1 = v.length := hx.len
 have hxcap : v.length ≤ cc1 := hx.2.capOf
 refine enter2 _ Tryz.func45 rfl Tryz.ntmps45 Tryz.results45 rfl ?_
 have S0 := St.start w hH
 refine Wr (P2 (T_nil (W_seq (Wr ?_))))
 refine P3 (T_nil ?_)
 refine W_bool 11 true rfl (ndec_t (by omega)) ?_
 refine W_cond_true rfl (Wr (P2 (T_nil (W_ret ?_))))
 refine ⟨_, ⟨_, _, rfl, rfl, ⟨_, _, rfl, rfl, rfl⟩⟩, ?_⟩
 exact ⟨rfl, S0.below⟩


theorem endsVR_ok {H : Hp} {w : World} (hH : H.le (hw w)) {m : List UInt8} {aa0 : Option Addr} {nn0 cc0 : Nat} (hv : Rd H (.slice aa0 nn0 cc0) nn0 1 (m.map bV)) {v : List (List UInt8)} {aa1 : Option Addr} {nn1 cc1 : Nat} (hx : RdH H (.slice aa1 nn1 cc1) 32 v) (hm : m.length < 1000) (hn : v.length = 67) :
  Calls Tryz.prog 45 #[.slice aa0 nn0 cc0, .slice aa1 nn1 cc1] w fun e w' => ∃ a c, 67 ≤ c ∧ e = .returned (.tuple #[.slice a 67 c, .bool true]) ∧ rowZ w' w.heap.size 37 32 (.slice a 67 c) 67 (hcells (ends m v 67)) ∧ Below w.heap.size w w' := by
 obtain rfl : nn0 = m.length := hv.lenB
 have hvcap : m.length ≤ cc0 := hv.capOf
 obtain rfl : nn1 = v.length := hx.len
 have hxcap : v.length ≤ cc1 := hx.2.capOf
 have hdl := digits_len m
 refine enter2 _ Tryz.func45 rfl Tryz.ntmps45 Tryz.results45 rfl ?_
 have S0 := St.start w hH
 refine Wr (P2 (T_nil (W_seq (Wr ?_))))
 refine P3 (T_nil ?_)
 refine W_bool 11 false rfl (ndec_f (by omega)) ?_
 refine W_cond_false rfl (W_skip (Wr (Pv ?_)))
 refine Cs g_aumbry_aumbryref07_Digits ((digitsR_w_ok S0.le hv (by omega)).mono ?_)
 rintro e w6 ⟨a1, c2, hc3, rfl, ho4, hB5⟩
 have S7 := S0.own hB5 ho4
 refine ⟨_, rfl, trivial, ?_⟩
 refine Pv (Nr ?_)
 refine Pv (T_nil (W_seq (Wr ?_)))
 refine P3 (T_nil (W_block ?_))
 obtain ⟨G9, hl10, S8, r11⟩ := S7.stillRow 0 rfl
 have S12 := S8.nilRow 37 32
 refine W_loop (fun M ρ w' => ∃ (k : Nat) (a15 : Option Addr) (c16 : Nat) (G13 : Hp), M = 67 - k ∧ k ≤ 67 ∧ ρ = [(1, .slice aa1 v.length cc1), (6, .slice a1 67 c2), (7, .slice a15 k c16), (15, .int .i64 ((v.length : Nat) : Int)), (16, .int .i64 (k : Int))] ∧ G9.le G13 ∧ St w H G13 [.row 37 32 (.slice a15 k c16) k (hcells (ends m v k))] w' ∧ (∀ y ∈ ends m v k, y.length = 32) ∧ k ≤ c16)
  (67 - 0) [(1, .slice aa1 v.length cc1), (6, .slice a1 67 c2), (7, .slice none 0 0), (15, .int .i64 ((v.length : Nat) : Int)), (16, .int .i64 ((0 : Nat) : Int))] ⟨rfl, rfl, rfl, ciI, ciI, trivial⟩ ⟨0, none, 0, G9, rfl, (by omega), rfl, Hp.le.refl _, S12, (fun _ h => by cases h), (Nat.le_refl _)⟩ ?_
 rintro M ρ w19 ⟨k, a15, c16, G13, rfl, hp21, rfl, hl14, S20, hh18, hc17⟩
 refine Wr (Pv (T_nil (W_seq ?_)))
 refine Aa (fun h22 => ?_) (fun h22 => ?_)
 ·refine W_skip (W_seq (W_block (Wr (P2 (T_nil ?_)))))
  refine W_draw rfl (by kernel_rfl) ?_
  have S23 := S20.drew
  refine P3 ?_
  refine Af k (hx.mono (hl10.trans hl14)).2 fun b24 o25 hc26 => ?_
  have hc27 := cells_h (hx.mono (hl10.trans hl14)).1 k (by omega) hc26
  have hl28 := len_h (hx.mono (hl10.trans hl14)).1 k (by omega)
  refine T_loadGA _ S23 hc27 rfl rfl rfl rfl rfl rfl rfl rfl (hVs hl28) (P2 ?_)
  refine Af k (r11.mono hl14) fun b29 o30 hc31 => ?_
  have hc32 := hc31 0 (.int .i64 ((Go.Au.digits m).getD k 0)) (at_i (Go.Au.digits m) k (by omega))
  simp only [Nat.add_zero] at hc32
  refine Ab (r := by exact hc32) S23 ?_
  have hdk := digits_at m k (by omega)
  refine Ar ?_
  refine Cs g_aumbry_aumbryref07_Along ((alongR_ok S23.le ((15 : Int) - ((Go.Au.digits m).getD k 0)) hl28).mono ?_)
  rintro e w34 ⟨rfl, hB33⟩
  have S35 := S23.call hB33
  refine ⟨_, rfl, trivial, ?_⟩
  refine T_re (v' := hV (Go.Au.steps (15 - ((Go.Au.digits m).getD k 0).toNat) (v.getD k []))) (congrArg (fun q => hV (Go.Au.steps q _)) (by omega)) ?_
  refine T_litS (hcells [Go.Au.steps (15 - ((Go.Au.digits m).getD k 0).toNat) (v.getD k [])]) rfl rfl rfl rfl rfl rfl rfl rfl rfl rfl rfl rfl rfl (one_h (steps_len _ (len_h hx.1 k (by omega)))) (by simp [hcells, hV, Value.cells]) fun a36 w37 hB38 ho39 => ?_
  have S40 := S35.own hB38 ho39
  refine ⟨trivial, ?_⟩
  have hD41 : (ends m v k ++ [Go.Au.steps (15 - ((Go.Au.digits m).getD k 0).toNat) (v.getD k [])]) = ends m v (k + 1) := (ends_snoc _ _ _)
  refine Ae (h1 := by exact one_hcells _) (hn' := by first | rfl | (simp; done) | (simp; omega) | omega) (hx' := by rw [← hD41]; simp [hcells_append, hcells]) (hbytes := by show _ * 32 ≤ _; omega) 1 (k + 1) (hcells (ends m v (k + 1))) S40 (S40.rd 0 rfl) fun a42 c43 w44 hc45 S46 => ?_
  have hh47 : ∀ y ∈ ends m v (k + 1), y.length = 32 := by rw [← hD41]; exact (all_app hh18 (all_h1 (steps_len _ (len_h hx.1 k (by omega)))))
  refine Pv (T_nil (W_region ?_))
  refine Ar ?_
  refine Pv (T_nil ?_)
  have S48 := S46.drop 0
  exact ⟨67 - (k + 1), [(1, .slice aa1 v.length cc1), (6, .slice a1 67 c2), (7, .slice a42 (k + 1) c43), (15, .int .i64 ((v.length : Nat) : Int)), (16, .int .i64 ((k + 1 : Nat) : Int))], by omega, ⟨rfl, rfl, rfl, ciI, ciI, trivial⟩, k + 1, a42, c43, G13, rfl, (by omega), rfl, hl14, S48, hh47, hc45⟩
 refine W_exit (Wr (P3 (T_nil (W_ret ?_))))
 refine ⟨_, ⟨_, _, rfl, rfl, ⟨_, _, rfl, rfl, rfl⟩⟩, ?_⟩
 obtain rfl : k = 67 := by omega
 exact ⟨_, _, hc17, rfl, S20.row 0 rfl, S20.below⟩


theorem recover_ok_no {H : Hp} {w : World} (hH : H.le (hw w)) (hT : Tabs H) {m : List UInt8} {aa0 : Option Addr} {nn0 cc0 : Nat} (hv : Rd H (.slice aa0 nn0 cc0) nn0 1 (m.map bV)) {v : List (List UInt8)} {aa1 : Option Addr} {nn1 cc1 : Nat} (hx : RdH H (.slice aa1 nn1 cc1) 32 v) (hm : m.length < 1000) (hn : v.length ≠ 67) :
  Calls Tryz.prog 30 #[.slice aa0 nn0 cc0, .slice aa1 nn1 cc1] w fun e w' => e = .returned (.tuple #[hV (List.replicate 32 0), .bool false]) ∧ Below w.heap.size w w' := by
 obtain rfl : nn0 = m.length := hv.lenB
 have hvcap : m.length ≤ cc0 := hv.capOf
 obtain rfl : nn1 = v.length := hx.len
 have hxcap : v.length ≤ cc1 := hx.2.capOf
 refine enter2 _ Tryz.func30 rfl Tryz.ntmps30 Tryz.results30 rfl ?_
 have S0 := St.start w hH
 refine Wr (Ac S0 fun b1 w2 S3 => ?_)
 refine Pv (Nr ?_)
 refine P2 ?_
 refine Cs g_aumbry_wots_Ends ((ends_ok_no S3.le hT hv hx (by omega) (by omega)).mono ?_)
 rintro e w5 ⟨rfl, hB4⟩
 have S6 := S3.call hB4
 refine ⟨_, rfl, trivial, ?_⟩
 iterate 5 refine Pv ?_
 refine T_nil (W_seq (Wr (P2 (T_nil ?_))))
 refine W_cond_true rfl (Wr (T_buildA (cells := (hV (List.replicate 32 0)).cells) rfl rfl rfl rfl rfl rfl rfl rfl rfl rfl (Ag (hl := by exact hVs List.length_replicate) (hl2 := by exact hVs List.length_replicate) (h1 := by exact one_hA _) 0 S6 fun w7 S8 => ?_)))
 refine Pv (T_nil (W_ret ?_))
 refine ⟨_, ⟨_, _, _, rfl, rfl, run_loadVarA rfl rfl (hVs List.length_replicate) (S8.cells 0 rfl), ⟨_, _, rfl, rfl, rfl⟩⟩, ?_⟩
 exact ⟨rfl, S8.below⟩


theorem recover_ok {H : Hp} {w : World} (hH : H.le (hw w)) (hT : Tabs H) {m : List UInt8} {aa0 : Option Addr} {nn0 cc0 : Nat} (hv : Rd H (.slice aa0 nn0 cc0) nn0 1 (m.map bV)) {v : List (List UInt8)} {aa1 : Option Addr} {nn1 cc1 : Nat} (hx : RdH H (.slice aa1 nn1 cc1) 32 v) (hm : m.length < 1000) (hn : v.length = 67) :
  Calls Tryz.prog 30 #[.slice aa0 nn0 cc0, .slice aa1 nn1 cc1] w fun e w' => e = .returned (.tuple #[hV (pubH (ends m v 67)), .bool true]) ∧ Below w.heap.size w w' := by
 obtain rfl : nn0 = m.length := hv.lenB
 have hvcap : m.length ≤ cc0 := hv.capOf
 obtain rfl : nn1 = v.length := hx.len
 have hxcap : v.length ≤ cc1 := hx.2.capOf
 have hel := ends_len m v 67
 refine enter2 _ Tryz.func30 rfl Tryz.ntmps30 Tryz.results30 rfl ?_
 have S0 := St.start w hH
 refine Wr (Ac S0 fun b1 w2 S3 => ?_)
 refine Pv (Nr ?_)
 refine P2 ?_
 refine Cs g_aumbry_wots_Ends ((ends_ok S3.le hT hv hx (by omega) (by omega)).mono ?_)
 rintro e w9 ⟨a4, c5, hc6, rfl, ho7, hB8⟩
 have S10 := S3.own hB8 ho7
 refine ⟨_, rfl, trivial, ?_⟩
 iterate 5 refine Pv ?_
 refine T_nil (W_seq (Wr (P2 (T_nil ?_))))
 refine W_cond_false rfl (W_skip (Wr (Pv ?_)))
 obtain ⟨G12, hl13, S11, r14⟩ := S10.stillRow 0 rfl
 have r15 := RdH.mk (ends_all hx.1 (by omega)) (by decide) r14
 refine Cs g_aumbry_wots_public ((public_ok S11.le (hT.mono hl13) r15 (by omega)).mono ?_)
 rintro e w17 ⟨rfl, hB16⟩
 have S18 := S11.call hB16
 refine ⟨_, rfl, trivial, ?_⟩
 refine Ag (hl := by exact hVs (pubH_len _)) (hl2 := by exact hVs (pubH_len _)) (h1 := by exact one_hA _) 0 S18 fun w19 S20 => ?_
 refine Pv (T_nil (W_ret ?_))
 refine ⟨_, ⟨_, _, _, rfl, rfl, run_loadVarA rfl rfl (hVs (pubH_len _)) (S20.cells 0 rfl), ⟨_, _, rfl, rfl, rfl⟩⟩, ?_⟩
 exact ⟨rfl, S20.below⟩


theorem recoverR_ok_no {H : Hp} {w : World} (hH : H.le (hw w)) {m : List UInt8} {aa0 : Option Addr} {nn0 cc0 : Nat} (hv : Rd H (.slice aa0 nn0 cc0) nn0 1 (m.map bV)) {v : List (List UInt8)} {aa1 : Option Addr} {nn1 cc1 : Nat} (hx : RdH H (.slice aa1 nn1 cc1) 32 v) (hm : m.length < 1000) (hn : v.length ≠ 67) :
  Calls Tryz.prog 41 #[.slice aa0 nn0 cc0, .slice aa1 nn1 cc1] w fun e w' => e = .returned (.tuple #[hV (List.replicate 32 0), .bool false]) ∧ Below w.heap.size w w' := by
 obtain rfl : nn0 = m.length := hv.lenB
 have hvcap : m.length ≤ cc0 := hv.capOf
 obtain rfl : nn1 = v.length := hx.len
 have hxcap : v.length ≤ cc1 := hx.2.capOf
 refine enter2 _ Tryz.func41 rfl Tryz.ntmps41 Tryz.results41 rfl ?_
 have S0 := St.start w hH
 refine Wr (Ac S0 fun b1 w2 S3 => ?_)
 refine Pv (Nr ?_)
 refine P2 ?_
 refine Cs g_aumbry_aumbryref07_Ends ((endsVR_ok_no S3.le hv hx (by omega) (by omega)).mono ?_)
 rintro e w5 ⟨rfl, hB4⟩
 have S6 := S3.call hB4
 refine ⟨_, rfl, trivial, ?_⟩
 iterate 5 refine Pv ?_
 refine T_nil (W_seq (Wr (P2 (T_nil ?_))))
 refine W_cond_true rfl (Wr (T_buildA (cells := (hV (List.replicate 32 0)).cells) rfl rfl rfl rfl rfl rfl rfl rfl rfl rfl (Ag (hl := by exact hVs List.length_replicate) (hl2 := by exact hVs List.length_replicate) (h1 := by exact one_hA _) 0 S6 fun w7 S8 => ?_)))
 refine Pv (T_nil (W_ret ?_))
 refine ⟨_, ⟨_, _, _, rfl, rfl, run_loadVarA rfl rfl (hVs List.length_replicate) (S8.cells 0 rfl), ⟨_, _, rfl, rfl, rfl⟩⟩, ?_⟩
 exact ⟨rfl, S8.below⟩


theorem recoverR_ok {H : Hp} {w : World} (hH : H.le (hw w)) {m : List UInt8} {aa0 : Option Addr} {nn0 cc0 : Nat} (hv : Rd H (.slice aa0 nn0 cc0) nn0 1 (m.map bV)) {v : List (List UInt8)} {aa1 : Option Addr} {nn1 cc1 : Nat} (hx : RdH H (.slice aa1 nn1 cc1) 32 v) (hm : m.length < 1000) (hn : v.length = 67) :
  Calls Tryz.prog 41 #[.slice aa0 nn0 cc0, .slice aa1 nn1 cc1] w fun e w' => e = .returned (.tuple #[hV (pubH (ends m v 67)), .bool true]) ∧ Below w.heap.size w w' := by
 obtain rfl : nn0 = m.length := hv.lenB
 have hvcap : m.length ≤ cc0 := hv.capOf
 obtain rfl : nn1 = v.length := hx.len
 have hxcap : v.length ≤ cc1 := hx.2.capOf
 have hel := ends_len m v 67
 refine enter2 _ Tryz.func41 rfl Tryz.ntmps41 Tryz.results41 rfl ?_
 have S0 := St.start w hH
 refine Wr (Ac S0 fun b1 w2 S3 => ?_)
 refine Pv (Nr ?_)
 refine P2 ?_
 refine Cs g_aumbry_aumbryref07_Ends ((endsVR_ok S3.le hv hx (by omega) (by omega)).mono ?_)
 rintro e w9 ⟨a4, c5, hc6, rfl, ho7, hB8⟩
 have S10 := S3.own hB8 ho7
 refine ⟨_, rfl, trivial, ?_⟩
 iterate 5 refine Pv ?_
 refine T_nil (W_seq (Wr (P2 (T_nil ?_))))
 refine W_cond_false rfl (W_skip (Wr (Pv ?_)))
 obtain ⟨G12, hl13, S11, r14⟩ := S10.stillRow 0 rfl
 have r15 := RdH.mk (ends_all hx.1 (by omega)) (by decide) r14
 refine Cs g_aumbry_aumbryref07_publicText ((pubTextR_ok S11.le r15 (by omega)).mono ?_)
 rintro e w21 ⟨a16, c17, hc18, rfl, ho19, hB20⟩
 have S22 := S11.own hB20 ho19
 refine ⟨_, rfl, trivial, ?_⟩
 have htl := text_all (tag := [112, 117, 98, 108, 105, 99]) (n := 67) (by decide) (ends_all (m := m) (k := 67) hx.1 (by omega)) (by decide) (by omega) (by decide)
 obtain ⟨G24, hl25, S23, r26⟩ := S22.stillRow 0 rfl
 refine Cs g_aumbry_aumbryref01_Sum ((sumR_ok S23.le r26 (by omega)).mono ?_)
 rintro e w28 ⟨rfl, hB27⟩
 have S29 := S23.call hB27
 refine ⟨_, rfl, trivial, ?_⟩
 refine T_re (v' := hV (pubH (ends m v 67))) rfl (Ag (hl := by exact hVs (pubH_len _)) (hl2 := by exact hVs (pubH_len _)) (h1 := by exact one_hA _) 0 S29 fun w30 S31 => ?_)
 refine Pv (T_nil (W_ret ?_))
 refine ⟨_, ⟨_, _, _, rfl, rfl, run_loadVarA rfl rfl (hVs (pubH_len _)) (S31.cells 0 rfl), ⟨_, _, rfl, rfl, rfl⟩⟩, ?_⟩
 exact ⟨rfl, S31.below⟩

end Go.Proofs.YtfcejolipdcoaaaGreatDoor
namespace Go.Proofs.YtfcejolipdcoaaaGreatDoor
open Go Go.F Go.RowKit

theorem cutB_ok {H : Hp} {w : World} (hH : H.le (hw w)) {l : List UInt8} {aa0 : Option Addr} {nn0 cc0 : Nat} (hv : Rd H (.slice aa0 nn0 cc0) nn0 1 (l.map bV)) (n : Nat) :
  Calls Tryz.prog 5 #[.slice aa0 nn0 cc0, .int .i64 ((n : Nat) : Int)] w fun e w' => ∃ a c, (l.take n).length ≤ c ∧ e = .returned (.slice a (l.take n).length c) ∧ Rd H (.slice a (l.take n).length c) (l.take n).length 1 ((l.take n).map bV) ∧ Below w.heap.size w w' := by
 obtain rfl : nn0 = l.length := hv.lenB
 have hvcap : l.length ≤ cc0 := hv.capOf
 refine enter2 _ Tryz.func5 rfl Tryz.ntmps5 Tryz.results5 rfl ?_
 have S0 := St.start w hH
 refine Wr (Pv (Nr ?_))
 iterate 5 refine Pv ?_
 refine T_sliceR 0 (min l.length n) hv rfl rfl rfl rfl rfl rfl rfl rfl rfl rfl (bound_of (by omega)) rfl (by omega) (by omega) fun a1 c2 hc3 r4 => ?_
 have r5 := Rd.cutB r4
 have r6 : Rd H (.slice a1 ((min l.length n) - 0) c2) ((min l.length n) - 0) 1 ((l.take n).map bV) := by rw [← take_min l n]; exact r5
 refine Pv (T_nil (W_ret ?_))
 refine ⟨_, ⟨_, _, rfl, rfl, rfl⟩, ?_⟩
 exact rdB_end rfl hc3 r6 S0.below


theorem sameB_ok {H : Hp} {w : World} (hH : H.le (hw w)) {l : List UInt8} {aa0 : Option Addr} {nn0 cc0 : Nat} (hv : Rd H (.slice aa0 nn0 cc0) nn0 1 (l.map bV)) {m : List UInt8} {aa1 : Option Addr} {nn1 cc1 : Nat} (hu : Rd H (.slice aa1 nn1 cc1) nn1 1 (m.map bV)) (hb : l.length ≤ 9223372036854775806) :
  Calls Tryz.prog 10 #[.slice aa0 nn0 cc0, .slice aa1 nn1 cc1] w fun e w' => e = .returned (.bool (decide (l = m))) ∧ Below w.heap.size w w' := by
 obtain rfl : nn0 = l.length := hv.lenB
 have hvcap : l.length ≤ cc0 := hv.capOf
 obtain rfl : nn1 = m.length := hu.lenB
 have hucap : m.length ≤ cc1 := hu.capOf
 refine enter2 _ Tryz.func10 rfl Tryz.ntmps10 Tryz.results10 rfl ?_
 have S0 := St.start w hH
 refine Wr (Pv (T_nil (W_seq (Wr ?_))))
 iterate 5 refine Pv ?_
 refine T_nil (W_cond_not rfl (fun h1 => ?_) (fun h1 => ?_))
 ·refine Wr (Pv (T_nil (W_ret ?_)))
  refine ⟨_, ⟨_, _, rfl, rfl, rfl⟩, ?_⟩
  exact ⟨congrArg (fun z => Ending.returned (Value.bool z)) (decide_eq_false (fun e => h1 (by rw [e]))).symm, S0.below⟩
 refine W_skip (W_seq (Wr (Pv (T_nil (W_block ?_)))))
 refine W_loop (fun M ρ w' => ∃ (k : Nat) (G2 : Hp), M = l.length - k ∧ k ≤ l.length ∧ l.take k = m.take k ∧ ρ = [(0, .slice aa0 l.length cc0), (1, .slice aa1 m.length cc1), (5, .int .i64 (k : Int))] ∧ H.le G2 ∧ St w H G2 [] w')
  (l.length - 0) [(0, .slice aa0 l.length cc0), (1, .slice aa1 m.length cc1), (5, .int .i64 ((0 : Nat) : Int))] ⟨rfl, rfl, ciI, trivial⟩ ⟨0, H, rfl, (by omega), (by simp), rfl, Hp.le.refl _, S0⟩ ?_
 rintro M ρ w4 ⟨k, G2, rfl, hp6, hq, rfl, hl3, S5⟩
 refine W_seq (Wr ?_)
 iterate 4 refine Pv ?_
 refine T_nil (Aa (fun h8 => ?_) (fun h8 => ?_))
 ·refine W_skip (W_seq (W_block (W_seq (W_draw rfl (by kernel_rfl) ?_))))
  have S9 := S5.drew
  refine P2 ?_
  refine Af k (hv.mono hl3) fun b10 o11 hc12 => ?_
  have hc13 := hc12 0 (bV (l.getD k 0)) (at_b l k (by omega))
  simp only [Nat.add_zero] at hc13
  refine Ab (r := by exact hc13) S9 ?_
  refine P2 ?_
  refine Af k (hu.mono hl3) fun b14 o15 hc16 => ?_
  have hc17 := hc16 0 (bV (m.getD k 0)) (at_b m k (by omega))
  simp only [Nat.add_zero] at hc17
  refine Ab (r := by exact hc17) S9 ?_
  refine Pv (T_nil ?_)
  refine W_cond_not rfl (fun h18 => ?_) (fun h18 => ?_)
  ·refine Wr (Pv (T_nil (W_ret ?_)))
   refine ⟨_, ⟨_, _, rfl, rfl, rfl⟩, ?_⟩
   exact ⟨congrArg (fun z => Ending.returned (Value.bool z)) (decide_eq_false (getD_ne (d := 0) (fun e => h18 (by rw [e])))).symm, S9.below⟩
  refine W_skip (W_region (Pv ?_))
  refine Ar ?_
  refine Pv (T_nil ?_)
  have HEQ : l.getD k 0 = m.getD k 0 := by exact bV_inj.1 h18
  exact ⟨l.length - (k + 1), [(0, .slice aa0 l.length cc0), (1, .slice aa1 m.length cc1), (5, .int .i64 ((k + 1 : Nat) : Int))], by omega, ⟨rfl, rfl, ciI, trivial⟩, k + 1, G2, rfl, (by omega), (by exact take_ext (d := 0) (by omega) (by omega) hq HEQ), rfl, hl3, S9⟩
 refine W_exit (Wr (Pv (T_nil (W_ret ?_))))
 refine ⟨_, ⟨_, _, rfl, rfl, rfl⟩, ?_⟩
 have hk : k = l.length := by omega
 have heq : l = m := by rw [hk, List.take_length, List.take_of_length_le (by omega)] at hq; exact hq
 exact ⟨congrArg (fun z => Ending.returned (Value.bool z)) (decide_eq_true heq).symm, S5.below⟩


theorem copyH_ok {H : Hp} {w : World} (hH : H.le (hw w)) {l : List (List UInt8)} {aa0 : Option Addr} {nn0 cc0 : Nat} (hv : RdH H (.slice aa0 nn0 cc0) 32 l) (hb : l.length ≤ 1000000) :
  Calls Tryz.prog 16 #[.slice aa0 nn0 cc0] w fun e w' => ∃ a c, l.length ≤ c ∧ e = .returned (.slice a l.length c) ∧ rowZ w' w.heap.size 37 32 (.slice a l.length c) l.length (hcells l) ∧ Below w.heap.size w w' := by
 obtain rfl : nn0 = l.length := hv.len
 have hvcap : l.length ≤ cc0 := hv.2.capOf
 refine enter1 _ Tryz.func16 rfl Tryz.ntmps16 Tryz.results16 rfl ?_
 have S0 := St.start w hH
 refine Wr (Pv (Nr ?_))
 refine Pv ?_
 have S1 := S0.nilRow 37 32
 refine Ae (h1 := by exact one_hcells _) (hn' := by first | rfl | (simp; done) | (simp; omega) | omega) (hx' := by simp [hcells_append, hcells]) (hbytes := by show _ * 32 ≤ _; omega) 0 l.length (hcells l) S1 (hv.2.mono S1.le) fun a2 c3 w4 hc5 S6 => ?_
 refine Pv (T_nil (W_ret ?_))
 refine ⟨_, ⟨_, _, rfl, rfl, rfl⟩, ?_⟩
 exact ⟨_, _, hc5, rfl, S6.row 0 rfl, S6.below⟩


theorem withinN_ok {H : Hp} {w : World} (_ : H.le (hw w)) (v n : Int) (hn : 1 ≤ n ∧ n ≤ 1000000000) :
  Calls Tryz.prog 4 #[.int .i64 v, .int .i64 n] w fun e w' => e = .returned (.int .i64 (v % n)) ∧ Below w.heap.size w w' := within_ok v n w hn
end Go.Proofs.YtfcejolipdcoaaaGreatDoor
namespace Go.Proofs.YtfcejolipdcoaaaGreatDoor
open Go Go.ChangeShapes Go.WideShapes Go.ChangeAt Go.RowKit

theorem own : ownKnob Tryz.prog.godebug = none := by kernel_rfl
theorem laidOut : laidOutB Tryz.prog = true := by kernel_rfl
theorem gPow : Tryz.prog.globalNamed "internal/strconv.uint64pow10" = some 0 := by kernel_rfl
theorem tPow : (Tryz.prog.globals[0]?).map (·.type) = some 127 := by kernel_rfl
def theLaid : List (String × DataW Unit) := [("math/bits.deBruijn32tab", Rows.laid_math_bits_deBruijn32tab), ("math/bits.deBruijn64tab", Rows.laid_math_bits_deBruijn64tab), ("internal/strconv.uint64pow10", Rows.laid_internal_strconv_uint64pow10)]

theorem tabs_of {W : World} (h : laidMetH Tryz.prog theLaid W) : Tabs (F.hw W) := by
 rw [MakeChecks.laidMetH_plain _ _ _ (by kernel_rfl)] at h
 obtain ⟨ps, ⟨_, _, _, _, _, _, _, _, _, _, ⟨_, _, _, _, _, _, _, _, _, _, ⟨g2, t2, cs2, f2, p2, q2, hg2, ht2, hv2, hd2, _, _⟩, _⟩, _⟩, _, _⟩ := h
 obtain rfl := Option.some.inj (gPow.symm.trans hg2)
 obtain rfl := Option.some.inj (tPow.symm.trans ht2)
 have hl : cs2.toList = ((List.range 20).map fun i => ((10 ^ i : Nat) : Int)).map (Value.int .u64) :=
  F.laid_ints (zs := (List.range 20).map fun i => ((10 ^ i : Nat) : Int)) Tryz.underlying127 Tryz.underlying112 (by kernel_rfl) (by kernel_rfl) hd2
 intro i hi
 refine F.hcell_of_cell ?_
 rw [World.var?_cell hg2 hv2 i, ← Array.getElem?_toList, hl]
 simp [hi]

theorem door_met (os : Os) (args : Array Value) : laidMetH Tryz.prog theLaid ((World.doorLaid Tryz.prog 400 os).forCall (fun _ _ => 0) ⟨#[], args, []⟩).memory :=
 laidMetH_of_parts3 (fuel := 8) (laidMet_of_run' 8 (by kernel_rfl) (by kernel_rfl)) (by kernel_rfl) (by kernel_rfl)
theorem door_shaped (os : Os) (args : Array Value) : ((World.doorLaid Tryz.prog 400 os).forCall (fun _ _ => 0) ⟨#[], args, []⟩).Shaped Tryz.prog :=
 World.shaped_of_RefB (by kernel_rfl) (by kernel_rfl)
end Go.Proofs.YtfcejolipdcoaaaGreatDoor
namespace Go.Proofs.YtfcejolipdcoaaaGreatDoor
open Go Go.F Go.RowKit
open Go.Au





theorem ntext_ok {H : Hp} {w : World} (hH : H.le (hw w)) (hT : Tabs H) {x y : List UInt8} (hx : x.length = 32) (hy : y.length = 32) :
  Calls Tryz.prog 92 #[hV x, hV y] w fun e w' => ∃ a c, (Go.Au.text [110, 111, 100, 101] [x, y]).length ≤ c ∧ e = .returned (.slice a (Go.Au.text [110, 111, 100, 101] [x, y]).length c) ∧ rowZ w' w.heap.size 5 1 (.slice a (Go.Au.text [110, 111, 100, 101] [x, y]).length c) (Go.Au.text [110, 111, 100, 101] [x, y]).length ((Go.Au.text [110, 111, 100, 101] [x, y]).map bV) ∧ Below w.heap.size w w' := by
 have htx := text2 (tag := [110, 111, 100, 101]) (a := x) (b := y) (by decide) (by omega) (by omega)
 refine enter2 _ Tryz.func92 rfl Tryz.ntmps92 Tryz.results92 rfl ?_
 have S0 := St.start w hH
 refine Wr (Ah S0 fun b1 w2 S3 => ?_)
 refine Ah S3 fun b4 w5 S6 => ?_
 refine Pv (T_nil (W_seq ?_))
 refine W_draw rfl (by kernel_rfl) ?_
 have S7 := S6.drew
 obtain ⟨G9, hl10, S8, r11⟩ := S7.stillBlk 1 rfl
 refine T_sliceAll rfl rfl rfl rfl rfl rfl rfl rfl ?_
 have r12 := Rd.of_blk (m := 32) (size := 1) (xs := x.map bV) r11 (hcell1 _) (by rw [List.length_map, hx])
 obtain ⟨G14, hl15, S13, r16⟩ := S8.stillBlk 0 rfl
 refine T_sliceAll rfl rfl rfl rfl rfl rfl rfl rfl ?_
 have r17 := Rd.of_blk (m := 32) (size := 1) (xs := y.map bV) r16 (hcell1 _) (by rw [List.length_map, hy])
 have rs22 : Rds G14 [.slice (some ⟨b1, 0, none⟩) 32 32, .slice (some ⟨b4, 0, none⟩) 32 32] [x, y] := Rds.cons (Rd.canonB (r12.mono hl15)) (Rds.cons (Rd.canonB r17) (Rds.nil _))
 refine Ad (hone := by simp [Value.cells]; rfl) [.slice (some ⟨b1, 0, none⟩) 32 32, .slice (some ⟨b4, 0, none⟩) 32 32] fun a18 w19 hB20 ho21 => ?_
 have S23 := S13.own hB20 ho21
 refine ⟨trivial, ?_⟩
 obtain ⟨G25, hl26, S24, r27⟩ := S23.stillRow 0 rfl
 have r28 := RdL.mk r27 (rs22.mono hl26)
 refine Cs g_aumbry_sha_Text ((text_ok S24.le (hT.mono (hl10.trans (hl15.trans hl26))) r28 (by omega)).mono ?_)
 rintro e w34 ⟨a29, c30, hc31, rfl, ho32, hB33⟩
 have S35 := S24.own hB33 ho32
 refine ⟨_, rfl, trivial, ?_⟩
 refine Pv (T_nil (W_ret ?_))
 refine ⟨_, ⟨_, _, rfl, rfl, rfl⟩, ?_⟩
 exact ⟨_, _, hc31, rfl, S35.row 0 rfl, S35.below⟩


theorem ntextR_ok {H : Hp} {w : World} (hH : H.le (hw w)) {x y : List UInt8} (hx : x.length = 32) (hy : y.length = 32) :
  Calls Tryz.prog 79 #[hV x, hV y] w fun e w' => ∃ a c, (Go.Au.text [110, 111, 100, 101] [x, y]).length ≤ c ∧ e = .returned (.slice a (Go.Au.text [110, 111, 100, 101] [x, y]).length c) ∧ rowZ w' w.heap.size 5 1 (.slice a (Go.Au.text [110, 111, 100, 101] [x, y]).length c) (Go.Au.text [110, 111, 100, 101] [x, y]).length ((Go.Au.text [110, 111, 100, 101] [x, y]).map bV) ∧ Below w.heap.size w w' := by
 have htx := text2 (tag := [110, 111, 100, 101]) (a := x) (b := y) (by decide) (by omega) (by omega)
 refine enter2 _ Tryz.func79 rfl Tryz.ntmps79 Tryz.results79 rfl ?_
 have S0 := St.start w hH
 refine Wr (Ah S0 fun b1 w2 S3 => ?_)
 refine Ah S3 fun b4 w5 S6 => ?_
 refine Pv (T_nil (W_seq ?_))
 refine W_draw rfl (by kernel_rfl) ?_
 have S7 := S6.drew
 obtain ⟨G9, hl10, S8, r11⟩ := S7.stillBlk 1 rfl
 refine T_sliceAll rfl rfl rfl rfl rfl rfl rfl rfl ?_
 have r12 := Rd.of_blk (m := 32) (size := 1) (xs := x.map bV) r11 (hcell1 _) (by rw [List.length_map, hx])
 obtain ⟨G14, hl15, S13, r16⟩ := S8.stillBlk 0 rfl
 refine T_sliceAll rfl rfl rfl rfl rfl rfl rfl rfl ?_
 have r17 := Rd.of_blk (m := 32) (size := 1) (xs := y.map bV) r16 (hcell1 _) (by rw [List.length_map, hy])
 have rs22 : Rds G14 [.slice (some ⟨b1, 0, none⟩) 32 32, .slice (some ⟨b4, 0, none⟩) 32 32] [x, y] := Rds.cons (Rd.canonB (r12.mono hl15)) (Rds.cons (Rd.canonB r17) (Rds.nil _))
 refine Ad (hone := by simp [Value.cells]; rfl) [.slice (some ⟨b1, 0, none⟩) 32 32, .slice (some ⟨b4, 0, none⟩) 32 32] fun a18 w19 hB20 ho21 => ?_
 have S23 := S13.own hB20 ho21
 refine ⟨trivial, ?_⟩
 obtain ⟨G25, hl26, S24, r27⟩ := S23.stillRow 0 rfl
 have r28 := RdL.mk r27 (rs22.mono hl26)
 refine Cs g_aumbry_aumbryref01_Text ((textR_ok S24.le r28 (by omega)).mono ?_)
 rintro e w34 ⟨a29, c30, hc31, rfl, ho32, hB33⟩
 have S35 := S24.own hB33 ho32
 refine ⟨_, rfl, trivial, ?_⟩
 refine Pv (T_nil (W_ret ?_))
 refine ⟨_, ⟨_, _, rfl, rfl, rfl⟩, ?_⟩
 exact ⟨_, _, hc31, rfl, S35.row 0 rfl, S35.below⟩


theorem node_ok {H : Hp} {w : World} (hH : H.le (hw w)) (hT : Tabs H) {x y : List UInt8} (hx : x.length = 32) (hy : y.length = 32) :
  Calls Tryz.prog 90 #[hV x, hV y] w fun e w' => e = .returned (hV (Go.Au.node x y)) ∧ Below w.heap.size w w' := by
 have htx := text2 (tag := [110, 111, 100, 101]) (a := x) (b := y) (by decide) (by omega) (by omega)
 refine enter2 _ Tryz.func90 rfl Tryz.ntmps90 Tryz.results90 rfl ?_
 have S0 := St.start w hH
 refine Wr (Ah S0 fun b1 w2 S3 => ?_)
 refine Ah S3 fun b4 w5 S6 => ?_
 refine Ac S6 fun b7 w8 S9 => (Nr ?_)
 refine Ai (hl := by exact hVs hx) 2 S9 ?_
 refine Ai (hl := by exact hVs hy) 1 S9 ?_
 refine Cs g_aumbry_tree_text ((ntext_ok S9.le hT hx hy).mono ?_)
 rintro e w15 ⟨a10, c11, hc12, rfl, ho13, hB14⟩
 have S16 := S9.own hB14 ho13
 refine ⟨_, rfl, trivial, ?_⟩
 obtain ⟨G18, hl19, S17, r20⟩ := S16.stillRow 0 rfl
 refine Cs g_aumbry_sha_Sum ((sumN_ok S17.le r20 (by omega)).mono ?_)
 rintro e w22 ⟨rfl, hB21⟩
 have S23 := S17.call hB21
 refine ⟨_, rfl, trivial, ?_⟩
 refine T_re (v' := hV (Go.Au.node x y)) rfl (Ag (hl := by exact hVs (node_len _ _)) (hl2 := by exact hVs (node_len _ _)) (h1 := by exact one_hA _) 0 S23 fun w24 S25 => (T_nil (W_ret ?_)))
 refine ⟨_, ⟨_, _, _, rfl, rfl, run_loadVarA rfl rfl (hVs (node_len _ _)) (S25.cells 0 rfl), rfl⟩, ?_⟩
 exact ⟨rfl, S25.below⟩


theorem nodeR_ok {H : Hp} {w : World} (hH : H.le (hw w)) {x y : List UInt8} (hx : x.length = 32) (hy : y.length = 32) :
  Calls Tryz.prog 76 #[hV x, hV y] w fun e w' => e = .returned (hV (Go.Au.node x y)) ∧ Below w.heap.size w w' := by
 have htx := text2 (tag := [110, 111, 100, 101]) (a := x) (b := y) (by decide) (by omega) (by omega)
 refine enter2 _ Tryz.func76 rfl Tryz.ntmps76 Tryz.results76 rfl ?_
 have S0 := St.start w hH
 refine Wr (Ah S0 fun b1 w2 S3 => ?_)
 refine Ah S3 fun b4 w5 S6 => ?_
 refine Ac S6 fun b7 w8 S9 => (Nr ?_)
 refine Ai (hl := by exact hVs hx) 2 S9 ?_
 refine Ai (hl := by exact hVs hy) 1 S9 ?_
 refine Cs g_aumbry_aumbryref07_nodeText ((ntextR_ok S9.le hx hy).mono ?_)
 rintro e w15 ⟨a10, c11, hc12, rfl, ho13, hB14⟩
 have S16 := S9.own hB14 ho13
 refine ⟨_, rfl, trivial, ?_⟩
 obtain ⟨G18, hl19, S17, r20⟩ := S16.stillRow 0 rfl
 refine Cs g_aumbry_aumbryref01_Sum ((sumR_ok S17.le r20 (by omega)).mono ?_)
 rintro e w22 ⟨rfl, hB21⟩
 have S23 := S17.call hB21
 refine ⟨_, rfl, trivial, ?_⟩
 refine T_re (v' := hV (Go.Au.node x y)) rfl (Ag (hl := by exact hVs (node_len _ _)) (hl2 := by exact hVs (node_len _ _)) (h1 := by exact one_hA _) 0 S23 fun w24 S25 => (T_nil (W_ret ?_)))
 refine ⟨_, ⟨_, _, _, rfl, rfl, run_loadVarA rfl rfl (hVs (node_len _ _)) (S25.cells 0 rfl), rfl⟩, ?_⟩
 exact ⟨rfl, S25.below⟩


theorem pad_ok {H : Hp} {w : World} (hH : H.le (hw w)) (n : Int) (hn : n ≤ 2199023255552) :
  Calls Tryz.prog 89 #[.int .i64 n] w fun e w' => e = .returned (.int .i64 ((padN n.toNat : Nat) : Int)) ∧ Below w.heap.size w w' := by
 have hlg := lg_le (n := n.toNat) (m := 41) (by show _ ≤ 2199023255552; omega)
 refine enter1 _ Tryz.func89 rfl Tryz.ntmps89 Tryz.results89 rfl ?_
 have S0 := St.start w hH
 refine Wr (Pv (Nr ?_))
 refine Pv (T_nil (W_seq (W_block ?_)))
 refine W_loop (fun M ρ w' => ∃ (k : Nat) (G1 : Hp), M = 42 - k ∧ k ≤ lg n.toNat ∧ ρ = [(0, .int .i64 n), (3, .int .i64 ((2 ^ k : Nat) : Int))] ∧ H.le G1 ∧ St w H G1 [] w')
  (42 - 0) [(0, .int .i64 n), (3, .int .i64 (1 : Int))] ⟨ciI, ciI, trivial⟩ ⟨0, H, rfl, (by exact Nat.zero_le _), rfl, Hp.le.refl _, S0⟩ ?_
 rintro M ρ w3 ⟨k, G1, rfl, hp5, rfl, hl2, S4⟩
 have hp2 : 2 ^ k ≤ 2 ^ 41 := Nat.pow_le_pow_right (by omega) (by omega)
 have hps : 2 ^ (k + 1) = 2 * 2 ^ k := by rw [Nat.pow_succ]; omega
 refine W_seq (Wr ?_)
 iterate 4 refine Pv ?_
 refine Td 7 (fun h6 => ?_) (fun h6 => ?_)
 ·iterate 2 (refine Ys ?_; refine Pv ?_)
  refine Pv (T_nil ?_)
  refine Aa (fun h7 => ?_) (fun h7 => ?_)
  ·refine W_skip (W_block (W_region (Pv ?_)))
   refine Ar ?_
   refine Pv (T_nil ?_)
   exact ⟨42 - (k + 1), [(0, .int .i64 n), (3, .int .i64 ((2 ^ (k + 1) : Nat) : Int))], by omega, ⟨ciI, ciI, trivial⟩, k + 1, G1, rfl, (by exact lg_gt (by omega) (by assumption)), rfl, hl2, S4⟩
  refine W_exit (Wr (P2 (T_nil (W_ret ?_))))
  refine ⟨_, ⟨_, _, rfl, rfl, rfl⟩, ?_⟩
  obtain rfl : k = lg n.toNat := lg_of (by omega) (by assumption)
  exact ⟨rfl, S4.below⟩
 iterate 2 refine No ?_
 refine Pv (T_nil ?_)
 refine W_cond_false rfl (W_exit (Wr (P2 (T_nil (W_ret ?_)))))
 refine ⟨_, ⟨_, _, rfl, rfl, rfl⟩, ?_⟩
 obtain rfl : k = lg n.toNat := lg_of (by omega) (by assumption)
 exact ⟨rfl, S4.below⟩


theorem padR_ok {H : Hp} {w : World} (hH : H.le (hw w)) (n : Int) (hn : n ≤ 2199023255552) :
  Calls Tryz.prog 75 #[.int .i64 n] w fun e w' => e = .returned (.int .i64 ((padN n.toNat : Nat) : Int)) ∧ Below w.heap.size w w' := by
 have hlg := lg_le (n := n.toNat) (m := 41) (by show _ ≤ 2199023255552; omega)
 refine enter1 _ Tryz.func75 rfl Tryz.ntmps75 Tryz.results75 rfl ?_
 have S0 := St.start w hH
 refine Wr (Pv (Nr ?_))
 refine Pv (T_nil (W_seq (W_block ?_)))
 refine W_loop (fun M ρ w' => ∃ (k : Nat) (G1 : Hp), M = 42 - k ∧ k ≤ lg n.toNat ∧ ρ = [(0, .int .i64 n), (3, .int .i64 ((2 ^ k : Nat) : Int))] ∧ H.le G1 ∧ St w H G1 [] w')
  (42 - 0) [(0, .int .i64 n), (3, .int .i64 (1 : Int))] ⟨ciI, ciI, trivial⟩ ⟨0, H, rfl, (by exact Nat.zero_le _), rfl, Hp.le.refl _, S0⟩ ?_
 rintro M ρ w3 ⟨k, G1, rfl, hp5, rfl, hl2, S4⟩
 have hp2 : 2 ^ k ≤ 2 ^ 41 := Nat.pow_le_pow_right (by omega) (by omega)
 have hps : 2 ^ (k + 1) = 2 * 2 ^ k := by rw [Nat.pow_succ]; omega
 refine W_seq (Wr ?_)
 iterate 4 refine Pv ?_
 refine Td 7 (fun h6 => ?_) (fun h6 => ?_)
 ·iterate 2 (refine Ys ?_; refine Pv ?_)
  refine Pv (T_nil ?_)
  refine Aa (fun h7 => ?_) (fun h7 => ?_)
  ·refine W_skip (W_block (W_region (Pv ?_)))
   refine Ar ?_
   refine Pv (T_nil ?_)
   exact ⟨42 - (k + 1), [(0, .int .i64 n), (3, .int .i64 ((2 ^ (k + 1) : Nat) : Int))], by omega, ⟨ciI, ciI, trivial⟩, k + 1, G1, rfl, (by exact lg_gt (by omega) (by assumption)), rfl, hl2, S4⟩
  refine W_exit (Wr (P2 (T_nil (W_ret ?_))))
  refine ⟨_, ⟨_, _, rfl, rfl, rfl⟩, ?_⟩
  obtain rfl : k = lg n.toNat := lg_of (by omega) (by assumption)
  exact ⟨rfl, S4.below⟩
 iterate 2 refine No ?_
 refine Pv (T_nil ?_)
 refine W_cond_false rfl (W_exit (Wr (P2 (T_nil (W_ret ?_)))))
 refine ⟨_, ⟨_, _, rfl, rfl, rfl⟩, ?_⟩
 obtain rfl : k = lg n.toNat := lg_of (by omega) (by assumption)
 exact ⟨rfl, S4.below⟩


theorem upR_ok {H : Hp} {w : World} (hH : H.le (hw w)) {l : List (List UInt8)} {aa0 : Option Addr} {nn0 cc0 : Nat} (hv : RdH H (.slice aa0 nn0 cc0) 32 l) (hb : l.length ≤ 100000) :
  Calls Tryz.prog 60 #[.slice aa0 nn0 cc0] w fun e w' => ∃ a c, (l.length / 2) ≤ c ∧ e = .returned (.slice a (l.length / 2) c) ∧ rowZ w' w.heap.size 37 32 (.slice a (l.length / 2) c) (l.length / 2) (hcells (up l)) ∧ Below w.heap.size w w' := by
 obtain rfl : nn0 = l.length := hv.len
 have hvcap : l.length ≤ cc0 := hv.2.capOf
 refine enter1 _ Tryz.func60 rfl Tryz.ntmps60 Tryz.results60 rfl ?_
 have S0 := St.start w hH
 refine Wr (Pv (Nr ?_))
 refine Pv (T_nil (W_seq (Wr ?_)))
 refine Pv (T_nil (W_block ?_))
 have S1 := S0.nilRow 37 32
 refine W_loop (fun M ρ w' => ∃ (k : Nat) (a4 : Option Addr) (c5 : Nat) (G2 : Hp), M = l.length - k ∧ 2 * k ≤ l.length ∧ ρ = [(0, .slice aa0 l.length cc0), (3, .slice a4 k c5), (4, .int .i64 ((2 * k : Nat) : Int))] ∧ H.le G2 ∧ St w H G2 [.row 37 32 (.slice a4 k c5) k (hcells (upTo l k))] w' ∧ (∀ y ∈ upTo l k, y.length = 32) ∧ k ≤ c5)
  (l.length - 0) [(0, .slice aa0 l.length cc0), (3, .slice none 0 0), (4, .int .i64 (0 : Int))] ⟨rfl, rfl, ciI, trivial⟩ ⟨0, none, 0, H, rfl, (by omega), rfl, Hp.le.refl _, S1, (fun _ h => by cases h), (Nat.le_refl _)⟩ ?_
 rintro M ρ w8 ⟨k, a4, c5, G2, rfl, hp10, rfl, hl3, S9, hh7, hc6⟩
 refine W_seq (Wr (Pv ?_))
 refine Ar ?_
 refine P3 (T_nil ?_)
 refine Aa (fun h11 => ?_) (fun h11 => ?_)
 ·refine W_skip (W_seq (W_block (W_draw rfl (by kernel_rfl) ?_)))
  have S12 := S9.drew
  refine P3 ?_
  refine Af (2 * k) (hv.mono hl3).2 fun b13 o14 hc15 => ?_
  have hc16 := cells_h (hv.mono hl3).1 (2 * k) (by omega) hc15
  have hl17 := len_h (hv.mono hl3).1 (2 * k) (by omega)
  refine T_loadGA _ S12 hc16 rfl rfl rfl rfl rfl rfl rfl rfl (hVs hl17) (P2 ?_)
  refine Ar ?_
  refine Af ((2 * k) + 1) (hv.mono hl3).2 fun b18 o19 hc20 => ?_
  have hc21 := cells_h (hv.mono hl3).1 ((2 * k) + 1) (by omega) hc20
  have hl22 := len_h (hv.mono hl3).1 ((2 * k) + 1) (by omega)
  refine T_loadGA _ S12 hc21 rfl rfl rfl rfl rfl rfl rfl rfl (hVs hl22) (Cs g_aumbry_aumbryref07_Node ((nodeR_ok S12.le hl17 hl22).mono ?_))
  rintro e w24 ⟨rfl, hB23⟩
  have S25 := S12.call hB23
  refine ⟨_, rfl, trivial, ?_⟩
  refine T_litS (hcells [Go.Au.node (l.getD (2 * k) []) (l.getD ((2 * k) + 1) [])]) rfl rfl rfl rfl rfl rfl rfl rfl rfl rfl rfl rfl rfl (one_h (node_len _ _)) (by simp [hcells, hV, Value.cells]) fun a26 w27 hB28 ho29 => ?_
  have S30 := S25.own hB28 ho29
  refine ⟨trivial, ?_⟩
  have hD31 : (upTo l k ++ [Go.Au.node (l.getD (2 * k) []) (l.getD ((2 * k) + 1) [])]) = upTo l (k + 1) := (upTo_snoc _ _)
  refine Ae (h1 := by exact one_hcells _) (hn' := by first | rfl | (simp; done) | (simp; omega) | omega) (hx' := by rw [← hD31]; simp [hcells_append, hcells]) (hbytes := by show _ * 32 ≤ _; omega) 1 (k + 1) (hcells (upTo l (k + 1))) S30 (S30.rd 0 rfl) fun a32 c33 w34 hc35 S36 => ?_
  have hh37 : ∀ y ∈ upTo l (k + 1), y.length = 32 := by rw [← hD31]; exact (all_app hh7 (all_h1 (node_len _ _)))
  refine Pv (T_nil (W_region ?_))
  refine Pv ?_
  refine Ar ?_
  refine Pv (T_nil ?_)
  have S38 := S36.drop 0
  exact ⟨l.length - (k + 1), [(0, .slice aa0 l.length cc0), (3, .slice a32 (k + 1) c33), (4, .int .i64 ((2 * (k + 1) : Nat) : Int))], by omega, ⟨rfl, rfl, ciI, trivial⟩, k + 1, a32, c33, G2, rfl, (by omega), rfl, hl3, S38, hh37, hc35⟩
 refine W_exit (Wr (P2 (T_nil (W_ret ?_))))
 refine ⟨_, ⟨_, _, rfl, rfl, rfl⟩, ?_⟩
 obtain rfl : k = l.length / 2 := by omega
 exact ⟨_, _, hc6, rfl, S9.row 0 rfl, S9.below⟩


theorem rowR_ok {H : Hp} {w : World} (hH : H.le (hw w)) {l : List (List UInt8)} {aa0 : Option Addr} {nn0 cc0 : Nat} (hv : RdH H (.slice aa0 nn0 cc0) 32 l) (hb : l.length ≤ 100000) :
  Calls Tryz.prog 59 #[.slice aa0 nn0 cc0] w fun e w' => ∃ a c, (l.length + (padN l.length - l.length)) ≤ c ∧ e = .returned (.slice a (l.length + (padN l.length - l.length)) c) ∧ rowZ w' w.heap.size 37 32 (.slice a (l.length + (padN l.length - l.length)) c) (l.length + (padN l.length - l.length)) (hcells (rowP l)) ∧ Below w.heap.size w w' := by
 obtain rfl : nn0 = l.length := hv.len
 have hvcap : l.length ≤ cc0 := hv.2.capOf
 have hpb := padN_lt l.length 17 (by omega)
 have hpl := padN_le l.length
 have htp : (Go.Au.text [112, 97, 100] []).length < 10000 := by decide
 refine enter1 _ Tryz.func59 rfl Tryz.ntmps59 Tryz.results59 rfl ?_
 have S0 := St.start w hH
 refine Wr (Pv (Nr ?_))
 refine Pv ?_
 have S1 := S0.nilRow 37 32
 refine Ae (h1 := by exact one_hcells _) (hn' := by first | rfl | (simp; done) | (simp; omega) | omega) (hx' := by simp [hcells_append, hcells]) (hbytes := by show _ * 32 ≤ _; omega) 0 l.length (hcells l) S1 (hv.2.mono S1.le) fun a2 c3 w4 hc5 S6 => ?_
 refine Pv (T_nil (W_seq (W_block ?_)))
 refine W_loop (fun M ρ w' => ∃ (k : Nat) (a9 : Option Addr) (c10 : Nat) (G7 : Hp), M = padN l.length - k ∧ l.length + k ≤ padN l.length ∧ ρ = [(0, .slice aa0 l.length cc0), (3, .slice a9 (l.length + k) c10)] ∧ H.le G7 ∧ St w H G7 [.row 37 32 (.slice a9 (l.length + k) c10) (l.length + k) (hcells (padTo l k))] w' ∧ (∀ y ∈ padTo l k, y.length = 32) ∧ (l.length + k) ≤ c10)
  (padN l.length - 0) [(0, .slice aa0 l.length cc0), (3, .slice a2 l.length c3)] ⟨rfl, rfl, trivial⟩ ⟨0, a2, c3, H, rfl, (by omega), rfl, Hp.le.refl _, S6, hv.1, hc5⟩ ?_
 rintro M ρ w13 ⟨k, a9, c10, G7, rfl, hp15, rfl, hl8, S14, hh12, hc11⟩
 refine W_seq (Wr ?_)
 iterate 4 refine Pv ?_
 refine Cs g_aumbry_aumbryref07_Pad ((padR_ok S14.le ((l.length : Nat) : Int) (by omega)).mono ?_)
 rintro e w17 ⟨rfl, hB16⟩
 have S18 := S14.call hB16
 refine ⟨_, rfl, trivial, ?_⟩
 refine T_re (v' := .int .i64 ((padN l.length : Nat) : Int)) (by rw [Int.toNat_natCast]) ?_
 refine Pv (T_nil ?_)
 refine Aa (fun h19 => ?_) (fun h19 => ?_)
 ·refine W_skip (W_block (W_region (Pv ?_)))
  refine Cs g_aumbry_aumbryref01_Tagged ((taggedR_ok S18.le (nilS _) (by omega)).mono ?_)
  rintro e w21 ⟨rfl, hB20⟩
  have S22 := S18.call hB20
  refine ⟨_, rfl, trivial, ?_⟩
  refine T_re (v' := hV padH) rfl (T_litS (hcells [padH]) rfl rfl rfl rfl rfl rfl rfl rfl rfl rfl rfl rfl rfl (one_h padH_len) (by simp [hcells, hV, Value.cells]) fun a23 w24 hB25 ho26 => ?_)
  have S27 := S22.own hB25 ho26
  refine ⟨trivial, ?_⟩
  have hD28 : (padTo l k ++ [padH]) = padTo l (k + 1) := rfl
  refine Ae (h1 := by exact one_hcells _) (hn' := by first | rfl | (simp; done) | (simp; omega) | omega) (hx' := by rw [← hD28]; simp [hcells_append, hcells]) (hbytes := by show _ * 32 ≤ _; omega) 1 (l.length + (k + 1)) (hcells (padTo l (k + 1))) S27 (S27.rd 0 rfl) fun a29 c30 w31 hc32 S33 => ?_
  have hh34 : ∀ y ∈ padTo l (k + 1), y.length = 32 := by rw [← hD28]; exact (all_app hh12 (all_h1 padH_len))
  refine Pv (T_nil ?_)
  have S35 := S33.drop 0
  exact ⟨padN l.length - (k + 1), [(0, .slice aa0 l.length cc0), (3, .slice a29 (l.length + (k + 1)) c30)], by omega, ⟨rfl, rfl, trivial⟩, k + 1, a29, c30, G7, rfl, (by omega), rfl, hl8, S35, hh34, hc32⟩
 refine W_exit (Wr (P2 (T_nil (W_ret ?_))))
 refine ⟨_, ⟨_, _, rfl, rfl, rfl⟩, ?_⟩
 obtain rfl : k = padN l.length - l.length := by omega
 exact ⟨_, _, hc11, rfl, S18.row 0 rfl, S18.below⟩


theorem rootR_ok {H : Hp} {w : World} (hH : H.le (hw w)) {l : List (List UInt8)} {aa0 : Option Addr} {nn0 cc0 : Nat} (hv : RdH H (.slice aa0 nn0 cc0) 32 l) (hb : l.length ≤ 1024) :
  Calls Tryz.prog 39 #[.slice aa0 nn0 cc0] w fun e w' => e = .returned (hV (Go.Au.root l)) ∧ Below w.heap.size w w' := by
 obtain rfl : nn0 = l.length := hv.len
 have hvcap : l.length ≤ cc0 := hv.2.capOf
 refine enter1 _ Tryz.func39 rfl Tryz.ntmps39 Tryz.results39 rfl ?_
 have S0 := St.start w hH
 refine Wr (Ac S0 fun b1 w2 S3 => (Nr ?_))
 refine Pv ?_
 refine Cs g_aumbry_aumbryref07_row ((rowR_ok S3.le hv (by omega)).mono ?_)
 rintro e w9 ⟨a4, c5, hc6, rfl, ho7, hB8⟩
 have S10 := S3.own hB8 ho7
 refine ⟨_, rfl, trivial, ?_⟩
 refine Pv (T_nil (W_seq (W_block ?_)))
 obtain ⟨G12, hl13, S11, r14⟩ := S10.stillRow 0 rfl
 have r15 := RdH.mk (rowP_all hv.1) (by decide) r14
 refine W_loop (fun M ρ w' => ∃ (k : Nat) (a18 : Option Addr) (nn19 c20 : Nat) (G16 : Hp), M = lg l.length - k ∧ k ≤ lg l.length ∧ ρ = [(2, .pointer (some ⟨b1, 0, none⟩)), (3, .slice a18 nn19 c20)] ∧ G12.le G16 ∧ St w H G16 [.blk b1 (hV (List.replicate 32 0) : Value).cells 37] w' ∧ RdH G16 (.slice a18 nn19 c20) 32 (ups (rowP l) k))
  (lg l.length - 0) [(2, .pointer (some ⟨b1, 0, none⟩)), (3, .slice a4 (l.length + (padN l.length - l.length)) c5)] ⟨rfl, rfl, trivial⟩ ⟨0, _, _, _, G12, rfl, (by exact Nat.zero_le _), rfl, Hp.le.refl _, S11, r15⟩ ?_
 rintro M ρ w22 ⟨k, a18, nn19, c20, G16, rfl, hp24, rfl, hl17, S23, hf21⟩
 obtain rfl : nn19 = (ups (rowP l) k).length := hf21.len
 have hub := ups_bd (k := k) hb (by assumption)
 refine W_seq (Wr (P3 (T_nil ?_)))
 refine Aa (fun h25 => ?_) (fun h25 => ?_)
 ·refine W_skip (W_block (W_region ?_))
  have hkm := ups_more (rowP_len l) (show k ≤ lg l.length by assumption) (by omega)
  refine Pv ?_
  refine Cs g_aumbry_aumbryref07_up ((upR_ok S23.le hf21 (by omega)).mono ?_)
  rintro e w31 ⟨a26, c27, hc28, rfl, ho29, hB30⟩
  have S32 := S23.own hB30 ho29
  refine ⟨_, rfl, trivial, ?_⟩
  refine Pv (T_nil ?_)
  obtain ⟨G34, hl35, S33, r36⟩ := S32.stillRow 0 rfl
  have r37 := RdH.mk (upTo_all _ _) (by decide) r36
  exact ⟨lg l.length - (k + 1), [(2, .pointer (some ⟨b1, 0, none⟩)), (3, .slice a26 ((ups (rowP l) k).length / 2) c27)], by omega, ⟨rfl, rfl, trivial⟩, k + 1, _, _, _, G34, rfl, (by omega), rfl, (hl17.trans hl35), S33, r37⟩
 refine W_exit (Wr ?_)
 have hkd := ups_done (rowP_len l) (show k ≤ lg l.length by assumption) (by omega)
 refine Pv ?_
 refine Af 0 hf21.2 fun b38 o39 hc40 => ?_
 have hc41 := cells_h hf21.1 0 (by omega) hc40
 have hl42 := len_h hf21.1 0 (by omega)
 refine T_loadGA _ S23 hc41 rfl rfl rfl rfl rfl rfl rfl rfl (hVs hl42) (T_re (v' := hV (Go.Au.root l)) (congrArg (fun q => hV ((ups (rowP l) q).getD 0 [])) hkd) (Ag (hl := by exact hVs (root_len hv.1)) (hl2 := by exact hVs (root_len hv.1)) (h1 := by exact one_hA _) 0 S23 fun w43 S44 => (T_nil (W_ret ?_))))
 refine ⟨_, ⟨_, _, _, rfl, rfl, run_loadVarA rfl rfl (hVs (root_len hv.1)) (S44.cells 0 rfl), rfl⟩, ?_⟩
 exact ⟨rfl, S44.below⟩


theorem rows_ok {H : Hp} {w : World} (hH : H.le (hw w)) (hT : Tabs H) {l : List (List UInt8)} {aa0 : Option Addr} {nn0 cc0 : Nat} (hv : RdH H (.slice aa0 nn0 cc0) 32 l) (hb : l.length ≤ 1024) :
  Calls Tryz.prog 66 #[.slice aa0 nn0 cc0] w fun e w' => ∃ a c, lg l.length + 1 ≤ c ∧ e = .returned (.slice a (lg l.length + 1) c) ∧ RdLH (F.ext H w.heap.size w') (.slice a (lg l.length + 1) c) (levels (rowP l) (lg l.length + 1)) ∧ Below w.heap.size w w' := by
 obtain rfl : nn0 = l.length := hv.len
 have hvcap : l.length ≤ cc0 := hv.2.capOf
 have hpb := padN_lt l.length 17 (by omega)
 have hpl := padN_le l.length
 have htp : (Go.Au.text [112, 97, 100] []).length < 10000 := by decide
 refine enter1 _ Tryz.func66 rfl Tryz.ntmps66 Tryz.results66 rfl ?_
 have S0 := St.start w hH
 refine Wr (Pv (Nr ?_))
 refine Pv ?_
 have S1 := S0.nilRow 37 32
 refine Ae (h1 := by exact one_hcells _) (hn' := by first | rfl | (simp; done) | (simp; omega) | omega) (hx' := by simp [hcells_append, hcells]) (hbytes := by show _ * 32 ≤ _; omega) 0 l.length (hcells l) S1 (hv.2.mono S1.le) fun a2 c3 w4 hc5 S6 => ?_
 refine Pv (T_nil (W_seq (Wr ?_)))
 refine Cs g_aumbry_sha_Tagged ((tagged_ok S6.le hT (nilS _) (by omega)).mono ?_)
 rintro e w8 ⟨rfl, hB7⟩
 have S9 := S6.call hB7
 refine ⟨_, rfl, trivial, ?_⟩
 refine T_re (v' := hV padH) rfl (Ac S9 fun b10 w11 S12 => ?_)
 refine Ag (hl := by exact hVs padH_len) (hl2 := by exact hVs padH_len) (h1 := by exact one_hA _) 0 S12 fun w13 S14 => (T_nil (W_block ?_))
 refine W_loop (fun M ρ w' => ∃ (j : Nat) (a17 : Option Addr) (c18 : Nat) (b21 : Nat) (G15 : Hp), M = padN l.length - j ∧ l.length + j ≤ padN l.length ∧ ρ = [(0, .slice aa0 l.length cc0), (3, .slice a17 (l.length + j) c18), (4, .pointer (some ⟨b21, 0, none⟩))] ∧ H.le G15 ∧ St w H G15 [.blk b21 (hV padH : Value).cells 37, .row 37 32 (.slice a17 (l.length + j) c18) (l.length + j) (hcells (padTo l j))] w' ∧ (∀ y ∈ padTo l j, y.length = 32) ∧ (l.length + j) ≤ c18)
  (padN l.length - 0) [(0, .slice aa0 l.length cc0), (3, .slice a2 l.length c3), (4, .pointer (some ⟨b10, 0, none⟩))] ⟨rfl, rfl, rfl, trivial⟩ ⟨0, a2, c3, b10, H, rfl, (by omega), rfl, Hp.le.refl _, S14, hv.1, hc5⟩ ?_
 rintro M ρ w22 ⟨j, a17, c18, b21, G15, rfl, hp24, rfl, hl16, S23, hh20, hc19⟩
 refine W_seq (Wr ?_)
 iterate 4 refine Pv ?_
 refine Cs g_aumbry_tree_Pad ((pad_ok S23.le ((l.length : Nat) : Int) (by omega)).mono ?_)
 rintro e w26 ⟨rfl, hB25⟩
 have S27 := S23.call hB25
 refine ⟨_, rfl, trivial, ?_⟩
 refine T_re (v' := .int .i64 ((padN l.length : Nat) : Int)) (by rw [Int.toNat_natCast]) ?_
 refine Pv (T_nil ?_)
 refine Aa (fun h28 => ?_) (fun h28 => ?_)
 ·refine W_skip (W_seq (W_block (W_region (Pv ?_))))
  refine Ai (hl := by exact hVs padH_len) 0 S27 ?_
  refine T_litS (hcells [padH]) rfl rfl rfl rfl rfl rfl rfl rfl rfl rfl rfl rfl rfl (one_h padH_len) (by simp [hcells, hV, Value.cells]) fun a29 w30 hB31 ho32 => ?_
  have S33 := S27.own hB31 ho32
  refine ⟨trivial, ?_⟩
  have hD34 : (padTo l j ++ [padH]) = padTo l (j + 1) := rfl
  refine Ae (h1 := by exact one_hcells _) (hn' := by first | rfl | (simp; done) | (simp; omega) | omega) (hx' := by rw [← hD34]; simp [hcells_append, hcells]) (hbytes := by show _ * 32 ≤ _; omega) 2 (l.length + (j + 1)) (hcells (padTo l (j + 1))) S33 (S33.rd 0 rfl) fun a35 c36 w37 hc38 S39 => ?_
  have hh40 : ∀ y ∈ padTo l (j + 1), y.length = 32 := by rw [← hD34]; exact (all_app hh20 (all_h1 padH_len))
  refine Pv (Nr ?_)
  refine Ai (hl := by exact hVs padH_len) 1 S39 (T_nil (W_region ?_))
  refine Ac S39 fun b41 w42 S43 => ?_
  refine Ag (hl := by exact hVs padH_len) (hl2 := by exact hVs padH_len) (h1 := by exact one_hA _) 0 S43 fun w44 S45 => (T_nil ?_)
  have S46 := S45.drop 2
  have S47 := S46.drop 1
  exact ⟨padN l.length - (j + 1), [(0, .slice aa0 l.length cc0), (3, .slice a35 (l.length + (j + 1)) c36), (4, .pointer (some ⟨b41, 0, none⟩))], by omega, ⟨rfl, rfl, rfl, trivial⟩, j + 1, a35, c36, b41, G15, rfl, (by omega), rfl, hl16, S47, hh40, hc38⟩
 refine W_exit (Wr ?_)
 obtain rfl : j = (padN l.length - l.length) := by omega
 refine Pv ?_
 obtain ⟨G53, hl54, S52, r55⟩ := S27.stillRow 1 rfl
 have r56 := RdH.mk hh20 (by decide) r55
 have rs57 : RdsH G53 [.slice a17 (l.length + (padN l.length - l.length)) c18] [padTo l (padN l.length - l.length)] := RdsH.cons r56 (RdsH.nil _)
 refine Ad (hone := by simp [Value.cells]; rfl) [.slice a17 (l.length + (padN l.length - l.length)) c18] fun a48 w49 hB50 ho51 => ?_
 have S58 := S52.own hB50 ho51
 refine ⟨trivial, ?_⟩
 refine Pv (T_nil (W_seq (W_block ?_)))
 refine W_loop (fun M ρ w' => ∃ (k : Nat) (a61 : Option Addr) (nn62 c63 : Nat) (a65 : Option Addr) (c66 : Nat) (hs68 : List Value) (G59 : Hp), M = lg l.length - k ∧ k ≤ lg l.length ∧ ρ = [(3, .slice a61 nn62 c63), (5, .slice a65 (k + 1) c66)] ∧ G53.le G59 ∧ St w H G59 [.row 29 1 (.slice a65 (k + 1) c66) (k + 1) hs68, .blk b21 (hV padH : Value).cells 37] w' ∧ RdH G59 (.slice a61 nn62 c63) 32 (ups (rowP l) k) ∧ RdsH G59 hs68 (levels (rowP l) (k + 1)) ∧ (k + 1) ≤ c66)
  (lg l.length - 0) [(3, .slice a17 (l.length + (padN l.length - l.length)) c18), (5, .slice a48 1 1)] ⟨rfl, rfl, trivial⟩ ⟨0, _, _, _, a48, 1, _, G53, rfl, (by exact Nat.zero_le _), rfl, Hp.le.refl _, S58, r56, rs57, (Nat.le_refl _)⟩ ?_
 rintro M ρ w70 ⟨k, a61, nn62, c63, a65, c66, hs68, G59, rfl, hp72, rfl, hl60, S71, hf64, rs69, hc67⟩
 obtain rfl : nn62 = (ups (rowP l) k).length := hf64.len
 have hub := ups_bd (k := k) hb (by assumption)
 refine W_seq (Wr (P3 (T_nil ?_)))
 refine Aa (fun h73 => ?_) (fun h73 => ?_)
 ·refine W_skip (W_block (Wr (Pv (T_nil (W_seq (Wr ?_))))))
  refine Pv (T_nil (W_block ?_))
  have hkm := ups_more (rowP_len l) (show k ≤ lg l.length by assumption) (by omega)
  have hev := ups_even (rowP_len l) hkm
  have S74 := S71.nilRow 37 32
  refine W_loop (fun M ρ w' => ∃ (m : Nat) (a77 : Option Addr) (c78 : Nat) (hs80 : List Value) (a82 : Option Addr) (c83 : Nat) (G75 : Hp), M = (ups (rowP l) k).length - m ∧ 2 * m ≤ (ups (rowP l) k).length ∧ ρ = [(3, .slice a61 (ups (rowP l) k).length c63), (5, .slice a77 (k + 1) c78), (6, .slice a82 m c83), (7, .int .i64 ((2 * m : Nat) : Int))] ∧ G59.le G75 ∧ St w H G75 [.row 37 32 (.slice a82 m c83) m (hcells (upTo (ups (rowP l) k) m)), .row 29 1 (.slice a77 (k + 1) c78) (k + 1) hs80, .blk b21 (hV padH : Value).cells 37] w' ∧ RdsH G75 hs80 (levels (rowP l) (k + 1)) ∧ (k + 1) ≤ c78 ∧ (∀ y ∈ upTo (ups (rowP l) k) m, y.length = 32) ∧ m ≤ c83)
   ((ups (rowP l) k).length - 0) [(3, .slice a61 (ups (rowP l) k).length c63), (5, .slice a65 (k + 1) c66), (6, .slice none 0 0), (7, .int .i64 (0 : Int))] ⟨rfl, rfl, rfl, ciI, trivial⟩ ⟨0, a65, c66, _, none, 0, G59, rfl, (by omega), rfl, Hp.le.refl _, S74, rs69, hc67, (fun _ h => by cases h), (Nat.le_refl _)⟩ ?_
  rintro M ρ w86 ⟨m, a77, c78, hs80, a82, c83, G75, rfl, hp88, rfl, hl76, S87, rs81, hc79, hh85, hc84⟩
  refine W_seq (Wr ?_)
  iterate 4 refine Pv ?_
  refine T_nil (Aa (fun h89 => ?_) (fun h89 => ?_))
  ·refine W_skip (W_seq (W_block (W_draw rfl (by kernel_rfl) ?_)))
   have S90 := S87.drew
   refine P3 ?_
   refine Af (2 * m) (hf64.mono hl76).2 fun b91 o92 hc93 => ?_
   have hc94 := cells_h (hf64.mono hl76).1 (2 * m) (by omega) hc93
   have hl95 := len_h (hf64.mono hl76).1 (2 * m) (by omega)
   refine T_loadGA _ S90 hc94 rfl rfl rfl rfl rfl rfl rfl rfl (hVs hl95) (P2 ?_)
   refine Ar ?_
   refine Af ((2 * m) + 1) (hf64.mono hl76).2 fun b96 o97 hc98 => ?_
   have hc99 := cells_h (hf64.mono hl76).1 ((2 * m) + 1) (by omega) hc98
   have hl100 := len_h (hf64.mono hl76).1 ((2 * m) + 1) (by omega)
   refine T_loadGA _ S90 hc99 rfl rfl rfl rfl rfl rfl rfl rfl (hVs hl100) (Cs g_aumbry_tree_Node ((node_ok S90.le (hT.mono (hl16.trans (hl54.trans (hl60.trans hl76)))) hl95 hl100).mono ?_))
   rintro e w102 ⟨rfl, hB101⟩
   have S103 := S90.call hB101
   refine ⟨_, rfl, trivial, ?_⟩
   refine T_litS (hcells [Go.Au.node ((ups (rowP l) k).getD (2 * m) []) ((ups (rowP l) k).getD ((2 * m) + 1) [])]) rfl rfl rfl rfl rfl rfl rfl rfl rfl rfl rfl rfl rfl (one_h (node_len _ _)) (by simp [hcells, hV, Value.cells]) fun a104 w105 hB106 ho107 => ?_
   have S108 := S103.own hB106 ho107
   refine ⟨trivial, ?_⟩
   have hD109 : (upTo (ups (rowP l) k) m ++ [Go.Au.node ((ups (rowP l) k).getD (2 * m) []) ((ups (rowP l) k).getD ((2 * m) + 1) [])]) = upTo (ups (rowP l) k) (m + 1) := (upTo_snoc _ _)
   refine Ae (h1 := by exact one_hcells _) (hn' := by first | rfl | (simp; done) | (simp; omega) | omega) (hx' := by rw [← hD109]; simp [hcells_append, hcells]) (hbytes := by show _ * 32 ≤ _; omega) 1 (m + 1) (hcells (upTo (ups (rowP l) k) (m + 1))) S108 (S108.rd 0 rfl) fun a110 c111 w112 hc113 S114 => ?_
   have hh115 : ∀ y ∈ upTo (ups (rowP l) k) (m + 1), y.length = 32 := by rw [← hD109]; exact (all_app hh85 (all_h1 (node_len _ _)))
   refine Pv (T_nil (W_region ?_))
   refine Pv ?_
   refine Ar ?_
   refine Pv (T_nil ?_)
   have S116 := S114.drop 0
   exact ⟨(ups (rowP l) k).length - (m + 1), [(3, .slice a61 (ups (rowP l) k).length c63), (5, .slice a77 (k + 1) c78), (6, .slice a110 (m + 1) c111), (7, .int .i64 ((2 * (m + 1) : Nat) : Int))], by omega, ⟨rfl, rfl, rfl, ciI, trivial⟩, m + 1, a77, c78, _, a110, c111, G75, rfl, (by omega), rfl, hl76, S116, rs81, hc79, hh115, hc113⟩
  refine W_exit (Wr ?_)
  obtain rfl : m = (ups (rowP l) k).length / 2 := by omega
  refine P2 (T_nil (W_region ?_))
  refine P2 ?_
  obtain ⟨G122, hl123, S121, r124⟩ := S87.stillRow 0 rfl
  have r125 := RdH.mk hh85 (by decide) r124
  have rs126 : RdsH G122 [.slice a82 ((ups (rowP l) k).length / 2) c83] [upTo (ups (rowP l) k) ((ups (rowP l) k).length / 2)] := RdsH.cons r125 (RdsH.nil _)
  refine Ad (hone := by simp [Value.cells]; rfl) [.slice a82 ((ups (rowP l) k).length / 2) c83] fun a117 w118 hB119 ho120 => ?_
  have S127 := S121.own hB119 ho120
  refine ⟨trivial, ?_⟩
  have hD128 : (levels (rowP l) (k + 1) ++ [upTo (ups (rowP l) k) ((ups (rowP l) k).length / 2)]) = levels (rowP l) (k + 1 + 1) := (levels_snoc (rowP l) (k + 1))
  refine T_appendS 1 (k + 1 + 1) _ S127 (fun _ _ => trivial) rfl rfl rfl rfl rfl rfl rfl rfl rfl rfl rfl rfl rfl rfl (S127.rd 0 rfl) rs126.one (by first | rfl | (simp; done) | (simp; omega) | omega) rfl (by unfold maxLen; have hlg := lg_le (n := l.length) (m := 10) (by omega); omega) (by show _ * 24 ≤ _; have hlg := lg_le (n := l.length) (m := 10) (by omega); omega) fun a129 c130 w131 hc132 S133 => ?_
  have rs134 := RdsH.append (rs81.mono hl123) rs126
  rw [hD128] at rs134
  refine Pv (T_nil ?_)
  have S135 := S133.drop 0
  exact ⟨lg l.length - (k + 1), [(3, .slice a82 ((ups (rowP l) k).length / 2) c83), (5, .slice a129 (k + 1 + 1) c130)], by omega, ⟨rfl, rfl, trivial⟩, k + 1, _, _, _, a129, c130, _, G122, rfl, (by omega), rfl, (hl60.trans (hl76.trans hl123)), S135, r125, rs134, hc132⟩
 refine W_exit (Wr ?_)
 obtain rfl : k = lg l.length := ups_done (rowP_len l) (by assumption) (by omega)
 obtain ⟨G137, hl138, S136, r139⟩ := S71.stillRow 0 rfl
 have r140 := RdLH.mk r139 (rs69.mono hl138)
 refine P2 (T_nil (W_ret ?_))
 refine ⟨_, ⟨_, _, rfl, rfl, rfl⟩, ?_⟩
 exact ⟨_, _, hc67, rfl, (r140).mono S136.fin, S136.below⟩


theorem root_ok {H : Hp} {w : World} (hH : H.le (hw w)) (hT : Tabs H) {l : List (List UInt8)} {aa0 : Option Addr} {nn0 cc0 : Nat} (hv : RdH H (.slice aa0 nn0 cc0) 32 l) (hb : l.length ≤ 1024) :
  Calls Tryz.prog 28 #[.slice aa0 nn0 cc0] w fun e w' => e = .returned (hV (Go.Au.root l)) ∧ Below w.heap.size w w' := by
 obtain rfl : nn0 = l.length := hv.len
 have hvcap : l.length ≤ cc0 := hv.2.capOf
 have hlg := lg_le (n := l.length) (m := 10) (by omega)
 have hla := levels_at (rowP l) (lg l.length)
 have hub := ups_bd (k := lg l.length) hb (Nat.le_refl _)
 have hll := levels_len (rowP l) (lg l.length + 1)
 have hz : 0 < ((levels (rowP l) (lg l.length + 1)).getD (lg l.length) []).length := by rw [hla]; exact hub.2
 refine enter1 _ Tryz.func28 rfl Tryz.ntmps28 Tryz.results28 rfl ?_
 have S0 := St.start w hH
 refine Wr (Ac S0 fun b1 w2 S3 => (Nr ?_))
 refine Pv ?_
 refine Cs g_aumbry_tree_rows ((rows_ok S3.le hT hv (by omega)).mono ?_)
 rintro e w9 ⟨a4, c5, hc6, rfl, hr7, hB8⟩
 obtain ⟨G11, eG13⟩ : ∃ G, G = F.ext H w2.heap.size w9 := ⟨_, rfl⟩
 obtain ⟨hl12, S10⟩ := S3.ext hB8
 rw [← eG13] at hl12 S10 hr7
 refine ⟨_, rfl, trivial, ?_⟩
 refine Pv (Nr ?_)
 refine P3 ?_
 refine Ar ?_
 obtain ⟨hs17, r18, r19⟩ := (id hr7)
 refine Af (lg l.length) r18 fun b14 o15 hc16 => ?_
 obtain ⟨a22, c23, hc25, hv21, r24⟩ := r19.at (lg l.length) (by omega)
 have hc26 := hc16 0 (.slice a22 ((levels (rowP l) (lg l.length + 1)).getD (lg l.length) []).length c23) (by simpa using hv21)
 simp only [Nat.add_zero] at hc26
 refine Ab (r := by exact hc26) S10 ?_
 refine Af 0 r24.2 fun b27 o28 hc29 => ?_
 have hc30 := cells_h r24.1 0 (by omega) hc29
 have hl31 := len_h r24.1 0 (by omega)
 refine T_loadGA _ S10 hc30 rfl rfl rfl rfl rfl rfl rfl rfl (hVs hl31) (T_re (v' := hV (Go.Au.root l)) (congrArg (fun q : List (List UInt8) => hV (q.getD 0 [])) hla) (Ag (hl := by exact hVs (root_len hv.1)) (hl2 := by exact hVs (root_len hv.1)) (h1 := by exact one_hA _) 0 S10 fun w32 S33 => (T_nil (W_ret ?_))))
 refine ⟨_, ⟨_, _, _, rfl, rfl, run_loadVarA rfl rfl (hVs (root_len hv.1)) (S33.cells 0 rfl), rfl⟩, ?_⟩
 exact ⟨rfl, S33.below⟩

end Go.Proofs.YtfcejolipdcoaaaGreatDoor
namespace Go.Proofs.YtfcejolipdcoaaaGreatDoor
open Go Go.F Go.RowKit
open Go.Au hiding beside

theorem half_int (i k : Nat) : ((i / 2 ^ k : Nat) : Int) / ((2 : Int)) = ((i / 2 ^ (k + 1) : Nat) : Int) := by rw [← half_succ]; omega
theorem xor1 {n : Nat} (h : n < 1024) : bits .xor .i64 ((n : Nat) : Int) 1 = ((sib n : Nat) : Int) := by
 have key : ∀ q : Fin 1024, bits .xor .i64 (q.val : Int) 1 = ((sib q.val : Nat) : Int) := by decide +kernel
 exact key ⟨n, h⟩
theorem cut_levels (r : List (List UInt8)) {n k : Nat} (h : k < n) : (((levels r (n + 1)).drop 0).take (n - 0)).getD k [] = ups r k := by
 rw [List.getD_eq_getElem?_getD, List.getElem?_take, if_pos (by omega), List.getElem?_drop, levels, List.getElem?_map, List.getElem?_range (by omega), Nat.zero_add]; rfl
theorem proof_ok {H : Hp} {w : World} (hH : H.le (hw w)) (hT : Tabs H) (i : Int) {l : List (List UInt8)} {aa1 : Option Addr} {nn1 cc1 : Nat} (hv : RdH H (.slice aa1 nn1 cc1) 32 l) (hb : l.length ≤ 1024) (hi : 0 ≤ i ∧ i < l.length) :
  Calls Tryz.prog 29 #[.int .i64 i, .slice aa1 nn1 cc1] w fun e w' => ∃ a c, (lg l.length) ≤ c ∧ e = .returned (.tuple #[.slice a (lg l.length) c, .int .i64 0]) ∧ rowZ w' w.heap.size 37 32 (.slice a (lg l.length) c) (lg l.length) (hcells (Go.Au.beside (rowP l) i.toNat (lg l.length))) ∧ Below w.heap.size w w' := by
 obtain rfl : nn1 = l.length := hv.len
 have hvcap : l.length ≤ cc1 := hv.2.capOf
 have hlg := lg_le (n := l.length) (m := 10) (by omega)
 have hpl := padN_le l.length
 have hll := levels_len (rowP l) (lg l.length + 1)
 refine enter2 _ Tryz.func29 rfl Tryz.ntmps29 Tryz.results29 rfl ?_
 have S0 := St.start w hH
 refine Wr (P2 (T_nil (W_seq (Wr ?_))))
 refine P3 ?_
 refine T_bool 12 false rfl (decide_eq_false (by omega)) ?_
 iterate 4 (refine Ys ?_; refine Pv ?_)
 refine Pv (T_nil ?_)
 refine W_bool 17 false rfl (decide_eq_false (by omega)) ?_
 refine W_cond_false rfl (W_skip (Wr (Pv ?_)))
 refine Cs g_aumbry_tree_rows ((rows_ok S0.le hT hv (by omega)).mono ?_)
 rintro e w6 ⟨a1, c2, hc3, rfl, hr4, hB5⟩
 obtain ⟨G8, eG10⟩ : ∃ G, G = F.ext H w.heap.size w6 := ⟨_, rfl⟩
 obtain ⟨hl9, S7⟩ := S0.ext hB5
 rw [← eG10] at hl9 S7 hr4
 refine ⟨_, rfl, trivial, ?_⟩
 refine Pv (Nr ?_)
 refine Pv (T_nil (W_seq (Wr ?_)))
 refine P3 ?_
 refine Ar ?_
 obtain ⟨hs15, r16, r17⟩ := (id hr4)
 refine T_sliceR 0 (lg l.length) r16 rfl rfl rfl rfl rfl rfl rfl rfl rfl rfl (bound_of (by omega)) rfl (by omega) (by omega) fun a11 c12 hc13 r14 => ?_
 have r18 := RdLH.mk r14 (r17.cut 0 ((lg l.length) - 0))
 refine P2 (T_nil (W_block ?_))
 have S19 := S7.nilRow 37 32
 refine W_loop (fun M ρ w' => ∃ (k : Nat) (a22 : Option Addr) (c23 : Nat) (G20 : Hp), M = lg l.length - k ∧ k ≤ lg l.length ∧ ρ = [(0, .int .i64 ((i.toNat / 2 ^ k : Nat) : Int)), (7, .slice a22 k c23), (24, .slice a11 ((lg l.length) - 0) c12), (25, .int .i64 ((((lg l.length) - 0) : Nat) : Int)), (26, .int .i64 (k : Int))] ∧ G8.le G20 ∧ St w H G20 [.row 37 32 (.slice a22 k c23) k (hcells (Go.Au.beside (rowP l) i.toNat k))] w' ∧ (∀ y ∈ Go.Au.beside (rowP l) i.toNat k, y.length = 32) ∧ k ≤ c23)
  (lg l.length - 0) [(0, .int .i64 ((i.toNat / 2 ^ 0 : Nat) : Int)), (7, .slice none 0 0), (24, .slice a11 ((lg l.length) - 0) c12), (25, .int .i64 ((((lg l.length) - 0) : Nat) : Int)), (26, .int .i64 ((0 : Nat) : Int))] ⟨ciI, rfl, rfl, ciI, ciI, trivial⟩ ⟨0, none, 0, G8, rfl, (by exact Nat.zero_le _), rfl, Hp.le.refl _, S19, (fun _ h => by cases h), (Nat.le_refl _)⟩ ?_
 rintro M ρ w26 ⟨k, a22, c23, G20, rfl, hp28, rfl, hl21, S27, hh25, hc24⟩
 refine Wr (Pv (T_nil (W_seq ?_)))
 refine Aa (fun h29 => ?_) (fun h29 => ?_)
 ·refine W_skip (W_seq (W_block (Wr ?_)))
  have hub := ups_bd (k := k) hb (by omega)
  have hul := ups_len (rowP_len l) k (by omega)
  have hhl := half_lt (k := k) (m := lg l.length) (i := i.toNat) (by have := lg_up l.length; omega) (by omega)
  have hnn := Int.natCast_nonneg (i.toNat / 2 ^ k)
  have hev := ups_even (rowP_len l) (show k < lg l.length by omega)
  have hsl := sib_lt hev (i := i.toNat / 2 ^ k) (by omega)
  have hla := cut_levels (rowP l) (n := lg l.length) (show k < lg l.length by omega)
  have hcl : (((levels (rowP l) (lg l.length + 1)).drop 0).take (lg l.length - 0)).length = lg l.length := by rw [List.length_take, List.length_drop, hll]; omega
  have hlb : ((((levels (rowP l) (lg l.length + 1)).drop 0).take (lg l.length - 0)).getD k []).length = (ups (rowP l) k).length := by rw [hla]
  obtain ⟨hs33, r34, r35⟩ := (r18.mono hl21)
  refine Af k r34 fun b30 o31 hc32 => ?_
  obtain ⟨a38, c39, hc41, hv37, r40⟩ := r35.at k (by omega)
  have hc42 := hc32 0 (.slice a38 ((((levels (rowP l) (lg l.length + 1)).drop 0).take ((lg l.length) - 0)).getD k []).length c39) (by simpa using hv37)
  simp only [Nat.add_zero] at hc42
  refine Ab (r := by exact hc42) S27 ?_
  refine Pv (Nr ?_)
  iterate 4 refine Pv ?_
  refine T_re (v' := .int .i64 ((sib (i.toNat / 2 ^ k) : Nat) : Int)) (congrArg (Value.int .i64) (xor1 (by omega))) ?_
  refine Af (sib (i.toNat / 2 ^ k)) r40.2 fun b43 o44 hc45 => ?_
  have hc46 := cells_h r40.1 (sib (i.toNat / 2 ^ k)) (by omega) hc45
  have hl47 := len_h r40.1 (sib (i.toNat / 2 ^ k)) (by omega)
  refine T_loadGA _ S27 hc46 rfl rfl rfl rfl rfl rfl rfl rfl (hVs hl47) (T_litS (hcells [((((levels (rowP l) (lg l.length + 1)).drop 0).take ((lg l.length) - 0)).getD k []).getD (sib (i.toNat / 2 ^ k)) []]) rfl rfl rfl rfl rfl rfl rfl rfl rfl rfl rfl rfl rfl (one_h hl47) (by simp [hcells, hV, Value.cells]) fun a48 w49 hB50 ho51 => ?_)
  have S52 := S27.own hB50 ho51
  refine ⟨trivial, ?_⟩
  have hD53 : (Go.Au.beside (rowP l) i.toNat k ++ [((((levels (rowP l) (lg l.length + 1)).drop 0).take ((lg l.length) - 0)).getD k []).getD (sib (i.toNat / 2 ^ k)) []]) = Go.Au.beside (rowP l) i.toNat (k + 1) := (by rw [hla]; exact beside_snoc _ _ _)
  refine Ae (h1 := by exact one_hcells _) (hn' := by first | rfl | (simp; done) | (simp; omega) | omega) (hx' := by rw [← hD53]; simp [hcells_append, hcells]) (hbytes := by show _ * 32 ≤ _; omega) 1 (k + 1) (hcells (Go.Au.beside (rowP l) i.toNat (k + 1))) S52 (S52.rd 0 rfl) fun a54 c55 w56 hc57 S58 => ?_
  have hh59 : ∀ y ∈ Go.Au.beside (rowP l) i.toNat (k + 1), y.length = 32 := by rw [← hD53]; exact (all_app hh25 (all_h1 hl47))
  refine Pv (T_nil (W_region ?_))
  refine Pv ?_
  refine T_quo rfl rfl rfl rfl rfl rfl (by omega) ?_
  refine T_re (v' := .int .i64 ((i.toNat / 2 ^ (k + 1) : Nat) : Int)) (congrArg (Value.int .i64) (half_int _ _)) (Pv (T_nil (W_region ?_)))
  refine Ar ?_
  refine Pv (T_nil ?_)
  have S60 := S58.drop 0
  exact ⟨lg l.length - (k + 1), [(0, .int .i64 ((i.toNat / 2 ^ (k + 1) : Nat) : Int)), (7, .slice a54 (k + 1) c55), (24, .slice a11 ((lg l.length) - 0) c12), (25, .int .i64 ((((lg l.length) - 0) : Nat) : Int)), (26, .int .i64 ((k + 1 : Nat) : Int))], by omega, ⟨ciI, rfl, rfl, ciI, ciI, trivial⟩, k + 1, a54, c55, G20, rfl, (by omega), rfl, hl21, S60, hh59, hc57⟩
 refine W_exit (Wr (P3 (T_nil (W_ret ?_))))
 refine ⟨_, ⟨_, _, rfl, rfl, ⟨_, _, rfl, rfl, rfl⟩⟩, ?_⟩
 obtain rfl : k = lg l.length := by omega
 exact ⟨_, _, hc24, rfl, S27.row 0 rfl, S27.below⟩


theorem proofR_ok {H : Hp} {w : World} (hH : H.le (hw w)) (i : Int) {l : List (List UInt8)} {aa1 : Option Addr} {nn1 cc1 : Nat} (hv : RdH H (.slice aa1 nn1 cc1) 32 l) (hb : l.length ≤ 1024) (hi : 0 ≤ i ∧ i < l.length) :
  Calls Tryz.prog 18 #[.int .i64 i, .slice aa1 nn1 cc1] w fun e w' => ∃ a c, (lg l.length) ≤ c ∧ e = .returned (.slice a (lg l.length) c) ∧ rowZ w' w.heap.size 37 32 (.slice a (lg l.length) c) (lg l.length) (hcells (Go.Au.beside (rowP l) i.toNat (lg l.length))) ∧ Below w.heap.size w w' := by
 obtain rfl : nn1 = l.length := hv.len
 have hvcap : l.length ≤ cc1 := hv.2.capOf
 have hlg := lg_le (n := l.length) (m := 10) (by omega)
 have hpl := padN_le l.length
 have hll := levels_len (rowP l) (lg l.length + 1)
 refine enter2 _ Tryz.func18 rfl Tryz.ntmps18 Tryz.results18 rfl ?_
 have S0 := St.start w hH
 refine Wr (Pv (Nr ?_))
 refine Pv (T_nil (W_seq (Wr ?_)))
 refine Pv ?_
 refine Cs g_aumbry_aumbryref07_row ((rowR_ok S0.le hv (by omega)).mono ?_)
 rintro e w6 ⟨a1, c2, hc3, rfl, ho4, hB5⟩
 have S7 := S0.own hB5 ho4
 refine ⟨_, rfl, trivial, ?_⟩
 refine Pv (T_nil (W_block ?_))
 obtain ⟨G9, hl10, S8, r11⟩ := S7.stillRow 0 rfl
 have r12 := RdH.mk (rowP_all hv.1) (by decide) r11
 have S13 := S8.nilRow 37 32
 refine W_loop (fun M ρ w' => ∃ (k : Nat) (a16 : Option Addr) (c17 : Nat) (a20 : Option Addr) (nn21 c22 : Nat) (G14 : Hp), M = lg l.length - k ∧ k ≤ lg l.length ∧ ρ = [(0, .int .i64 ((i.toNat / 2 ^ k : Nat) : Int)), (5, .slice a16 k c17), (6, .slice a20 nn21 c22)] ∧ G9.le G14 ∧ St w H G14 [.row 37 32 (.slice a16 k c17) k (hcells (Go.Au.beside (rowP l) i.toNat k))] w' ∧ (∀ y ∈ Go.Au.beside (rowP l) i.toNat k, y.length = 32) ∧ k ≤ c17 ∧ RdH G14 (.slice a20 nn21 c22) 32 (ups (rowP l) k))
  (lg l.length - 0) [(0, .int .i64 ((i.toNat / 2 ^ 0 : Nat) : Int)), (5, .slice none 0 0), (6, .slice a1 (l.length + (padN l.length - l.length)) c2)] ⟨ciI, rfl, rfl, trivial⟩ ⟨0, none, 0, _, _, _, G9, rfl, (by exact Nat.zero_le _), rfl, Hp.le.refl _, S13, (fun _ h => by cases h), (Nat.le_refl _), r12⟩ ?_
 rintro M ρ w24 ⟨k, a16, c17, a20, nn21, c22, G14, rfl, hp26, rfl, hl15, S25, hh19, hc18, hf23⟩
 obtain rfl : nn21 = (ups (rowP l) k).length := hf23.len
 have hub := ups_bd (k := k) hb (by assumption)
 refine W_seq (Wr (P3 (T_nil ?_)))
 refine Aa (fun h27 => ?_) (fun h27 => ?_)
 ·refine W_skip (W_seq (W_block (Wr ?_)))
  have hkm := ups_more (rowP_len l) (show k ≤ lg l.length by assumption) (by omega)
  have hul := ups_len (rowP_len l) k (by omega)
  have hhl := half_lt (k := k) (m := lg l.length) (i := i.toNat) (by have := lg_up l.length; omega) (by omega)
  have hnn := Int.natCast_nonneg (i.toNat / 2 ^ k)
  have hev := ups_even (rowP_len l) (show k < lg l.length by omega)
  have hsl := sib_lt hev (i := i.toNat / 2 ^ k) (by omega)
  iterate 4 refine Pv ?_
  refine T_re (v' := .int .i64 ((sib (i.toNat / 2 ^ k) : Nat) : Int)) (congrArg (Value.int .i64) (xor1 (by omega))) ?_
  refine Af (sib (i.toNat / 2 ^ k)) hf23.2 fun b28 o29 hc30 => ?_
  have hc31 := cells_h hf23.1 (sib (i.toNat / 2 ^ k)) (by omega) hc30
  have hl32 := len_h hf23.1 (sib (i.toNat / 2 ^ k)) (by omega)
  refine T_loadGA _ S25 hc31 rfl rfl rfl rfl rfl rfl rfl rfl (hVs hl32) (T_litS (hcells [(ups (rowP l) k).getD (sib (i.toNat / 2 ^ k)) []]) rfl rfl rfl rfl rfl rfl rfl rfl rfl rfl rfl rfl rfl (one_h hl32) (by simp [hcells, hV, Value.cells]) fun a33 w34 hB35 ho36 => ?_)
  have S37 := S25.own hB35 ho36
  refine ⟨trivial, ?_⟩
  have hD38 : (Go.Au.beside (rowP l) i.toNat k ++ [(ups (rowP l) k).getD (sib (i.toNat / 2 ^ k)) []]) = Go.Au.beside (rowP l) i.toNat (k + 1) := (beside_snoc _ _ _)
  refine Ae (h1 := by exact one_hcells _) (hn' := by first | rfl | (simp; done) | (simp; omega) | omega) (hx' := by rw [← hD38]; simp [hcells_append, hcells]) (hbytes := by show _ * 32 ≤ _; omega) 1 (k + 1) (hcells (Go.Au.beside (rowP l) i.toNat (k + 1))) S37 (S37.rd 0 rfl) fun a39 c40 w41 hc42 S43 => ?_
  have hh44 : ∀ y ∈ Go.Au.beside (rowP l) i.toNat (k + 1), y.length = 32 := by rw [← hD38]; exact (all_app hh19 (all_h1 hl32))
  refine Pv (T_nil (W_region ?_))
  refine Pv ?_
  refine T_quo rfl rfl rfl rfl rfl rfl (by omega) ?_
  refine T_re (v' := .int .i64 ((i.toNat / 2 ^ (k + 1) : Nat) : Int)) (congrArg (Value.int .i64) (half_int _ _)) (Pv (T_nil (W_region ?_)))
  refine Pv ?_
  refine Cs g_aumbry_aumbryref07_up ((upR_ok S43.le hf23 (by omega)).mono ?_)
  rintro e w50 ⟨a45, c46, hc47, rfl, ho48, hB49⟩
  have S51 := S43.own hB49 ho48
  refine ⟨_, rfl, trivial, ?_⟩
  refine Pv (T_nil ?_)
  obtain ⟨G53, hl54, S52, r55⟩ := S51.stillRow 0 rfl
  have r56 := RdH.mk (upTo_all _ _) (by decide) r55
  have S57 := S52.drop 0
  exact ⟨lg l.length - (k + 1), [(0, .int .i64 ((i.toNat / 2 ^ (k + 1) : Nat) : Int)), (5, .slice a39 (k + 1) c40), (6, .slice a45 ((ups (rowP l) k).length / 2) c46)], by omega, ⟨ciI, rfl, rfl, trivial⟩, k + 1, a39, c40, _, _, _, G53, rfl, (by omega), rfl, (hl15.trans hl54), S57, hh44, hc42, r56⟩
 refine W_exit (Wr ?_)
 obtain hkd := ups_done (rowP_len l) (show k ≤ lg l.length by assumption) (by omega)
 refine P2 (T_nil (W_ret ?_))
 refine ⟨_, ⟨_, _, rfl, rfl, rfl⟩, ?_⟩
 subst hkd
 exact ⟨_, _, hc18, rfl, S25.row 0 rfl, S25.below⟩

end Go.Proofs.YtfcejolipdcoaaaGreatDoor
