/- Chains and digits: the program's and the document's. -/
import Derived.Test.YtmjmjjkigblbgaaGreatDoorText
import Derived.Test.YtmjmjjkigblbgaaGreatDoorAuAll
set_option linter.unusedVariables false
set_option linter.unusedSimpArgs false
set_option maxRecDepth 8192
namespace Go.Proofs.YtmjmjjkigblbgaaGreatDoor
open Go Go.F Go.RowKit

theorem bits15 (c : UInt8) : bits .and .u8 (c.toNat : Int) 15 = ((c.toNat % 16 : Nat) : Int) := by
 have key : ∀ q : Fin 256, bits .and .u8 (q.val : Int) 15 = ((q.val % 16 : Nat) : Int) := by decide +kernel
 exact key ⟨c.toNat, c.toNat_lt⟩
theorem bits15i (n : Nat) (h : n < 1024) : bits .and .i64 ((n : Nat) : Int) 15 = ((n % 16 : Nat) : Int) := by
 have key : ∀ q : Fin 1024, bits .and .i64 (q.val : Int) 15 = ((q.val % 16 : Nat) : Int) := by decide +kernel
 exact key ⟨n, h⟩

theorem dig_end {W w : World} {D : List Int} {et k : Nat} {a : Option Addr} {c : Nat} (h : D.length = k) (hc : D.length ≤ c) (hr : rowZ w W.heap.size et 1 (.slice a D.length c) D.length (D.map iV)) (hB : Below W.heap.size W w) :
  ∃ a' c', k ≤ c' ∧ Ending.returned (.slice a D.length c) = .returned (.slice a' k c') ∧ rowZ w W.heap.size et 1 (.slice a' k c') k (D.map iV) ∧ Below W.heap.size W w := by
 subst h; exact ⟨a, c, hc, rfl, hr, hB⟩
theorem step_ok {H : Hp} {w : World} (hH : H.le (hw w)) (hT : Tabs H) {h : List UInt8} (hh : h.length = 32) :
  Calls Tryz.prog 178 #[hV h] w fun e w' => e = .returned (hV (Go.Au.step h)) ∧ Below w.heap.size w w' := by
 refine enter1 _ Tryz.func178 rfl Tryz.ntmps178 Tryz.results178 rfl ?_
 have S0 := St.start w hH
 refine Wr ?_
 refine T_boxS S0 (fun _ _ => trivial) rfl rfl rfl rfl rfl rfl fun b1 w2 S3 => ?_
 refine T_allocS S3 (fun _ _ => trivial) rfl rfl rfl rfl rfl rfl rfl fun b4 w5 S6 => ?_
 refine T_nil ?_
 refine Wr ?_
 obtain ⟨G8, hl9, S7, r10⟩ := S6.stillBlk 1 rfl
 refine T_sliceAll rfl rfl rfl rfl rfl rfl rfl rfl ?_
 have r11 := Rd.of_blk (m := 32) (size := 1) (xs := h.map bV) r10 (hcell1 _) (by rw [List.length_map, hh])
 have rs16 : Rds G8 [.slice (some ⟨b1, 0, none⟩) 32 32] [h] := Rds.cons (Rd.canonB r11) (Rds.nil _)
 refine T_litS [.slice (some ⟨b1, 0, none⟩) 32 32] rfl rfl rfl rfl rfl rfl rfl rfl rfl rfl rfl rfl rfl (by simp [Value.cells]; rfl) rfl fun a12 w13 hB14 ho15 => ?_
 have S17 := S7.own hB14 ho15
 refine ⟨trivial, ?_⟩
 obtain ⟨G19, hl20, S18, r21⟩ := S17.stillRow 0 rfl
 have r22 := RdL.mk r21 (rs16.mono hl20)
 refine T_callS rfl rfl g_aumbry_sha_Tagged rfl rfl rfl rfl ((tagged_ok S18.le (hT.mono (hl9.trans hl20)) r22 (Go.Au.text1 (by decide) (by omega))).mono ?_)
 rintro e w24 ⟨rfl, hB23⟩
 have S25 := S18.call hB23
 refine ⟨_, rfl, trivial, ?_⟩
 refine T_re (v' := hV (Go.Au.step h)) rfl ?_
 refine T_storeFS 0 S25 (fun _ _ => trivial) rfl rfl rfl rfl rfl rfl rfl rfl rfl (hVs (Go.Au.step_len _)) (hVs (Go.Au.step_len _)) (one_hA _) fun w26 S27 => ?_
 refine T_nil ?_
 refine W_ret ?_
 refine ⟨_, ⟨_, _, _, rfl, rfl, run_loadVarA rfl rfl (hVs (Go.Au.step_len _)) (S27.cells 0 rfl), rfl⟩, ?_⟩
 exact ⟨rfl, S27.below⟩


theorem stepT_ok {H : Hp} {w : World} (hH : H.le (hw w)) {h : List UInt8} (hh : h.length = 32) :
  Calls Tryz.prog 173 #[hV h] w fun e w' => ∃ a c, (Go.Au.stepT h).length ≤ c ∧ e = .returned (.slice a (Go.Au.stepT h).length c) ∧ rowZ w' w.heap.size 5 1 (.slice a (Go.Au.stepT h).length c) (Go.Au.stepT h).length ((Go.Au.stepT h).map bV) ∧ Below w.heap.size w w' := by
 refine enter1 _ Tryz.func173 rfl Tryz.ntmps173 Tryz.results173 rfl ?_
 have S0 := St.start w hH
 refine Wr ?_
 refine T_boxS S0 (fun _ _ => trivial) rfl rfl rfl rfl rfl rfl fun b1 w2 S3 => ?_
 refine Pv ?_
 refine T_nil ?_
 refine Wr ?_
 obtain ⟨G5, hl6, S4, r7⟩ := S3.stillBlk 0 rfl
 refine T_sliceAll rfl rfl rfl rfl rfl rfl rfl rfl ?_
 have r8 := Rd.of_blk (m := 32) (size := 1) (xs := h.map bV) r7 (hcell1 _) (by rw [List.length_map, hh])
 have rs13 : Rds G5 [.slice (some ⟨b1, 0, none⟩) 32 32] [h] := Rds.cons (Rd.canonB r8) (Rds.nil _)
 refine T_litS [.slice (some ⟨b1, 0, none⟩) 32 32] rfl rfl rfl rfl rfl rfl rfl rfl rfl rfl rfl rfl rfl (by simp [Value.cells]; rfl) rfl fun a9 w10 hB11 ho12 => ?_
 have S14 := S4.own hB11 ho12
 refine ⟨trivial, ?_⟩
 obtain ⟨G16, hl17, S15, r18⟩ := S14.stillRow 0 rfl
 have r19 := RdL.mk r18 (rs13.mono hl17)
 refine T_callS rfl rfl g_aumbry_aumbryref01_Text rfl rfl rfl rfl ((textR_ok S15.le r19 (Go.Au.text1 (by decide) (by omega))).mono ?_)
 rintro e w25 ⟨a20, c21, hc22, rfl, ho23, hB24⟩
 have S26 := S15.own hB24 ho23
 refine ⟨_, rfl, trivial, ?_⟩
 refine Pv ?_
 refine T_nil ?_
 refine W_ret ?_
 refine ⟨_, ⟨_, _, rfl, rfl, rfl⟩, ?_⟩
 exact ⟨_, _, hc22, rfl, S26.row 0 rfl, S26.below⟩


theorem stepR_ok {H : Hp} {w : World} (hH : H.le (hw w)) {h : List UInt8} (hh : h.length = 32) :
  Calls Tryz.prog 155 #[hV h] w fun e w' => e = .returned (hV (Go.Au.step h)) ∧ Below w.heap.size w w' := by
 refine enter1 _ Tryz.func155 rfl Tryz.ntmps155 Tryz.results155 rfl ?_
 have S0 := St.start w hH
 refine Wr ?_
 refine T_boxS S0 (fun _ _ => trivial) rfl rfl rfl rfl rfl rfl fun b1 w2 S3 => ?_
 refine T_allocS S3 (fun _ _ => trivial) rfl rfl rfl rfl rfl rfl rfl fun b4 w5 S6 => ?_
 refine T_nil ?_
 refine Wr ?_
 refine T_loadFS 1 S6 rfl rfl rfl rfl rfl rfl rfl rfl rfl (hVs hh) ?_
 refine Cs g_aumbry_aumbryref07_stepText ((stepT_ok S6.le hh).mono ?_)
 rintro e w12 ⟨a7, c8, hc9, rfl, ho10, hB11⟩
 have S13 := S6.own hB11 ho10
 refine ⟨_, rfl, trivial, ?_⟩
 obtain ⟨G15, hl16, S14, r17⟩ := S13.stillRow 0 rfl
 refine T_callS rfl rfl g_aumbry_aumbryref01_Sum rfl rfl rfl rfl ((sumR_ok S14.le r17 (Nat.le_trans (Nat.le_of_lt (Go.Au.text1 (by decide) (by omega))) (by decide))).mono ?_)
 rintro e w19 ⟨rfl, hB18⟩
 have S20 := S14.call hB18
 refine ⟨_, rfl, trivial, ?_⟩
 refine T_re (v' := hV (Go.Au.step h)) rfl ?_
 refine T_storeFS 0 S20 (fun _ _ => trivial) rfl rfl rfl rfl rfl rfl rfl rfl rfl (hVs (Go.Au.step_len _)) (hVs (Go.Au.step_len _)) (one_hA _) fun w21 S22 => ?_
 refine T_nil ?_
 refine W_ret ?_
 refine ⟨_, ⟨_, _, _, rfl, rfl, run_loadVarA rfl rfl (hVs (Go.Au.step_len _)) (S22.cells 0 rfl), rfl⟩, ?_⟩
 exact ⟨rfl, S22.below⟩


theorem along_ok {H : Hp} {w : World} (hH : H.le (hw w)) (hT : Tabs H) {h : List UInt8} (n : Int) (hh : h.length = 32) :
  Calls Tryz.prog 175 #[hV h, .int .i64 n] w fun e w' => e = .returned (hV (Go.Au.steps (max (0 : Int) (min n 15)).toNat h)) ∧ Below w.heap.size w w' := by
 refine enter2 _ Tryz.func175 rfl Tryz.ntmps175 Tryz.results175 rfl ?_
 have S0 := St.start w hH
 refine Wr ?_
 refine T_boxS S0 (fun _ _ => trivial) rfl rfl rfl rfl rfl rfl fun b1 w2 S3 => ?_
 refine T_allocS S3 (fun _ _ => trivial) rfl rfl rfl rfl rfl rfl rfl fun b4 w5 S6 => ?_
 refine T_nil ?_
 refine W_seq ?_
 refine Wr ?_
 iterate 4 refine Pv ?_
 refine T_nil ?_
 refine W_block ?_
 refine W_loop (fun M ρ w' => ∃ (k : Nat) (G7 : Hp), M = (max (0 : Int) (min n 15)).toNat - k ∧ k ≤ (max (0 : Int) (min n 15)).toNat ∧ ρ = [(2, .pointer (some ⟨b1, 0, none⟩)), (4, .pointer (some ⟨b4, 0, none⟩)), (7, .int .i64 (max (0 : Int) (min n (15 : Int)))), (8, .int .i64 (k : Int))] ∧ H.le G7 ∧ St w H G7 [.blk b4 (hV (List.replicate 32 0) : Value).cells 27, .blk b1 (hV (Go.Au.steps k h) : Value).cells 27] w')
  ((max (0 : Int) (min n 15)).toNat - 0) [(2, .pointer (some ⟨b1, 0, none⟩)), (4, .pointer (some ⟨b4, 0, none⟩)), (7, .int .i64 (max (0 : Int) (min n (15 : Int)))), (8, .int .i64 ((0 : Nat) : Int))] ⟨rfl, rfl, (congrArg (fun z => some (Value.int .i64 z)) (by omega)), (congrArg (fun z => some (Value.int .i64 z)) (by omega)), trivial⟩ ⟨0, H, rfl, (by omega), rfl, Hp.le.refl _, S6⟩ ?_
 rintro M ρ w9 ⟨k, G7, rfl, hp11, rfl, hl8, S10⟩
 refine Wr ?_
 refine Pv ?_
 refine T_nil ?_
 refine W_seq ?_
 refine W_cond_dec rfl (fun h12 => ?_) (fun h12 => ?_)
 ·refine W_skip ?_
  refine W_seq ?_
  refine W_block ?_
  refine W_region ?_
  refine T_loadFS 1 S10 rfl rfl rfl rfl rfl rfl rfl rfl rfl (hVs (Go.Au.steps_len _ hh)) ?_
  refine Cs g_aumbry_wots_Step ((step_ok S10.le (hT.mono hl8) (Go.Au.steps_len _ hh)).mono ?_)
  rintro e w14 ⟨rfl, hB13⟩
  have S15 := S10.call hB13
  refine ⟨_, rfl, trivial, ?_⟩
  refine T_storeFS 1 S15 (fun _ _ => trivial) rfl rfl rfl rfl rfl rfl rfl rfl rfl (hVs (Go.Au.step_len _)) ((hVs (Go.Au.step_len _)).trans (hVs (Go.Au.steps_len _ hh)).symm) (one_hA _) fun w16 S17 => ?_
  refine T_nil ?_
  refine W_region ?_
  refine Ar ?_
  refine Pv ?_
  refine T_nil ?_
  exact ⟨(max (0 : Int) (min n 15)).toNat - (k + 1), [(2, .pointer (some ⟨b1, 0, none⟩)), (4, .pointer (some ⟨b4, 0, none⟩)), (7, .int .i64 (max (0 : Int) (min n (15 : Int)))), (8, .int .i64 ((k + 1 : Nat) : Int))], by omega, ⟨rfl, rfl, (congrArg (fun z => some (Value.int .i64 z)) (by omega)), (congrArg (fun z => some (Value.int .i64 z)) (by omega)), trivial⟩, k + 1, G7, rfl, (by omega), rfl, hl8, S17⟩
 refine W_exit ?_
 refine Wr ?_
 refine T_loadFS 1 S10 rfl rfl rfl rfl rfl rfl rfl rfl rfl (hVs (Go.Au.steps_len _ hh)) ?_
 refine T_storeFS 0 S10 (fun _ _ => trivial) rfl rfl rfl rfl rfl rfl rfl rfl rfl (hVs (Go.Au.steps_len _ hh)) (hVs (Go.Au.steps_len _ hh)) (one_hA _) fun w18 S19 => ?_
 refine T_nil ?_
 refine W_ret ?_
 refine ⟨_, ⟨_, _, _, rfl, rfl, run_loadVarA rfl rfl (hVs (Go.Au.steps_len _ hh)) (S19.cells 0 rfl), rfl⟩, ?_⟩
 have e : k = (max (0 : Int) (min n 15)).toNat := by omega
 exact ⟨by rw [← e]; rfl, S19.below⟩


theorem alongR_ok {H : Hp} {w : World} (hH : H.le (hw w)) {h : List UInt8} (n : Int) (hh : h.length = 32) :
  Calls Tryz.prog 119 #[hV h, .int .i64 n] w fun e w' => e = .returned (hV (Go.Au.steps (max (0 : Int) (min n 15)).toNat h)) ∧ Below w.heap.size w w' := by
 refine enter2 _ Tryz.func119 rfl Tryz.ntmps119 Tryz.results119 rfl ?_
 have S0 := St.start w hH
 refine Wr ?_
 refine T_boxS S0 (fun _ _ => trivial) rfl rfl rfl rfl rfl rfl fun b1 w2 S3 => ?_
 refine T_allocS S3 (fun _ _ => trivial) rfl rfl rfl rfl rfl rfl rfl fun b4 w5 S6 => ?_
 refine T_nil ?_
 refine W_seq ?_
 refine Wr ?_
 refine Pv ?_
 refine T_nil ?_
 refine W_block ?_
 refine W_loop (fun M ρ w' => ∃ (k : Nat) (G7 : Hp), M = (max (0 : Int) (min n 15)).toNat - k ∧ k ≤ (max (0 : Int) (min n 15)).toNat ∧ ρ = [(1, .int .i64 n), (2, .pointer (some ⟨b1, 0, none⟩)), (4, .pointer (some ⟨b4, 0, none⟩)), (5, .int .i64 (k : Int))] ∧ H.le G7 ∧ St w H G7 [.blk b4 (hV (List.replicate 32 0) : Value).cells 27, .blk b1 (hV (Go.Au.steps k h) : Value).cells 27] w')
  ((max (0 : Int) (min n 15)).toNat - 0) [(1, .int .i64 n), (2, .pointer (some ⟨b1, 0, none⟩)), (4, .pointer (some ⟨b4, 0, none⟩)), (5, .int .i64 ((0 : Nat) : Int))] ⟨(congrArg (fun z => some (Value.int .i64 z)) (by omega)), rfl, rfl, (congrArg (fun z => some (Value.int .i64 z)) (by omega)), trivial⟩ ⟨0, H, rfl, (by omega), rfl, Hp.le.refl _, S6⟩ ?_
 rintro M ρ w9 ⟨k, G7, rfl, hp11, rfl, hl8, S10⟩
 refine W_seq ?_
 refine Wr ?_
 iterate 4 refine Pv ?_
 refine T_part (t := 9) rfl (List.cons_ne_nil _ _) (fun h12' => ?_) (fun h12' => ?_)
 ·have h12 := of_decide_eq_true h12'
  iterate 2 (refine Ys ?_; refine Pv ?_)
  refine Pv ?_
  refine T_nil ?_
  refine W_cond_dec rfl (fun h13 => ?_) (fun h13 => ?_)
  ·refine W_skip ?_
   refine W_seq ?_
   refine W_block ?_
   refine W_region ?_
   refine T_loadFS 1 S10 rfl rfl rfl rfl rfl rfl rfl rfl rfl (hVs (Go.Au.steps_len _ hh)) ?_
   refine Cs g_aumbry_aumbryref07_Step ((stepR_ok S10.le (Go.Au.steps_len _ hh)).mono ?_)
   rintro e w15 ⟨rfl, hB14⟩
   have S16 := S10.call hB14
   refine ⟨_, rfl, trivial, ?_⟩
   refine T_storeFS 1 S16 (fun _ _ => trivial) rfl rfl rfl rfl rfl rfl rfl rfl rfl (hVs (Go.Au.step_len _)) ((hVs (Go.Au.step_len _)).trans (hVs (Go.Au.steps_len _ hh)).symm) (one_hA _) fun w17 S18 => ?_
   refine T_nil ?_
   refine W_region ?_
   refine Pv ?_
   refine Ar ?_
   refine Pv ?_
   refine T_nil ?_
   exact ⟨(max (0 : Int) (min n 15)).toNat - (k + 1), [(1, .int .i64 n), (2, .pointer (some ⟨b1, 0, none⟩)), (4, .pointer (some ⟨b4, 0, none⟩)), (5, .int .i64 ((k + 1 : Nat) : Int))], by omega, ⟨(congrArg (fun z => some (Value.int .i64 z)) (by omega)), rfl, rfl, (congrArg (fun z => some (Value.int .i64 z)) (by omega)), trivial⟩, k + 1, G7, rfl, (by omega), rfl, hl8, S18⟩
  refine W_exit ?_
  refine Wr ?_
  refine T_loadFS 1 S10 rfl rfl rfl rfl rfl rfl rfl rfl rfl (hVs (Go.Au.steps_len _ hh)) ?_
  refine T_storeFS 0 S10 (fun _ _ => trivial) rfl rfl rfl rfl rfl rfl rfl rfl rfl (hVs (Go.Au.steps_len _ hh)) (hVs (Go.Au.steps_len _ hh)) (one_hA _) fun w19 S20 => ?_
  refine T_nil ?_
  refine W_ret ?_
  refine ⟨_, ⟨_, _, _, rfl, rfl, run_loadVarA rfl rfl (hVs (Go.Au.steps_len _ hh)) (S20.cells 0 rfl), rfl⟩, ?_⟩
  have e : k = (max (0 : Int) (min n 15)).toNat := by omega
  exact ⟨by rw [← e]; rfl, S20.below⟩
 have h12 := of_decide_eq_false h12'
 iterate 2 refine No ?_
 refine Pv ?_
 refine T_nil ?_
 refine W_cond_false rfl ?_
 refine W_exit ?_
 refine Wr ?_
 refine T_loadFS 1 S10 rfl rfl rfl rfl rfl rfl rfl rfl rfl (hVs (Go.Au.steps_len _ hh)) ?_
 refine T_storeFS 0 S10 (fun _ _ => trivial) rfl rfl rfl rfl rfl rfl rfl rfl rfl (hVs (Go.Au.steps_len _ hh)) (hVs (Go.Au.steps_len _ hh)) (one_hA _) fun w21 S22 => ?_
 refine T_nil ?_
 refine W_ret ?_
 refine ⟨_, ⟨_, _, _, rfl, rfl, run_loadVarA rfl rfl (hVs (Go.Au.steps_len _ hh)) (S22.cells 0 rfl), rfl⟩, ?_⟩
 have e : k = (max (0 : Int) (min n 15)).toNat := by omega
 exact ⟨by rw [← e]; rfl, S22.below⟩




theorem startR_ok {H : Hp} {w : World} (hH : H.le (hw w)) {seed : List UInt8} (leaf chain : Int) (hs : seed.length = 16) (hl : leaf ≤ 9223372036854775807) (hc : chain ≤ 9223372036854775807) :
  Calls Tryz.prog 120 #[hV seed, .int .i64 leaf, .int .i64 chain] w fun e w' => e = .returned (hV (Go.Au.start seed leaf chain)) ∧ Below w.heap.size w w' := by
 refine enter3 _ Tryz.func120 rfl Tryz.ntmps120 Tryz.results120 rfl ?_
 have S0 := St.start w hH
 refine Wr ?_
 refine T_boxS S0 (fun _ _ => trivial) rfl rfl rfl rfl rfl rfl fun b1 w2 S3 => ?_
 refine T_allocS S3 (fun _ _ => trivial) rfl rfl rfl rfl rfl rfl rfl fun b4 w5 S6 => ?_
 refine T_nil ?_
 refine W_seq ?_
 refine W_draw rfl (by kernel_rfl) ?_
 have S7 := S6.drew
 obtain ⟨G9, hl10, S8, r11⟩ := S7.stillBlk 1 rfl
 refine T_sliceAll rfl rfl rfl rfl rfl rfl rfl rfl ?_
 have r12 := Rd.of_blk (m := 16) (size := 1) (xs := seed.map bV) r11 (hcell1 _) (by rw [List.length_map, hs])
 refine Pv ?_
 refine Cs g_aumbry_aumbryref01_Put ((putR_ok S8.le leaf 4 (by omega) (by omega)).mono ?_)
 rintro e w18 ⟨a13, c14, hc15, rfl, ho16, hB17⟩
 have S19 := S8.own hB17 ho16
 refine ⟨_, rfl, trivial, ?_⟩
 refine Pv ?_
 refine Cs g_aumbry_aumbryref01_Put ((putR_ok S19.le chain 4 (by omega) (by omega)).mono ?_)
 rintro e w25 ⟨a20, c21, hc22, rfl, ho23, hB24⟩
 have S26 := S19.own hB24 ho23
 refine ⟨_, rfl, trivial, ?_⟩
 obtain ⟨G32, hl33, S31, r34⟩ := S26.stillRow 1 rfl
 obtain ⟨G36, hl37, S35, r38⟩ := S31.stillRow 0 rfl
 have rs39 : Rds G36 [.slice (some ⟨b1, 0, none⟩) 16 16, .slice a13 ((Go.Sha.put (max 0 leaf).toNat 4).length) c14, .slice a20 ((Go.Sha.put (max 0 chain).toNat 4).length) c21] [seed, Go.Sha.put (max 0 leaf).toNat 4, Go.Sha.put (max 0 chain).toNat 4] := Rds.cons (Rd.canonB (r12.mono (hl33.trans hl37))) (Rds.cons (Rd.canonB (r34.mono hl37)) (Rds.cons (Rd.canonB r38) (Rds.nil _)))
 refine T_litS [.slice (some ⟨b1, 0, none⟩) 16 16, .slice a13 ((Go.Sha.put (max 0 leaf).toNat 4).length) c14, .slice a20 ((Go.Sha.put (max 0 chain).toNat 4).length) c21] rfl rfl rfl rfl rfl rfl rfl rfl rfl rfl rfl rfl rfl (by simp [Value.cells]; rfl) rfl fun a27 w28 hB29 ho30 => ?_
 have S40 := S35.own hB29 ho30
 refine ⟨trivial, ?_⟩
 obtain ⟨G42, hl43, S41, r44⟩ := S40.stillRow 0 rfl
 have r45 := RdL.mk r44 (rs39.mono hl43)
 refine T_callS rfl rfl g_aumbry_aumbryref01_Tagged rfl rfl rfl rfl ((taggedR_ok S41.le r45 (Go.Au.text3 (by decide) (by omega) (by rw [Go.Sha.put_len]; decide) (by rw [Go.Sha.put_len]; decide))).mono ?_)
 rintro e w47 ⟨rfl, hB46⟩
 have S48 := S41.call hB46
 refine ⟨_, rfl, trivial, ?_⟩
 refine T_re (v' := hV (Go.Au.start seed leaf chain)) rfl ?_
 refine T_storeFS 0 S48 (fun _ _ => trivial) rfl rfl rfl rfl rfl rfl rfl rfl rfl (hVs (Go.Au.start_len _ _ _)) (hVs (Go.Au.start_len _ _ _)) (one_hA _) fun w49 S50 => ?_
 refine T_nil ?_
 refine W_ret ?_
 refine ⟨_, ⟨_, _, _, rfl, rfl, run_loadVarA rfl rfl (hVs (Go.Au.start_len _ _ _)) (S50.cells 0 rfl), rfl⟩, ?_⟩
 exact ⟨rfl, S50.below⟩


theorem digits_w_ok {H : Hp} {w : World} (hH : H.le (hw w)) (hT : Tabs H) {m : List UInt8} {aa0 : Option Addr} {nn0 cc0 : Nat} (hv : Rd H (.slice aa0 nn0 cc0) nn0 1 (m.map bV)) (hl : m.length < 1000) :
  Calls Tryz.prog 174 #[.slice aa0 nn0 cc0] w fun e w' => ∃ a c, 67 ≤ c ∧ e = .returned (.slice a 67 c) ∧ rowZ w' w.heap.size 3 1 (.slice a 67 c) 67 ((Go.Au.digits m).map iV) ∧ Below w.heap.size w w' := by
 obtain rfl : nn0 = m.length := hv.lenB
 have hvcap : m.length ≤ cc0 := hv.capOf
 refine enter1 _ Tryz.func174 rfl Tryz.ntmps174 Tryz.results174 rfl ?_
 have S0 := St.start w hH
 refine Wr ?_
 refine Pv ?_
 refine T_nil ?_
 refine Wr ?_
 refine Pv ?_
 refine T_nil ?_
 refine Wr ?_
 refine Pv ?_
 refine T_nil ?_
 refine W_seq ?_
 refine Wr ?_
 refine Pv ?_
 have rs5 : Rds H [.slice aa0 m.length cc0] [m] := Rds.cons (Rd.canonB hv) (Rds.nil _)
 refine T_litS [.slice aa0 m.length cc0] rfl rfl rfl rfl rfl rfl rfl rfl rfl rfl rfl rfl rfl (by simp [Value.cells]; rfl) rfl fun a1 w2 hB3 ho4 => ?_
 have S6 := S0.own hB3 ho4
 refine ⟨trivial, ?_⟩
 obtain ⟨G8, hl9, S7, r10⟩ := S6.stillRow 0 rfl
 have r11 := RdL.mk r10 (rs5.mono hl9)
 refine T_callS rfl rfl g_aumbry_sha_Tagged rfl rfl rfl rfl ((tagged_ok S7.le (hT.mono hl9) r11 (Go.Au.text1 (by decide) hl)).mono ?_)
 rintro e w13 ⟨rfl, hB12⟩
 have S14 := S7.call hB12
 refine ⟨_, rfl, trivial, ?_⟩
 refine T_re (v' := hV (Go.Au.mh m)) rfl ?_
 refine Pv ?_
 refine T_nil ?_
 refine W_block ?_
 have S15 := S14.nilRow 3 1
 refine W_loop (fun M ρ w' => ∃ (k : Nat) (a18 : Option Addr) (c19 : Nat) (G16 : Hp), M = 32 - k ∧ k ≤ 32 ∧ ρ = [(3, .slice a18 ((Go.Au.nib ((Go.Au.mh m).take k)).length) c19), (4, .int .i64 ((Go.Au.chk ((Go.Au.mh m).take k) : Nat) : Int)), (9, hV (Go.Au.mh m)), (10, .int .i64 (k : Int))] ∧ G8.le G16 ∧ St w H G16 [.row 3 1 (.slice a18 ((Go.Au.nib ((Go.Au.mh m).take k)).length) c19) ((Go.Au.nib ((Go.Au.mh m).take k)).length) ((Go.Au.nib ((Go.Au.mh m).take k)).map iV)] w' ∧ (Go.Au.nib ((Go.Au.mh m).take k)).length ≤ c19)
  (32 - 0) [(3, .slice none 0 0), (4, .int .i64 ((0 : Nat) : Int)), (9, hV (Go.Au.mh m)), (10, .int .i64 ((0 : Nat) : Int))] ⟨rfl, (congrArg (fun z => some (Value.int .i64 z)) (by omega)), rfl, (congrArg (fun z => some (Value.int .i64 z)) (by omega)), trivial⟩ ⟨0, none, 0, G8, rfl, (by omega), rfl, Hp.le.refl _, S15, (Nat.le_refl _)⟩ ?_
 rintro M ρ w21 ⟨k, a18, c19, G16, rfl, hp23, rfl, hl17, S22, hc20⟩
 refine Wr ?_
 refine Pv ?_
 refine T_nil ?_
 refine W_seq ?_
 refine W_cond_dec rfl (fun h24 => ?_) (fun h24 => ?_)
 ·refine W_skip ?_
  refine W_seq ?_
  refine W_block ?_
  refine Wr ?_
  have hcb := ((Go.Au.mh m).getD k 0).toNat_lt
  have hck := Go.Au.chk_take_le (Go.Au.mh m) k
  have hml := Go.Au.mh_len m
  have hct := Go.Au.chk_take (l := Go.Au.mh m) (k := k) (by omega)
  refine T_index1 (v := bV ((Go.Au.mh m).getD k 0)) rfl rfl rfl rfl rfl rfl rfl rfl rfl rfl (by omega) (at_hV (Go.Au.mh m) k (by omega)) ?_
  refine Pv ?_
  refine T_nil ?_
  refine Wr ?_
  iterate 2 refine Pv ?_
  refine T_shrU 4 rfl rfl rfl rfl (by decide) (by omega) rfl rfl rfl ?_
  refine T_re (v' := .int .u8 ((((Go.Au.mh m).getD k 0).toNat / 16 : Nat) : Int)) (congrArg (Value.int .u8) (by omega)) ?_
  refine Pv ?_
  refine T_re (v' := .int .i64 ((((Go.Au.mh m).getD k 0).toNat / 16 : Nat) : Int)) (congrArg (Value.int .i64) (by rw [wrap64_id (by omega) (by omega)])) ?_
  iterate 2 refine Pv ?_
  refine T_re (v' := .int .u8 ((((Go.Au.mh m).getD k 0).toNat % 16 : Nat) : Int)) (congrArg (Value.int .u8) (bits15 _)) ?_
  refine Pv ?_
  refine T_re (v' := .int .i64 ((((Go.Au.mh m).getD k 0).toNat % 16 : Nat) : Int)) (congrArg (Value.int .i64) (by rw [wrap64_id (by omega) (by omega)])) ?_
  refine T_litS ([((((Go.Au.mh m).getD k 0).toNat / 16 : Nat) : Int), ((((Go.Au.mh m).getD k 0).toNat % 16 : Nat) : Int)].map iV) rfl rfl rfl rfl rfl rfl rfl rfl rfl rfl rfl rfl rfl (by simp [Value.cells]; rfl) rfl fun a25 w26 hB27 ho28 => ?_
  have S29 := S22.own hB27 ho28
  refine ⟨trivial, ?_⟩
  have hD30 : (Go.Au.nib ((Go.Au.mh m).take k) ++ [((((Go.Au.mh m).getD k 0).toNat / 16 : Nat) : Int), ((((Go.Au.mh m).getD k 0).toNat % 16 : Nat) : Int)]) = Go.Au.nib ((Go.Au.mh m).take (k + 1)) := (Go.Au.nib_take (by omega))
  refine T_appendS 1 ((Go.Au.nib ((Go.Au.mh m).take (k + 1))).length) ((Go.Au.nib ((Go.Au.mh m).take (k + 1))).map iV) S29 (fun _ _ => trivial) rfl rfl rfl rfl rfl rfl rfl rfl rfl rfl rfl rfl rfl rfl (S29.rd 0 rfl) (one_iV _) (by rw [← hD30]; first | rfl | (simp; done) | (simp; omega) | omega) (by rw [← hD30]; simp) (by unfold maxLen; first | (rw [Go.Au.nib_len, List.length_take]; omega) | (rw [Go.Au.digits_len]; omega)) (by show _ * 8 ≤ _; first | (rw [Go.Au.nib_len, List.length_take]; omega) | (rw [Go.Au.digits_len]; omega)) fun a31 c32 w33 hc34 S35 => ?_
  refine Pv ?_
  refine T_nil ?_
  refine W_region ?_
  refine Pv ?_
  refine Ar ?_
  refine Pv ?_
  refine T_shrU 4 rfl rfl rfl rfl (by decide) (by omega) rfl rfl rfl ?_
  refine T_re (v' := .int .u8 ((((Go.Au.mh m).getD k 0).toNat / 16 : Nat) : Int)) (congrArg (Value.int .u8) (by omega)) ?_
  refine Pv ?_
  refine T_re (v' := .int .i64 ((((Go.Au.mh m).getD k 0).toNat / 16 : Nat) : Int)) (congrArg (Value.int .i64) (by rw [wrap64_id (by omega) (by omega)])) ?_
  refine Ar ?_
  iterate 2 refine Pv ?_
  refine T_re (v' := .int .u8 ((((Go.Au.mh m).getD k 0).toNat % 16 : Nat) : Int)) (congrArg (Value.int .u8) (bits15 _)) ?_
  refine Pv ?_
  refine T_re (v' := .int .i64 ((((Go.Au.mh m).getD k 0).toNat % 16 : Nat) : Int)) (congrArg (Value.int .i64) (by rw [wrap64_id (by omega) (by omega)])) ?_
  refine Ar ?_
  refine Pv ?_
  refine T_nil ?_
  refine W_region ?_
  refine Ar ?_
  refine Pv ?_
  refine T_nil ?_
  have S36 := S35.drop 0
  exact ⟨32 - (k + 1), [(3, .slice a31 ((Go.Au.nib ((Go.Au.mh m).take (k + 1))).length) c32), (4, .int .i64 ((Go.Au.chk ((Go.Au.mh m).take (k + 1)) : Nat) : Int)), (9, hV (Go.Au.mh m)), (10, .int .i64 ((k + 1 : Nat) : Int))], by omega, ⟨rfl, (congrArg (fun z => some (Value.int .i64 z)) (by omega)), rfl, (congrArg (fun z => some (Value.int .i64 z)) (by omega)), trivial⟩, k + 1, a31, c32, G16, rfl, (by omega), rfl, hl17, S36, hc34⟩
 refine W_exit ?_
 refine Wr ?_
 iterate 2 refine Pv ?_
 have hk32 : k = 32 := by omega
 have hck := Go.Au.chk_take_le (Go.Au.mh m) k
 have hsm : Go.Au.chk ((Go.Au.mh m).take k) = Go.Au.chk (Go.Au.mh m) := by rw [List.take_of_length_le (by rw [Go.Au.mh_len]; omega)]
 refine T_shrU 8 rfl rfl rfl rfl (by decide) (by omega) rfl rfl rfl ?_
 refine T_re (v' := .int .i64 ((Go.Au.chk (Go.Au.mh m) / 256 : Nat) : Int)) (congrArg (Value.int .i64) (by rw [hsm]; omega)) ?_
 refine Pv ?_
 refine T_re (v' := .int .i64 ((Go.Au.chk (Go.Au.mh m) / 256 : Nat) : Int)) (congrArg (Value.int .i64) ((bits15i _ (by omega)).trans (by omega))) ?_
 refine Pv ?_
 refine T_shrU 4 rfl rfl rfl rfl (by decide) (by omega) rfl rfl rfl ?_
 refine T_re (v' := .int .i64 ((Go.Au.chk (Go.Au.mh m) / 16 : Nat) : Int)) (congrArg (Value.int .i64) (by rw [hsm]; omega)) ?_
 refine Pv ?_
 refine T_re (v' := .int .i64 ((Go.Au.chk (Go.Au.mh m) / 16 % 16 : Nat) : Int)) (congrArg (Value.int .i64) (bits15i _ (by omega))) ?_
 refine Pv ?_
 refine T_re (v' := .int .i64 ((Go.Au.chk (Go.Au.mh m) : Nat) : Int)) (congrArg (Value.int .i64) (by rw [hsm])) ?_
 refine Pv ?_
 refine T_re (v' := .int .i64 ((Go.Au.chk (Go.Au.mh m) % 16 : Nat) : Int)) (congrArg (Value.int .i64) (bits15i _ (by omega))) ?_
 refine T_litS ([((Go.Au.chk (Go.Au.mh m) / 256 : Nat) : Int), ((Go.Au.chk (Go.Au.mh m) / 16 % 16 : Nat) : Int), ((Go.Au.chk (Go.Au.mh m) % 16 : Nat) : Int)].map iV) rfl rfl rfl rfl rfl rfl rfl rfl rfl rfl rfl rfl rfl (by simp [Value.cells]; rfl) rfl fun a37 w38 hB39 ho40 => ?_
 have S41 := S22.own hB39 ho40
 refine ⟨trivial, ?_⟩
 have hD42 : (Go.Au.nib ((Go.Au.mh m).take k) ++ [((Go.Au.chk (Go.Au.mh m) / 256 : Nat) : Int), ((Go.Au.chk (Go.Au.mh m) / 16 % 16 : Nat) : Int), ((Go.Au.chk (Go.Au.mh m) % 16 : Nat) : Int)]) = Go.Au.digits m := (by rw [List.take_of_length_le (by rw [Go.Au.mh_len]; omega)]; rfl)
 refine T_appendS 1 ((Go.Au.digits m).length) ((Go.Au.digits m).map iV) S41 (fun _ _ => trivial) rfl rfl rfl rfl rfl rfl rfl rfl rfl rfl rfl rfl rfl rfl (S41.rd 0 rfl) (one_iV _) (by rw [← hD42]; first | rfl | (simp; done) | (simp; omega) | omega) (by rw [← hD42]; simp) (by unfold maxLen; first | (rw [Go.Au.nib_len, List.length_take]; omega) | (rw [Go.Au.digits_len]; omega)) (by show _ * 8 ≤ _; first | (rw [Go.Au.nib_len, List.length_take]; omega) | (rw [Go.Au.digits_len]; omega)) fun a43 c44 w45 hc46 S47 => ?_
 refine Pv ?_
 refine T_nil ?_
 refine W_ret ?_
 refine ⟨_, ⟨_, _, rfl, rfl, rfl⟩, ?_⟩
 exact dig_end (Go.Au.digits_len m) hc46 (S47.row 1 rfl) S47.below

end Go.Proofs.YtmjmjjkigblbgaaGreatDoor
