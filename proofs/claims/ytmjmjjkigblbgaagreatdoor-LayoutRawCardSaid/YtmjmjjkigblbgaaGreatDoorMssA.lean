/- Leaves, prints, signatures: the program's and the document's. -/
import Derived.Test.YtmjmjjkigblbgaaGreatDoorWotsB
import Derived.Test.YtmjmjjkigblbgaaGreatDoorTreeD
import Derived.Test.YtmjmjjkigblbgaaGreatDoorAuDoor
set_option linter.unusedVariables false
set_option linter.unusedSimpArgs false
set_option maxRecDepth 8192
namespace Go.Proofs.YtmjmjjkigblbgaaGreatDoor
open Go Go.F Go.RowKit

theorem may_t {h : Int} (h0 : 0 ≤ h) : decide (h ≤ 4) = Go.Au.mayH h := by
 unfold Go.Au.mayH
 by_cases e : h ≤ 4
 ·rw [decide_eq_true e, decide_eq_true ⟨h0, e⟩]
 ·rw [decide_eq_false e, decide_eq_false (fun x => e x.2)]
theorem may_f {h : Int} (h0 : ¬ 0 ≤ h) : false = Go.Au.mayH h := (decide_eq_false (fun x => h0 x.1)).symm
theorem may_is {h : Int} (hm : 0 ≤ h ∧ h ≤ 4) : (!Go.Au.mayH h) = false := by unfold Go.Au.mayH; rw [decide_eq_true hm]; rfl
theorem may_not {h : Int} (hm : ¬ (0 ≤ h ∧ h ≤ 4)) : (!Go.Au.mayH h) = true := by unfold Go.Au.mayH; rw [decide_eq_false hm]; rfl
theorem shlI {h : Int} (h0 : 0 ≤ h) (h1 : h < 62) : IntKind.i64.wrap ((1 : Int) * 2 ^ (min h.toNat IntKind.i64.bits)) = ((2 ^ h.toNat : Nat) : Int) := by
 have e := shl1 (k := h.toNat) (by omega)
 rwa [show ((h.toNat : Nat) : Int).toNat = h.toNat from Int.toNat_natCast _] at e
theorem printT_bd (h : Int) {r : List UInt8} (hr : r.length = 32) : (Go.Au.printT h r).length < 10000 := Go.Au.text2 (by decide) (by rw [Go.Sha.put_len]; decide) (by omega)
theorem mssMay_ok {H : Hp} {w : World} (hH : H.le (hw w)) (h : Int) :
  Calls Tryz.prog 124 #[.int .i64 h] w fun e w' => e = .returned (.bool (Go.Au.mayH h)) ∧ Below w.heap.size w w' := by
 refine enter1 _ Tryz.func124 rfl Tryz.ntmps124 Tryz.results124 rfl ?_
 have S0 := St.start w hH
 refine Wr ?_
 refine Pv ?_
 refine T_nil ?_
 refine Wr ?_
 iterate 3 refine Pv ?_
 refine T_part (t := 5) rfl (List.cons_ne_nil _ _) (fun h1' => ?_) (fun h1' => ?_)
 ·have h1 := of_decide_eq_true h1'
  iterate 2 (refine Ys ?_; refine Pv ?_)
  iterate 2 refine Pv ?_
  refine T_nil ?_
  refine W_ret ?_
  refine ⟨_, ⟨_, _, rfl, rfl, rfl⟩, ?_⟩
  exact ⟨congrArg (fun z => Ending.returned (Value.bool z)) (may_t (by omega)), S0.below⟩
 have h1 := of_decide_eq_false h1'
 iterate 2 refine No ?_
 iterate 2 refine Pv ?_
 refine T_nil ?_
 refine W_ret ?_
 refine ⟨_, ⟨_, _, rfl, rfl, rfl⟩, ?_⟩
 exact ⟨congrArg (fun z => Ending.returned (Value.bool z)) (may_f (by omega)), S0.below⟩






theorem printT_ok {H : Hp} {w : World} (hH : H.le (hw w)) (hT : Tabs H) (h : Int) {r : List UInt8} (hh : h ≤ 4) (hr : r.length = 32) :
  Calls Tryz.prog 93 #[.int .i64 h, hV r] w fun e w' => ∃ a c, (Go.Au.printT h r).length ≤ c ∧ e = .returned (.slice a (Go.Au.printT h r).length c) ∧ rowZ w' w.heap.size 5 1 (.slice a (Go.Au.printT h r).length c) (Go.Au.printT h r).length ((Go.Au.printT h r).map bV) ∧ Below w.heap.size w w' := by
 have htx := printT_bd h hr
 unfold Go.Au.printT at htx
 refine enter2 _ Tryz.func93 rfl Tryz.ntmps93 Tryz.results93 rfl ?_
 have S0 := St.start w hH
 refine Wr ?_
 refine T_boxS S0 (fun _ _ => trivial) rfl rfl rfl rfl rfl rfl fun b1 w2 S3 => ?_
 refine Pv ?_
 refine T_nil ?_
 refine W_seq ?_
 refine W_draw rfl (by kernel_rfl) ?_
 have S4 := S3.drew
 refine Pv ?_
 refine T_callS rfl rfl g_aumbry_code_Put rfl rfl rfl rfl ((putN_ok S4.le h 1 (by omega) (by omega)).mono ?_)
 rintro e w10 ⟨a5, c6, hc7, rfl, ho8, hB9⟩
 have S11 := S4.own hB9 ho8
 refine ⟨_, rfl, trivial, ?_⟩
 obtain ⟨G13, hl14, S12, r15⟩ := S11.stillBlk 1 rfl
 refine T_sliceAll rfl rfl rfl rfl rfl rfl rfl rfl ?_
 have r16 := Rd.of_blk (m := 32) (size := 1) (xs := r.map bV) r15 (hcell1 _) (by rw [List.length_map, hr])
 obtain ⟨G22, hl23, S21, r24⟩ := S12.stillRow 0 rfl
 have rs25 : Rds G22 [.slice a5 ((Go.Sha.put (max 0 h).toNat 1).length) c6, .slice (some ⟨b1, 0, none⟩) 32 32] [Go.Sha.put (max 0 h).toNat 1, r] := Rds.cons (Rd.canonB r24) (Rds.cons (Rd.canonB (r16.mono hl23)) (Rds.nil _))
 refine T_litS [.slice a5 ((Go.Sha.put (max 0 h).toNat 1).length) c6, .slice (some ⟨b1, 0, none⟩) 32 32] rfl rfl rfl rfl rfl rfl rfl rfl rfl rfl rfl rfl rfl (by simp [Value.cells]; rfl) rfl fun a17 w18 hB19 ho20 => ?_
 have S26 := S21.own hB19 ho20
 refine ⟨trivial, ?_⟩
 obtain ⟨G28, hl29, S27, r30⟩ := S26.stillRow 0 rfl
 have r31 := RdL.mk r30 (rs25.mono hl29)
 refine T_callS rfl rfl g_aumbry_sha_Text rfl rfl rfl rfl ((text_ok S27.le (hT.mono (hl14.trans (hl23.trans hl29))) r31 (by omega)).mono ?_)
 rintro e w37 ⟨a32, c33, hc34, rfl, ho35, hB36⟩
 have S38 := S27.own hB36 ho35
 refine ⟨_, rfl, trivial, ?_⟩
 refine Pv ?_
 refine T_nil ?_
 refine W_ret ?_
 refine ⟨_, ⟨_, _, rfl, rfl, rfl⟩, ?_⟩
 exact ⟨_, _, hc34, rfl, S38.row 0 rfl, S38.below⟩


theorem printTR_ok {H : Hp} {w : World} (hH : H.le (hw w)) (h : Int) {r : List UInt8} (hh : h ≤ 4) (hr : r.length = 32) :
  Calls Tryz.prog 50 #[.int .i64 h, hV r] w fun e w' => ∃ a c, (Go.Au.printT h r).length ≤ c ∧ e = .returned (.slice a (Go.Au.printT h r).length c) ∧ rowZ w' w.heap.size 5 1 (.slice a (Go.Au.printT h r).length c) (Go.Au.printT h r).length ((Go.Au.printT h r).map bV) ∧ Below w.heap.size w w' := by
 have htx := printT_bd h hr
 unfold Go.Au.printT at htx
 refine enter2 _ Tryz.func50 rfl Tryz.ntmps50 Tryz.results50 rfl ?_
 have S0 := St.start w hH
 refine Wr ?_
 refine T_boxS S0 (fun _ _ => trivial) rfl rfl rfl rfl rfl rfl fun b1 w2 S3 => ?_
 refine Pv ?_
 refine T_nil ?_
 refine W_seq ?_
 refine W_draw rfl (by kernel_rfl) ?_
 have S4 := S3.drew
 refine Pv ?_
 refine T_callS rfl rfl g_aumbry_aumbryref01_Put rfl rfl rfl rfl ((putR_ok S4.le h 1 (by omega) (by omega)).mono ?_)
 rintro e w10 ⟨a5, c6, hc7, rfl, ho8, hB9⟩
 have S11 := S4.own hB9 ho8
 refine ⟨_, rfl, trivial, ?_⟩
 obtain ⟨G13, hl14, S12, r15⟩ := S11.stillBlk 1 rfl
 refine T_sliceAll rfl rfl rfl rfl rfl rfl rfl rfl ?_
 have r16 := Rd.of_blk (m := 32) (size := 1) (xs := r.map bV) r15 (hcell1 _) (by rw [List.length_map, hr])
 obtain ⟨G22, hl23, S21, r24⟩ := S12.stillRow 0 rfl
 have rs25 : Rds G22 [.slice a5 ((Go.Sha.put (max 0 h).toNat 1).length) c6, .slice (some ⟨b1, 0, none⟩) 32 32] [Go.Sha.put (max 0 h).toNat 1, r] := Rds.cons (Rd.canonB r24) (Rds.cons (Rd.canonB (r16.mono hl23)) (Rds.nil _))
 refine T_litS [.slice a5 ((Go.Sha.put (max 0 h).toNat 1).length) c6, .slice (some ⟨b1, 0, none⟩) 32 32] rfl rfl rfl rfl rfl rfl rfl rfl rfl rfl rfl rfl rfl (by simp [Value.cells]; rfl) rfl fun a17 w18 hB19 ho20 => ?_
 have S26 := S21.own hB19 ho20
 refine ⟨trivial, ?_⟩
 obtain ⟨G28, hl29, S27, r30⟩ := S26.stillRow 0 rfl
 have r31 := RdL.mk r30 (rs25.mono hl29)
 refine T_callS rfl rfl g_aumbry_aumbryref01_Text rfl rfl rfl rfl ((textR_ok S27.le r31 (by omega)).mono ?_)
 rintro e w37 ⟨a32, c33, hc34, rfl, ho35, hB36⟩
 have S38 := S27.own hB36 ho35
 refine ⟨_, rfl, trivial, ?_⟩
 refine Pv ?_
 refine T_nil ?_
 refine W_ret ?_
 refine ⟨_, ⟨_, _, rfl, rfl, rfl⟩, ?_⟩
 exact ⟨_, _, hc34, rfl, S38.row 0 rfl, S38.below⟩






end Go.Proofs.YtmjmjjkigblbgaaGreatDoor
