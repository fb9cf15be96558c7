/- Layouts and versions as bytes, and back. -/
import Derived.Test.YtmjmjjkigblbgaaDoorLayB
set_option linter.unusedVariables false
set_option linter.unusedSimpArgs false
set_option maxRecDepth 8192
namespace Go.Proofs.YtmjmjjkigblbgaaDoor
open Go Go.F Go.RowKit

theorem ueb_text {b : List UInt8} (hb : b.length ≤ 1000) : (Go.Au.text [117, 101, 98] [b]).length < 10000 := by
  have h1 := Go.Au.net_le (b := [117, 101, 98]) (by decide)
  have h2 := Go.Au.net_le (b := b) (by omega)
  show (Go.Au.net [117, 101, 98] ++ Go.Au.nets [b]).length < _
  rw [List.length_append, Go.Au.nets_cons, List.length_append, Go.Au.nets_nil]
  simp only [List.length_nil, List.length_cons] at *
  omega
theorem u_no {b : List UInt8} (h : ¬ Go.Au.UebOk b) : Ending.returned (.tuple #[qV 0 0 0 0 (List.replicate 32 0) (List.replicate 32 0), .bool false]) = .returned (.tuple #[qV (Go.Au.uN b 0) (Go.Au.uN b 1) (Go.Au.uN b 2) (Go.Au.uN b 3) (Go.Au.uH b 4) (Go.Au.uH b 5), .bool (decide (Go.Au.UebOk b))]) := by
  rw [decide_eq_false h, Go.Au.uN_no h, Go.Au.uN_no h, Go.Au.uN_no h, Go.Au.uN_no h, Go.Au.uH_no h, Go.Au.uH_no h]
theorem u_yes {b : List UInt8} (h : Go.Au.UebOk b) : Ending.returned (.tuple #[qV ((Go.Au.be (Go.Au.six b 0) : Nat) : Int) ((Go.Au.be (Go.Au.six b 1) : Nat) : Int) ((Go.Au.be (Go.Au.six b 2) : Nat) : Int) ((Go.Au.be (Go.Au.six b 3) : Nat) : Int) (Go.Au.six b 4) (Go.Au.six b 5), .bool true]) = .returned (.tuple #[qV (Go.Au.uN b 0) (Go.Au.uN b 1) (Go.Au.uN b 2) (Go.Au.uN b 3) (Go.Au.uH b 4) (Go.Au.uH b 5), .bool (decide (Go.Au.UebOk b))]) := by
  rw [decide_eq_true h, Go.Au.uN_yes h, Go.Au.uN_yes h, Go.Au.uN_yes h, Go.Au.uN_yes h, Go.Au.uH_yes h, Go.Au.uH_yes h]
theorem v_no {b : List UInt8} (h : ¬ Go.Au.VerOk b) : Ending.returned (.tuple #[qV 0 0 0 0 (List.replicate 16 0) (List.replicate 32 0), .bool false]) = .returned (.tuple #[qV (Go.Au.vN b 0) (Go.Au.vN b 1) (Go.Au.vN b 2) (Go.Au.vN b 3) (Go.Au.vS b) (Go.Au.vR b), .bool (decide (Go.Au.VerOk b))]) := by
  rw [decide_eq_false h, Go.Au.vN_no h, Go.Au.vN_no h, Go.Au.vN_no h, Go.Au.vN_no h, Go.Au.vS_no h, Go.Au.vR_no h]
theorem v_yes {b : List UInt8} (h : Go.Au.VerOk b) : Ending.returned (.tuple #[qV ((Go.Au.be (Go.Au.six b 0) : Nat) : Int) ((Go.Au.be (Go.Au.six b 1) : Nat) : Int) ((Go.Au.be (Go.Au.six b 2) : Nat) : Int) ((Go.Au.be (Go.Au.six b 3) : Nat) : Int) (Go.Au.six b 4) (Go.Au.six b 5), .bool true]) = .returned (.tuple #[qV (Go.Au.vN b 0) (Go.Au.vN b 1) (Go.Au.vN b 2) (Go.Au.vN b 3) (Go.Au.vS b) (Go.Au.vR b), .bool (decide (Go.Au.VerOk b))]) := by
  rw [decide_eq_true h, Go.Au.vN_yes h, Go.Au.vN_yes h, Go.Au.vN_yes h, Go.Au.vN_yes h, Go.Au.vS_yes h, Go.Au.vR_yes h]
theorem num4 {L : List (List UInt8)} {w0 w1 w2 w3 : Nat} (h0 : (L.getD 0 []).length = w0) (h1 : (L.getD 1 []).length = w1) (h2 : (L.getD 2 []).length = w2) (h3 : (L.getD 3 []).length = w3) : Go.Au.numOk L [(w0 : Int), (w1 : Int), (w2 : Int), (w3 : Int)] 4 := by
  intro i hi
  match i, hi with
  | 0, _ => exact congrArg Int.ofNat h0
  | 1, _ => exact congrArg Int.ofNat h1
  | 2, _ => exact congrArg Int.ofNat h2
  | 3, _ => exact congrArg Int.ofNat h3
theorem numU {b : List UInt8} (h0 : (Go.Au.six b 0).length = 1) (h1 : (Go.Au.six b 1).length = 1) (h2 : (Go.Au.six b 2).length = 4) (h3 : (Go.Au.six b 3).length = 4) : Go.Au.numOk (Go.Au.ntAll 6 b) [(1 : Int), (1 : Int), (4 : Int), (4 : Int)] [(1 : Int), (1 : Int), (4 : Int), (4 : Int)].length := num4 h0 h1 h2 h3
theorem numV {b : List UInt8} (h0 : (Go.Au.six b 0).length = 4) (h1 : (Go.Au.six b 1).length = 1) (h2 : (Go.Au.six b 2).length = 1) (h3 : (Go.Au.six b 3).length = 4) : Go.Au.numOk (Go.Au.ntAll 6 b) [(4 : Int), (1 : Int), (1 : Int), (4 : Int)] [(4 : Int), (1 : Int), (1 : Int), (4 : Int)].length := num4 h0 h1 h2 h3
theorem w7u : ∀ i, ([(1 : Int), (1 : Int), (4 : Int), (4 : Int)] : List Int).getD i 0 ≤ 7 := by
  intro i
  match i with
  | 0 => decide
  | 1 => decide
  | 2 => decide
  | 3 => decide
  | i + 4 => simp
theorem w7v : ∀ i, ([(4 : Int), (1 : Int), (1 : Int), (4 : Int)] : List Int).getD i 0 ≤ 7 := by
  intro i
  match i with
  | 0 => decide
  | 1 => decide
  | 2 => decide
  | 3 => decide
  | i + 4 => simp
theorem bytesEqual_ok {H : Hp} {w : World} (hH : H.le (hw w)) {b : List UInt8} {aa0 : Option Addr} {nn0 cc0 : Nat} (hv : Rd H (.slice aa0 nn0 cc0) nn0 1 (b.map bV)) {c : List UInt8} {aa1 : Option Addr} {nn1 cc1 : Nat} (hu : Rd H (.slice aa1 nn1 cc1) nn1 1 (c.map bV)) :
    Calls Tryd.prog 43 #[.slice aa0 nn0 cc0, .slice aa1 nn1 cc1] w fun e w' => e = .returned (.bool (decide (b = c))) ∧ Below w.heap.size w w' := by
  obtain rfl : nn0 = b.length := hv.lenB
  have hvcap : b.length ≤ cc0 := hv.capOf
  obtain rfl : nn1 = c.length := hu.lenB
  have hucap : c.length ≤ cc1 := hu.capOf
  refine enter2 _ Tryd.func43 rfl Tryd.ntmps43 Tryd.results43 rfl ?_
  have S0 := St.start w hH
  refine W_seq ?_
  refine W_region ?_
  refine T_pev rfl rfl rfl rfl ?_
  refine T_nil ?_
  refine W_seq ?_
  refine W_region ?_
  refine T_pev rfl rfl rfl rfl ?_
  refine T_convG S0 hv rfl rfl rfl rfl rfl rfl rfl rfl rfl ?_
  refine T_pev rfl rfl rfl rfl ?_
  refine T_convG S0 hu rfl rfl rfl rfl rfl rfl rfl rfl rfl ?_
  refine T_streq rfl rfl rfl rfl rfl rfl ?_
  refine T_pev rfl rfl rfl rfl ?_
  refine T_nil ?_
  refine W_ret ?_
  refine ⟨_, ⟨_, _, rfl, rfl, rfl⟩, ?_⟩
  exact ⟨rfl, S0.below⟩


theorem print_ok {H : Hp} {w : World} (hH : H.le (hw w)) (hT : Tabs H) {b : List UInt8} {aa0 : Option Addr} {nn0 cc0 : Nat} (hv : Rd H (.slice aa0 nn0 cc0) nn0 1 (b.map bV)) (hb : b.length ≤ 1000) :
    Calls Tryd.prog 15 #[.slice aa0 nn0 cc0] w fun e w' => e = .returned (hV (Go.Au.tagged [117, 101, 98] [b])) ∧ Below w.heap.size w w' := by
  obtain rfl : nn0 = b.length := hv.lenB
  have hvcap : b.length ≤ cc0 := hv.capOf
  have htx := ueb_text hb
  refine enter1 _ Tryd.func15 rfl Tryd.ntmps15 Tryd.results15 rfl ?_
  have S0 := St.start w hH
  refine W_seq ?_
  refine W_region ?_
  refine T_allocS S0 (fun _ _ => trivial) rfl rfl rfl rfl rfl rfl rfl fun b1 w2 S3 => ?_
  refine T_nil ?_
  refine W_seq ?_
  refine W_region ?_
  refine T_pev rfl rfl rfl rfl ?_
  have rs8 : Rds H [.slice aa0 b.length cc0] [b] := Rds.cons (Rd.canonB hv) (Rds.nil _)
  refine T_litS [.slice aa0 b.length cc0] rfl rfl rfl rfl rfl rfl rfl rfl rfl rfl rfl rfl rfl (by simp [Value.cells]; rfl) rfl fun a4 w5 hB6 ho7 => ?_
  have S9 := S3.own hB6 ho7
  refine ⟨trivial, ?_⟩
  obtain ⟨G11, hl12, S10, r13⟩ := S9.stillRow 0 rfl
  have r14 := RdL.mk r13 (rs8.mono hl12)
  refine T_callS rfl rfl g_aumbry_sha_Tagged rfl rfl rfl rfl ((tagged_ok S10.le (hT.mono hl12) r14 (by omega)).mono ?_)
  rintro e w16 ⟨rfl, hB15⟩
  have S17 := S10.call hB15
  refine ⟨_, rfl, trivial, ?_⟩
  refine T_storeFS 0 S17 (fun _ _ => trivial) rfl rfl rfl rfl rfl rfl rfl rfl rfl (hVs (Go.Au.tagged_len _ _)) (hVs (Go.Au.tagged_len _ _)) (one_hA _) fun w18 S19 => ?_
  refine T_nil ?_
  refine W_ret ?_
  refine ⟨_, ⟨_, _, _, rfl, rfl, run_loadVarA rfl rfl (hVs (Go.Au.tagged_len _ _)) (S19.cells 0 rfl), rfl⟩, ?_⟩
  exact ⟨rfl, S19.below⟩


theorem packU_ok {H : Hp} {w : World} (hH : H.le (hw w)) (hT : Tabs H) (p q r u : Int) {s t : List UInt8} (hs : s.length = 32) (ht : t.length = 32) (ha : p ≤ 9223372036854775807) (hb : q ≤ 9223372036854775807) (hc : r ≤ 9223372036854775807) (hd : u ≤ 9223372036854775807) :
    Calls Tryd.prog 12 #[qV p q r u s t] w fun e w' => ∃ a c, (Go.Au.packU p q r u s t).length ≤ c ∧ e = .returned (.slice a (Go.Au.packU p q r u s t).length c) ∧ rowZ w' w.heap.size 5 1 (.slice a (Go.Au.packU p q r u s t).length c) (Go.Au.packU p q r u s t).length ((Go.Au.packU p q r u s t).map bV) ∧ Below w.heap.size w w' := by
  have hlen := Go.Au.packU_len p q r u (s := s) (t := t) (by omega) (by omega)
  unfold Go.Au.packU at hlen
  refine enter1 _ Tryd.func12 rfl Tryd.ntmps12 Tryd.results12 rfl ?_
  have S0 := St.start w hH
  refine W_seq ?_
  refine W_region ?_
  refine T_boxS S0 (fun _ _ => trivial) rfl rfl rfl rfl rfl rfl fun b1 w2 S3 => ?_
  refine T_pev rfl rfl rfl rfl ?_
  refine T_nil ?_
  refine W_seq ?_
  obtain ⟨G5, hl6, S4, r7⟩ := S3.stillBlk 0 rfl
  refine W_plan (planF Tryd.prog G5 [7, 10, 13]) rfl (by kernel_rfl) S4.le ?_
  have S8 := S4.drew
  refine T_fldm 0 rfl rfl rfl rfl rfl rfl (by decide) rfl rfl rfl ?_
  refine T_loadG S8 (still_cell r7 qV_0) rfl rfl rfl rfl rfl rfl rfl ?_
  refine T_callS rfl rfl g_aumbry_code_Put rfl rfl rfl rfl ((putN_ok S8.le p 1 (by omega) (by omega)).mono ?_)
  rintro e w14 ⟨a9, c10, hc11, rfl, ho12, hB13⟩
  have S15 := S8.own hB13 ho12
  refine ⟨_, rfl, (((Hp.le.refl _)).trans S15.le), ?_⟩
  refine T_fldm 1 rfl rfl rfl rfl rfl rfl (by decide) rfl rfl rfl ?_
  refine T_loadGP (fun _ h => h) (still_cell r7 qV_1) rfl rfl rfl rfl rfl rfl rfl ?_
  refine T_callS rfl rfl g_aumbry_code_Put rfl rfl rfl rfl ((putN_ok S15.le q 1 (by omega) (by omega)).mono ?_)
  rintro e w21 ⟨a16, c17, hc18, rfl, ho19, hB20⟩
  have S22 := S15.own hB20 ho19
  refine ⟨_, rfl, (((Hp.le.refl _)).trans S22.le), ?_⟩
  refine T_fldm 2 rfl rfl rfl rfl rfl rfl (by decide) rfl rfl rfl ?_
  refine T_loadGP (fun _ h => h) (still_cell r7 qV_2) rfl rfl rfl rfl rfl rfl rfl ?_
  refine T_callS rfl rfl g_aumbry_code_Put rfl rfl rfl rfl ((putN_ok S22.le r 4 (by omega) (by omega)).mono ?_)
  rintro e w28 ⟨a23, c24, hc25, rfl, ho26, hB27⟩
  have S29 := S22.own hB27 ho26
  refine ⟨_, rfl, (((Hp.le.refl _)).trans S29.le), ?_⟩
  refine T_fldm 3 rfl rfl rfl rfl rfl rfl (by decide) rfl rfl rfl ?_
  refine T_loadGP (fun _ h => h) (still_cell r7 qV_3) rfl rfl rfl rfl rfl rfl rfl ?_
  refine T_callS rfl rfl g_aumbry_code_Put rfl rfl rfl rfl ((putN_ok S29.le u 4 (by omega) (by omega)).mono ?_)
  rintro e w35 ⟨a30, c31, hc32, rfl, ho33, hB34⟩
  have S36 := S29.own hB34 ho33
  refine ⟨_, rfl, (((Hp.le.refl _)).trans S36.le), ?_⟩
  refine T_fldm 4 rfl rfl rfl rfl rfl rfl (by decide) rfl rfl rfl ?_
  refine T_sliceAll rfl rfl rfl rfl rfl rfl rfl rfl ?_
  have r37 := Rd.of_blk_at (off := 4) (m := 32) (c0 := 32) (size := 1) (xs := s.map bV) r7 (by rw [List.length_map, hs]) (Nat.le_refl _) (fun j u hu => qV_s j u (by simpa using hu))
  refine T_fldm 36 rfl rfl rfl rfl rfl rfl (by decide) rfl rfl rfl ?_
  refine T_sliceAll rfl rfl rfl rfl rfl rfl rfl rfl ?_
  have r38 := Rd.of_blk_at (off := 36) (m := 32) (c0 := 32) (size := 1) (xs := t.map bV) r7 (by rw [List.length_map, ht]) (Nat.le_refl _) (fun j u hu => (qV_t (by rw [hs])) j u (by simpa using hu))
  obtain ⟨G44, hl45, S43, r46⟩ := S36.stillRow 3 rfl
  obtain ⟨G48, hl49, S47, r50⟩ := S43.stillRow 2 rfl
  obtain ⟨G52, hl53, S51, r54⟩ := S47.stillRow 1 rfl
  obtain ⟨G56, hl57, S55, r58⟩ := S51.stillRow 0 rfl
  have rs59 : Rds G56 [.slice a9 ((Go.Sha.put (max 0 p).toNat 1).length) c10, .slice a16 ((Go.Sha.put (max 0 q).toNat 1).length) c17, .slice a23 ((Go.Sha.put (max 0 r).toNat 4).length) c24, .slice a30 ((Go.Sha.put (max 0 u).toNat 4).length) c31, .slice (some ⟨b1, 4, none⟩) 32 32, .slice (some ⟨b1, 36, none⟩) 32 32] [Go.Sha.put (max 0 p).toNat 1, Go.Sha.put (max 0 q).toNat 1, Go.Sha.put (max 0 r).toNat 4, Go.Sha.put (max 0 u).toNat 4, s, t] := Rds.cons (Rd.canonB (r46.mono (hl49.trans (hl53.trans hl57)))) (Rds.cons (Rd.canonB (r50.mono (hl53.trans hl57))) (Rds.cons (Rd.canonB (r54.mono hl57)) (Rds.cons (Rd.canonB r58) (Rds.cons (Rd.canonB (r37.mono (hl45.trans (hl49.trans (hl53.trans hl57))))) (Rds.cons (Rd.canonB (r38.mono (hl45.trans (hl49.trans (hl53.trans hl57))))) (Rds.nil _))))))
  refine T_litS [.slice a9 ((Go.Sha.put (max 0 p).toNat 1).length) c10, .slice a16 ((Go.Sha.put (max 0 q).toNat 1).length) c17, .slice a23 ((Go.Sha.put (max 0 r).toNat 4).length) c24, .slice a30 ((Go.Sha.put (max 0 u).toNat 4).length) c31, .slice (some ⟨b1, 4, none⟩) 32 32, .slice (some ⟨b1, 36, none⟩) 32 32] rfl rfl rfl rfl rfl rfl rfl rfl rfl rfl rfl rfl rfl (by simp [Value.cells]; rfl) rfl fun a39 w40 hB41 ho42 => ?_
  have S60 := S55.own hB41 ho42
  refine ⟨(((hl45.trans (hl49.trans (hl53.trans hl57)))).trans S60.le), ?_⟩
  obtain ⟨G62, hl63, S61, r64⟩ := S60.stillRow 0 rfl
  have r65 := RdL.mk r64 (rs59.mono hl63)
  refine T_callS rfl rfl g_aumbry_code_Nets rfl rfl rfl rfl ((nets_ok S61.le (hT.mono (hl6.trans (hl45.trans (hl49.trans (hl53.trans (hl57.trans hl63)))))) r65 (by omega)).mono ?_)
  rintro e w71 ⟨a66, c67, hc68, rfl, ho69, hB70⟩
  have S72 := S61.own hB70 ho69
  refine ⟨_, rfl, (((hl45.trans (hl49.trans (hl53.trans (hl57.trans hl63))))).trans S72.le), ?_⟩
  refine T_pev rfl rfl rfl rfl ?_
  refine T_nil ?_
  refine W_ret ?_
  refine ⟨_, ⟨_, _, rfl, rfl, rfl⟩, ?_⟩
  exact ⟨_, _, hc68, rfl, S72.row 0 rfl, S72.below⟩


theorem packV_ok {H : Hp} {w : World} (hH : H.le (hw w)) (hT : Tabs H) (p q r u : Int) {s t : List UInt8} (hs : s.length = 16) (ht : t.length = 32) (ha : p ≤ 9223372036854775807) (hb : q ≤ 9223372036854775807) (hc : r ≤ 9223372036854775807) (hd : u ≤ 9223372036854775807) :
    Calls Tryd.prog 25 #[qV p q r u s t] w fun e w' => ∃ a c, (Go.Au.packV p q r u s t).length ≤ c ∧ e = .returned (.slice a (Go.Au.packV p q r u s t).length c) ∧ rowZ w' w.heap.size 5 1 (.slice a (Go.Au.packV p q r u s t).length c) (Go.Au.packV p q r u s t).length ((Go.Au.packV p q r u s t).map bV) ∧ Below w.heap.size w w' := by
  have hlen := Go.Au.packV_len p q r u (s := s) (t := t) (by omega) (by omega)
  unfold Go.Au.packV at hlen
  refine enter1 _ Tryd.func25 rfl Tryd.ntmps25 Tryd.results25 rfl ?_
  have S0 := St.start w hH
  refine W_seq ?_
  refine W_region ?_
  refine T_boxS S0 (fun _ _ => trivial) rfl rfl rfl rfl rfl rfl fun b1 w2 S3 => ?_
  refine T_pev rfl rfl rfl rfl ?_
  refine T_nil ?_
  refine W_seq ?_
  obtain ⟨G5, hl6, S4, r7⟩ := S3.stillBlk 0 rfl
  refine W_plan (planF Tryd.prog G5 [7, 10, 13]) rfl (by kernel_rfl) S4.le ?_
  have S8 := S4.drew
  refine T_fldm 0 rfl rfl rfl rfl rfl rfl (by decide) rfl rfl rfl ?_
  refine T_loadG S8 (still_cell r7 qV_0) rfl rfl rfl rfl rfl rfl rfl ?_
  refine T_callS rfl rfl g_aumbry_code_Put rfl rfl rfl rfl ((putN_ok S8.le p 4 (by omega) (by omega)).mono ?_)
  rintro e w14 ⟨a9, c10, hc11, rfl, ho12, hB13⟩
  have S15 := S8.own hB13 ho12
  refine ⟨_, rfl, (((Hp.le.refl _)).trans S15.le), ?_⟩
  refine T_fldm 1 rfl rfl rfl rfl rfl rfl (by decide) rfl rfl rfl ?_
  refine T_loadGP (fun _ h => h) (still_cell r7 qV_1) rfl rfl rfl rfl rfl rfl rfl ?_
  refine T_callS rfl rfl g_aumbry_code_Put rfl rfl rfl rfl ((putN_ok S15.le q 1 (by omega) (by omega)).mono ?_)
  rintro e w21 ⟨a16, c17, hc18, rfl, ho19, hB20⟩
  have S22 := S15.own hB20 ho19
  refine ⟨_, rfl, (((Hp.le.refl _)).trans S22.le), ?_⟩
  refine T_fldm 2 rfl rfl rfl rfl rfl rfl (by decide) rfl rfl rfl ?_
  refine T_loadGP (fun _ h => h) (still_cell r7 qV_2) rfl rfl rfl rfl rfl rfl rfl ?_
  refine T_callS rfl rfl g_aumbry_code_Put rfl rfl rfl rfl ((putN_ok S22.le r 1 (by omega) (by omega)).mono ?_)
  rintro e w28 ⟨a23, c24, hc25, rfl, ho26, hB27⟩
  have S29 := S22.own hB27 ho26
  refine ⟨_, rfl, (((Hp.le.refl _)).trans S29.le), ?_⟩
  refine T_fldm 3 rfl rfl rfl rfl rfl rfl (by decide) rfl rfl rfl ?_
  refine T_loadGP (fun _ h => h) (still_cell r7 qV_3) rfl rfl rfl rfl rfl rfl rfl ?_
  refine T_callS rfl rfl g_aumbry_code_Put rfl rfl rfl rfl ((putN_ok S29.le u 4 (by omega) (by omega)).mono ?_)
  rintro e w35 ⟨a30, c31, hc32, rfl, ho33, hB34⟩
  have S36 := S29.own hB34 ho33
  refine ⟨_, rfl, (((Hp.le.refl _)).trans S36.le), ?_⟩
  refine T_fldm 4 rfl rfl rfl rfl rfl rfl (by decide) rfl rfl rfl ?_
  refine T_sliceAll rfl rfl rfl rfl rfl rfl rfl rfl ?_
  have r37 := Rd.of_blk_at (off := 4) (m := 16) (c0 := 16) (size := 1) (xs := s.map bV) r7 (by rw [List.length_map, hs]) (Nat.le_refl _) (fun j u hu => qV_s j u (by simpa using hu))
  refine T_fldm 20 rfl rfl rfl rfl rfl rfl (by decide) rfl rfl rfl ?_
  refine T_sliceAll rfl rfl rfl rfl rfl rfl rfl rfl ?_
  have r38 := Rd.of_blk_at (off := 20) (m := 32) (c0 := 32) (size := 1) (xs := t.map bV) r7 (by rw [List.length_map, ht]) (Nat.le_refl _) (fun j u hu => (qV_t (by rw [hs])) j u (by simpa using hu))
  obtain ⟨G44, hl45, S43, r46⟩ := S36.stillRow 3 rfl
  obtain ⟨G48, hl49, S47, r50⟩ := S43.stillRow 2 rfl
  obtain ⟨G52, hl53, S51, r54⟩ := S47.stillRow 1 rfl
  obtain ⟨G56, hl57, S55, r58⟩ := S51.stillRow 0 rfl
  have rs59 : Rds G56 [.slice a9 ((Go.Sha.put (max 0 p).toNat 4).length) c10, .slice a16 ((Go.Sha.put (max 0 q).toNat 1).length) c17, .slice a23 ((Go.Sha.put (max 0 r).toNat 1).length) c24, .slice a30 ((Go.Sha.put (max 0 u).toNat 4).length) c31, .slice (some ⟨b1, 4, none⟩) 16 16, .slice (some ⟨b1, 20, none⟩) 32 32] [Go.Sha.put (max 0 p).toNat 4, Go.Sha.put (max 0 q).toNat 1, Go.Sha.put (max 0 r).toNat 1, Go.Sha.put (max 0 u).toNat 4, s, t] := Rds.cons (Rd.canonB (r46.mono (hl49.trans (hl53.trans hl57)))) (Rds.cons (Rd.canonB (r50.mono (hl53.trans hl57))) (Rds.cons (Rd.canonB (r54.mono hl57)) (Rds.cons (Rd.canonB r58) (Rds.cons (Rd.canonB (r37.mono (hl45.trans (hl49.trans (hl53.trans hl57))))) (Rds.cons (Rd.canonB (r38.mono (hl45.trans (hl49.trans (hl53.trans hl57))))) (Rds.nil _))))))
  refine T_litS [.slice a9 ((Go.Sha.put (max 0 p).toNat 4).length) c10, .slice a16 ((Go.Sha.put (max 0 q).toNat 1).length) c17, .slice a23 ((Go.Sha.put (max 0 r).toNat 1).length) c24, .slice a30 ((Go.Sha.put (max 0 u).toNat 4).length) c31, .slice (some ⟨b1, 4, none⟩) 16 16, .slice (some ⟨b1, 20, none⟩) 32 32] rfl rfl rfl rfl rfl rfl rfl rfl rfl rfl rfl rfl rfl (by simp [Value.cells]; rfl) rfl fun a39 w40 hB41 ho42 => ?_
  have S60 := S55.own hB41 ho42
  refine ⟨(((hl45.trans (hl49.trans (hl53.trans hl57)))).trans S60.le), ?_⟩
  obtain ⟨G62, hl63, S61, r64⟩ := S60.stillRow 0 rfl
  have r65 := RdL.mk r64 (rs59.mono hl63)
  refine T_callS rfl rfl g_aumbry_code_Nets rfl rfl rfl rfl ((nets_ok S61.le (hT.mono (hl6.trans (hl45.trans (hl49.trans (hl53.trans (hl57.trans hl63)))))) r65 (by omega)).mono ?_)
  rintro e w71 ⟨a66, c67, hc68, rfl, ho69, hB70⟩
  have S72 := S61.own hB70 ho69
  refine ⟨_, rfl, (((hl45.trans (hl49.trans (hl53.trans (hl57.trans hl63))))).trans S72.le), ?_⟩
  refine T_pev rfl rfl rfl rfl ?_
  refine T_nil ?_
  refine W_ret ?_
  refine ⟨_, ⟨_, _, rfl, rfl, rfl⟩, ?_⟩
  exact ⟨_, _, hc68, rfl, S72.row 0 rfl, S72.below⟩


theorem packVR_ok {H : Hp} {w : World} (hH : H.le (hw w)) (p q r u : Int) {s t : List UInt8} (hs : s.length = 16) (ht : t.length = 32) (ha : p ≤ 9223372036854775807) (hb : q ≤ 9223372036854775807) (hc : r ≤ 9223372036854775807) (hd : u ≤ 9223372036854775807) :
    Calls Tryd.prog 26 #[qV p q r u s t] w fun e w' => ∃ a c, (Go.Au.packV p q r u s t).length ≤ c ∧ e = .returned (.slice a (Go.Au.packV p q r u s t).length c) ∧ rowZ w' w.heap.size 5 1 (.slice a (Go.Au.packV p q r u s t).length c) (Go.Au.packV p q r u s t).length ((Go.Au.packV p q r u s t).map bV) ∧ Below w.heap.size w w' := by
  have hlen := Go.Au.packV_len p q r u (s := s) (t := t) (by omega) (by omega)
  unfold Go.Au.packV at hlen
  refine enter1 _ Tryd.func26 rfl Tryd.ntmps26 Tryd.results26 rfl ?_
  have S0 := St.start w hH
  refine W_seq ?_
  refine W_region ?_
  refine T_boxS S0 (fun _ _ => trivial) rfl rfl rfl rfl rfl rfl fun b1 w2 S3 => ?_
  refine T_pev rfl rfl rfl rfl ?_
  refine T_nil ?_
  refine W_seq ?_
  obtain ⟨G5, hl6, S4, r7⟩ := S3.stillBlk 0 rfl
  refine W_plan (planF Tryd.prog G5 [7, 10, 13]) rfl (by kernel_rfl) S4.le ?_
  have S8 := S4.drew
  refine T_fldm 0 rfl rfl rfl rfl rfl rfl (by decide) rfl rfl rfl ?_
  refine T_loadG S8 (still_cell r7 qV_0) rfl rfl rfl rfl rfl rfl rfl ?_
  refine T_callS rfl rfl g_aumbry_aumbryref01_Put rfl rfl rfl rfl ((putR_ok S8.le p 4 (by omega) (by omega)).mono ?_)
  rintro e w14 ⟨a9, c10, hc11, rfl, ho12, hB13⟩
  have S15 := S8.own hB13 ho12
  refine ⟨_, rfl, (((Hp.le.refl _)).trans S15.le), ?_⟩
  refine T_fldm 1 rfl rfl rfl rfl rfl rfl (by decide) rfl rfl rfl ?_
  refine T_loadGP (fun _ h => h) (still_cell r7 qV_1) rfl rfl rfl rfl rfl rfl rfl ?_
  refine T_callS rfl rfl g_aumbry_aumbryref01_Put rfl rfl rfl rfl ((putR_ok S15.le q 1 (by omega) (by omega)).mono ?_)
  rintro e w21 ⟨a16, c17, hc18, rfl, ho19, hB20⟩
  have S22 := S15.own hB20 ho19
  refine ⟨_, rfl, (((Hp.le.refl _)).trans S22.le), ?_⟩
  refine T_fldm 2 rfl rfl rfl rfl rfl rfl (by decide) rfl rfl rfl ?_
  refine T_loadGP (fun _ h => h) (still_cell r7 qV_2) rfl rfl rfl rfl rfl rfl rfl ?_
  refine T_callS rfl rfl g_aumbry_aumbryref01_Put rfl rfl rfl rfl ((putR_ok S22.le r 1 (by omega) (by omega)).mono ?_)
  rintro e w28 ⟨a23, c24, hc25, rfl, ho26, hB27⟩
  have S29 := S22.own hB27 ho26
  refine ⟨_, rfl, (((Hp.le.refl _)).trans S29.le), ?_⟩
  refine T_fldm 3 rfl rfl rfl rfl rfl rfl (by decide) rfl rfl rfl ?_
  refine T_loadGP (fun _ h => h) (still_cell r7 qV_3) rfl rfl rfl rfl rfl rfl rfl ?_
  refine T_callS rfl rfl g_aumbry_aumbryref01_Put rfl rfl rfl rfl ((putR_ok S29.le u 4 (by omega) (by omega)).mono ?_)
  rintro e w35 ⟨a30, c31, hc32, rfl, ho33, hB34⟩
  have S36 := S29.own hB34 ho33
  refine ⟨_, rfl, (((Hp.le.refl _)).trans S36.le), ?_⟩
  refine T_fldm 4 rfl rfl rfl rfl rfl rfl (by decide) rfl rfl rfl ?_
  refine T_sliceAll rfl rfl rfl rfl rfl rfl rfl rfl ?_
  have r37 := Rd.of_blk_at (off := 4) (m := 16) (c0 := 16) (size := 1) (xs := s.map bV) r7 (by rw [List.length_map, hs]) (Nat.le_refl _) (fun j u hu => qV_s j u (by simpa using hu))
  refine T_fldm 20 rfl rfl rfl rfl rfl rfl (by decide) rfl rfl rfl ?_
  refine T_sliceAll rfl rfl rfl rfl rfl rfl rfl rfl ?_
  have r38 := Rd.of_blk_at (off := 20) (m := 32) (c0 := 32) (size := 1) (xs := t.map bV) r7 (by rw [List.length_map, ht]) (Nat.le_refl _) (fun j u hu => (qV_t (by rw [hs])) j u (by simpa using hu))
  obtain ⟨G44, hl45, S43, r46⟩ := S36.stillRow 3 rfl
  obtain ⟨G48, hl49, S47, r50⟩ := S43.stillRow 2 rfl
  obtain ⟨G52, hl53, S51, r54⟩ := S47.stillRow 1 rfl
  obtain ⟨G56, hl57, S55, r58⟩ := S51.stillRow 0 rfl
  have rs59 : Rds G56 [.slice a9 ((Go.Sha.put (max 0 p).toNat 4).length) c10, .slice a16 ((Go.Sha.put (max 0 q).toNat 1).length) c17, .slice a23 ((Go.Sha.put (max 0 r).toNat 1).length) c24, .slice a30 ((Go.Sha.put (max 0 u).toNat 4).length) c31, .slice (some ⟨b1, 4, none⟩) 16 16, .slice (some ⟨b1, 20, none⟩) 32 32] [Go.Sha.put (max 0 p).toNat 4, Go.Sha.put (max 0 q).toNat 1, Go.Sha.put (max 0 r).toNat 1, Go.Sha.put (max 0 u).toNat 4, s, t] := Rds.cons (Rd.canonB (r46.mono (hl49.trans (hl53.trans hl57)))) (Rds.cons (Rd.canonB (r50.mono (hl53.trans hl57))) (Rds.cons (Rd.canonB (r54.mono hl57)) (Rds.cons (Rd.canonB r58) (Rds.cons (Rd.canonB (r37.mono (hl45.trans (hl49.trans (hl53.trans hl57))))) (Rds.cons (Rd.canonB (r38.mono (hl45.trans (hl49.trans (hl53.trans hl57))))) (Rds.nil _))))))
  refine T_litS [.slice a9 ((Go.Sha.put (max 0 p).toNat 4).length) c10, .slice a16 ((Go.Sha.put (max 0 q).toNat 1).length) c17, .slice a23 ((Go.Sha.put (max 0 r).toNat 1).length) c24, .slice a30 ((Go.Sha.put (max 0 u).toNat 4).length) c31, .slice (some ⟨b1, 4, none⟩) 16 16, .slice (some ⟨b1, 20, none⟩) 32 32] rfl rfl rfl rfl rfl rfl rfl rfl rfl rfl rfl rfl rfl (by simp [Value.cells]; rfl) rfl fun a39 w40 hB41 ho42 => ?_
  have S60 := S55.own hB41 ho42
  refine ⟨(((hl45.trans (hl49.trans (hl53.trans hl57)))).trans S60.le), ?_⟩
  obtain ⟨G62, hl63, S61, r64⟩ := S60.stillRow 0 rfl
  have r65 := RdL.mk r64 (rs59.mono hl63)
  refine T_callS rfl rfl g_aumbry_aumbryref01_Nets rfl rfl rfl rfl ((netsR_ok S61.le r65 (by omega)).mono ?_)
  rintro e w71 ⟨a66, c67, hc68, rfl, ho69, hB70⟩
  have S72 := S61.own hB70 ho69
  refine ⟨_, rfl, (((hl45.trans (hl49.trans (hl53.trans (hl57.trans hl63))))).trans S72.le), ?_⟩
  refine T_pev rfl rfl rfl rfl ?_
  refine T_nil ?_
  refine W_ret ?_
  refine ⟨_, ⟨_, _, rfl, rfl, rfl⟩, ?_⟩
  exact ⟨_, _, hc68, rfl, S72.row 0 rfl, S72.below⟩


theorem may_ok {H : Hp} {w : World} (hH : H.le (hw w)) (p q r u : Int) {s t : List UInt8} (hs : s.length = 32) (ht : t.length = 32) :
    Calls Tryd.prog 42 #[qV p q r u s t] w fun e w' => e = .returned (.bool (decide ((1 ≤ p ∧ p ≤ q ∧ q ≤ 16) ∧ 1 ≤ r ∧ r ≤ 1024 ∧ u = 64))) ∧ Below w.heap.size w w' := by
  refine enter1 _ Tryd.func42 rfl Tryd.ntmps42 Tryd.results42 rfl ?_
  have S0 := St.start w hH
  refine W_seq ?_
  refine W_region ?_
  refine T_boxS S0 (fun _ _ => trivial) rfl rfl rfl rfl rfl rfl fun b1 w2 S3 => ?_
  refine T_pev rfl rfl rfl rfl ?_
  refine T_nil ?_
  refine W_seq ?_
  refine W_region ?_
  refine T_fldm 0 rfl rfl rfl rfl rfl rfl (by decide) rfl rfl rfl ?_
  refine T_loadS 0 0 S3 rfl rfl rfl rfl rfl rfl rfl rfl rfl qV_0 ?_
  refine T_fldm 1 rfl rfl rfl rfl rfl rfl (by decide) rfl rfl rfl ?_
  refine T_loadS 0 1 S3 rfl rfl rfl rfl rfl rfl rfl rfl rfl qV_1 ?_
  refine T_callS rfl rfl g_aumbry_layout_kn rfl rfl rfl rfl ((kn_ok S3.le p q).mono ?_)
  rintro e w5 ⟨rfl, hB4⟩
  have S6 := S3.call hB4
  refine ⟨_, rfl, trivial, ?_⟩
  refine T_pev rfl rfl rfl rfl ?_
  refine T_part (t := 8) rfl (List.cons_ne_nil _ _) (fun h7' => ?_) (fun h7' => ?_)
  · have h7 := of_decide_eq_true h7'
    refine T_yes rfl rfl rfl ?_ rfl
    refine T_fldm 2 rfl rfl rfl rfl rfl rfl (by decide) rfl rfl rfl ?_
    refine T_yes rfl rfl rfl ?_ rfl
    refine T_loadS 0 2 S6 rfl rfl rfl rfl rfl rfl rfl rfl rfl qV_2 ?_
    refine T_yes rfl rfl rfl ?_ rfl
    refine T_pev rfl rfl rfl rfl ?_
    refine T_pev rfl rfl rfl rfl ?_
    refine T_pev rfl rfl rfl rfl ?_
    refine T_part (t := 13) rfl (List.cons_ne_nil _ _) (fun h8' => ?_) (fun h8' => ?_)
    · have h8 := of_decide_eq_true h8'
      refine T_yes rfl rfl rfl ?_ rfl
      refine T_fldm 2 rfl rfl rfl rfl rfl rfl (by decide) rfl rfl rfl ?_
      refine T_yes rfl rfl rfl ?_ rfl
      refine T_loadS 0 2 S6 rfl rfl rfl rfl rfl rfl rfl rfl rfl qV_2 ?_
      refine T_yes rfl rfl rfl ?_ rfl
      refine T_pev rfl rfl rfl rfl ?_
      refine T_pev rfl rfl rfl rfl ?_
      refine T_pev rfl rfl rfl rfl ?_
      refine T_part (t := 18) rfl (List.cons_ne_nil _ _) (fun h9' => ?_) (fun h9' => ?_)
      · have h9 := of_decide_eq_true h9'
        refine T_yes rfl rfl rfl ?_ rfl
        refine T_fldm 3 rfl rfl rfl rfl rfl rfl (by decide) rfl rfl rfl ?_
        refine T_yes rfl rfl rfl ?_ rfl
        refine T_loadS 0 3 S6 rfl rfl rfl rfl rfl rfl rfl rfl rfl qV_3 ?_
        refine T_yes rfl rfl rfl ?_ rfl
        refine T_pev rfl rfl rfl rfl ?_
        refine T_pev rfl rfl rfl rfl ?_
        refine T_pev rfl rfl rfl rfl ?_
        refine T_nil ?_
        refine W_ret ?_
        refine ⟨_, ⟨_, _, rfl, rfl, rfl⟩, ?_⟩
        exact ⟨congrArg (fun z => Ending.returned (Value.bool z)) (by first | (exact (decide_eq_true (by omega)).symm) | (exact (decide_eq_false (by omega)).symm) | exact decide_eq_decide.2 (by omega)), S6.below⟩
      have h9 := of_decide_eq_false h9'
      refine T_no rfl rfl rfl rfl rfl rfl ?_
      refine T_no rfl rfl rfl rfl rfl rfl ?_
      refine T_no rfl rfl rfl rfl rfl rfl ?_
      refine T_pev rfl rfl rfl rfl ?_
      refine T_pev rfl rfl rfl rfl ?_
      refine T_nil ?_
      refine W_ret ?_
      refine ⟨_, ⟨_, _, rfl, rfl, rfl⟩, ?_⟩
      exact ⟨congrArg (fun z => Ending.returned (Value.bool z)) (by first | (exact (decide_eq_true (by omega)).symm) | (exact (decide_eq_false (by omega)).symm) | exact decide_eq_decide.2 (by omega)), S6.below⟩
    have h8 := of_decide_eq_false h8'
    refine T_no rfl rfl rfl rfl rfl rfl ?_
    refine T_no rfl rfl rfl rfl rfl rfl ?_
    refine T_no rfl rfl rfl rfl rfl rfl ?_
    refine T_pev rfl rfl rfl rfl ?_
    refine T_pev rfl rfl rfl rfl ?_
    refine T_no rfl rfl rfl rfl rfl rfl ?_
    refine T_no rfl rfl rfl rfl rfl rfl ?_
    refine T_no rfl rfl rfl rfl rfl rfl ?_
    refine T_pev rfl rfl rfl rfl ?_
    refine T_pev rfl rfl rfl rfl ?_
    refine T_nil ?_
    refine W_ret ?_
    refine ⟨_, ⟨_, _, rfl, rfl, rfl⟩, ?_⟩
    exact ⟨congrArg (fun z => Ending.returned (Value.bool z)) (by first | (exact (decide_eq_true (by omega)).symm) | (exact (decide_eq_false (by omega)).symm) | exact decide_eq_decide.2 (by omega)), S6.below⟩
  have h7 := of_decide_eq_false h7'
  refine T_no rfl rfl rfl rfl rfl rfl ?_
  refine T_no rfl rfl rfl rfl rfl rfl ?_
  refine T_no rfl rfl rfl rfl rfl rfl ?_
  refine T_pev rfl rfl rfl rfl ?_
  refine T_pev rfl rfl rfl rfl ?_
  refine T_no rfl rfl rfl rfl rfl rfl ?_
  refine T_no rfl rfl rfl rfl rfl rfl ?_
  refine T_no rfl rfl rfl rfl rfl rfl ?_
  refine T_pev rfl rfl rfl rfl ?_
  refine T_pev rfl rfl rfl rfl ?_
  refine T_no rfl rfl rfl rfl rfl rfl ?_
  refine T_no rfl rfl rfl rfl rfl rfl ?_
  refine T_no rfl rfl rfl rfl rfl rfl ?_
  refine T_pev rfl rfl rfl rfl ?_
  refine T_pev rfl rfl rfl rfl ?_
  refine T_nil ?_
  refine W_ret ?_
  refine ⟨_, ⟨_, _, rfl, rfl, rfl⟩, ?_⟩
  exact ⟨congrArg (fun z => Ending.returned (Value.bool z)) (by first | (exact (decide_eq_true (by omega)).symm) | (exact (decide_eq_false (by omega)).symm) | exact decide_eq_decide.2 (by omega)), S6.below⟩


theorem unpackU_ok {H : Hp} {w : World} (hH : H.le (hw w)) (hT : Tabs H) {b : List UInt8} {aa0 : Option Addr} {nn0 cc0 : Nat} (hv : Rd H (.slice aa0 nn0 cc0) nn0 1 (b.map bV)) (hb : b.length ≤ 10000) :
    Calls Tryd.prog 10 #[.slice aa0 nn0 cc0] w fun e w' => e = .returned (.tuple #[qV (Go.Au.uN b 0) (Go.Au.uN b 1) (Go.Au.uN b 2) (Go.Au.uN b 3) (Go.Au.uH b 4) (Go.Au.uH b 5), .bool (decide (Go.Au.UebOk b))]) ∧ Below w.heap.size w w' := by
  obtain rfl : nn0 = b.length := hv.lenB
  have hvcap : b.length ≤ cc0 := hv.capOf
  refine enter1 _ Tryd.func10 rfl Tryd.ntmps10 Tryd.results10 rfl ?_
  have S0 := St.start w hH
  refine W_seq ?_
  refine W_region ?_
  refine T_allocS S0 (fun _ _ => trivial) rfl rfl rfl rfl rfl rfl rfl fun b1 w2 S3 => ?_
  refine T_pev rfl rfl rfl rfl ?_
  refine T_nil ?_
  refine W_seq ?_
  refine W_region ?_
  refine T_pev rfl rfl rfl rfl ?_
  refine T_callS rfl rfl g_aumbry_code_TakeNets rfl rfl rfl rfl ((takeNets_ok S3.le hv 6 (by omega) (by omega)).mono ?_)
  rintro e w8 ⟨a4, c5, rfl, r6, hB7⟩
  obtain ⟨G10, eG12⟩ : ∃ G, G = F.ext H w2.heap.size w8 := ⟨_, rfl⟩
  obtain ⟨hl11, S9⟩ := S3.ext hB7
  rw [← eG12] at hl11 S9 r6
  refine ⟨_, rfl, trivial, ?_⟩
  refine T_pev rfl rfl rfl rfl ?_
  refine T_pev rfl rfl rfl rfl ?_
  refine T_pev rfl rfl rfl rfl ?_
  refine T_pev rfl rfl rfl rfl ?_
  refine T_pev rfl rfl rfl rfl ?_
  refine T_nil ?_
  refine W_seq ?_
  refine W_seq ?_
  refine W_region ?_
  refine T_pev rfl rfl rfl rfl ?_
  refine T_pev rfl rfl rfl rfl ?_
  refine T_pev rfl rfl rfl rfl ?_
  refine T_part (t := 15) rfl (List.cons_ne_nil _ _) (fun h13' => ?_) (fun h13' => ?_)
  · have h13 := of_ndec_t h13'
    refine T_no rfl rfl rfl rfl rfl rfl ?_
    refine T_no rfl rfl rfl rfl rfl rfl ?_
    refine T_no rfl rfl rfl rfl rfl rfl ?_
    refine T_no rfl rfl rfl rfl rfl rfl ?_
    refine T_no rfl rfl rfl rfl rfl rfl ?_
    refine T_pev rfl rfl rfl rfl ?_
    refine T_pev rfl rfl rfl rfl ?_
    refine T_no rfl rfl rfl rfl rfl rfl ?_
    refine T_no rfl rfl rfl rfl rfl rfl ?_
    refine T_no rfl rfl rfl rfl rfl rfl ?_
    refine T_no rfl rfl rfl rfl rfl rfl ?_
    refine T_no rfl rfl rfl rfl rfl rfl ?_
    refine T_pev rfl rfl rfl rfl ?_
    refine T_nil ?_
    refine W_cond_true rfl ?_
    refine W_seq ?_
    refine W_region ?_
    refine T_buildS (cells := (qz32 : Value).cells) rfl rfl rfl rfl rfl rfl rfl rfl rfl rfl ?_
    refine T_storeFS 0 S9 (fun _ _ => trivial) rfl rfl rfl rfl rfl rfl rfl rfl rfl (qV_sz (q_len List.length_replicate List.length_replicate rfl)) (qV_sz (q_len List.length_replicate List.length_replicate rfl)) (qV_one) fun w14 S15 => ?_
    refine T_pev rfl rfl rfl rfl ?_
    refine T_nil ?_
    refine W_ret ?_
    refine ⟨_, ⟨_, _, _, rfl, rfl, run_loadVarA rfl rfl (qV_sz (q_len List.length_replicate List.length_replicate rfl)) (S15.cells 0 rfl), ⟨_, _, rfl, rfl, rfl⟩⟩, ?_⟩
    have HNO : ¬ Go.Au.UebOk b := by
      intro hq
      obtain ⟨q0, q1, q2, q3, q4, q5, q6, q7, q8, q9, q10, q11, q12⟩ := hq
      have e0 : ((Go.Au.ntAll 6 b).getD 0 []).length = _ := q1
      have e1 : ((Go.Au.ntAll 6 b).getD 1 []).length = _ := q2
      have e2 : ((Go.Au.ntAll 6 b).getD 2 []).length = _ := q3
      have e3 : ((Go.Au.ntAll 6 b).getD 3 []).length = _ := q4
      have e4 : ((Go.Au.ntAll 6 b).getD 4 []).length = _ := q5
      have e5 : ((Go.Au.ntAll 6 b).getD 5 []).length = _ := q6
      first | exact h13 q0 | omega | exact h13 (numU q1 q2 q3 q4) | exact h13 (Go.Au.packU_six q0 q1 q2 q3 q4)
    exact ⟨u_no HNO, S15.below⟩
  have h13 := of_ndec_f h13'
  refine T_yes rfl rfl rfl ?_ rfl
  have HA := h13
  have hn6 := Go.Au.ntAll_len HA
  refine T_pev rfl rfl rfl rfl ?_
  refine T_yes rfl rfl rfl ?_ rfl
  obtain ⟨hs19, r20, r21⟩ := (id r6)
  refine T_idxR 4 r20 rfl rfl rfl rfl rfl rfl rfl rfl rfl (by omega) (by omega) fun b16 o17 hc18 => ?_
  obtain ⟨a24, c25, hc27, hv23, r26⟩ := r21.at 4 (by omega)
  have hc28 := hc18 0 (.slice a24 ((Go.Au.ntAll 6 b).getD 4 []).length c25) (by simpa using hv23)
  simp only [Nat.add_zero] at hc28
  refine T_yes rfl rfl rfl ?_ rfl
  refine T_loadG S9 hc28 rfl rfl rfl rfl rfl rfl rfl ?_
  refine T_yes rfl rfl rfl ?_ rfl
  refine T_pev rfl rfl rfl rfl ?_
  refine T_yes rfl rfl rfl ?_ rfl
  refine T_pev rfl rfl rfl rfl ?_
  refine T_pev rfl rfl rfl rfl ?_
  refine T_pev rfl rfl rfl rfl ?_
  refine T_part (t := 22) rfl (List.cons_ne_nil _ _) (fun h29' => ?_) (fun h29' => ?_)
  · have h29 := of_ndec_t h29'
    refine T_no rfl rfl rfl rfl rfl rfl ?_
    refine T_no rfl rfl rfl rfl rfl rfl ?_
    refine T_no rfl rfl rfl rfl rfl rfl ?_
    refine T_no rfl rfl rfl rfl rfl rfl ?_
    refine T_no rfl rfl rfl rfl rfl rfl ?_
    refine T_pev rfl rfl rfl rfl ?_
    refine T_nil ?_
    refine W_cond_true rfl ?_
    refine W_seq ?_
    refine W_region ?_
    refine T_buildS (cells := (qz32 : Value).cells) rfl rfl rfl rfl rfl rfl rfl rfl rfl rfl ?_
    refine T_storeFS 0 S9 (fun _ _ => trivial) rfl rfl rfl rfl rfl rfl rfl rfl rfl (qV_sz (q_len List.length_replicate List.length_replicate rfl)) (qV_sz (q_len List.length_replicate List.length_replicate rfl)) (qV_one) fun w30 S31 => ?_
    refine T_pev rfl rfl rfl rfl ?_
    refine T_nil ?_
    refine W_ret ?_
    refine ⟨_, ⟨_, _, _, rfl, rfl, run_loadVarA rfl rfl (qV_sz (q_len List.length_replicate List.length_replicate rfl)) (S31.cells 0 rfl), ⟨_, _, rfl, rfl, rfl⟩⟩, ?_⟩
    have HNO : ¬ Go.Au.UebOk b := by
      intro hq
      obtain ⟨q0, q1, q2, q3, q4, q5, q6, q7, q8, q9, q10, q11, q12⟩ := hq
      have e0 : ((Go.Au.ntAll 6 b).getD 0 []).length = _ := q1
      have e1 : ((Go.Au.ntAll 6 b).getD 1 []).length = _ := q2
      have e2 : ((Go.Au.ntAll 6 b).getD 2 []).length = _ := q3
      have e3 : ((Go.Au.ntAll 6 b).getD 3 []).length = _ := q4
      have e4 : ((Go.Au.ntAll 6 b).getD 4 []).length = _ := q5
      have e5 : ((Go.Au.ntAll 6 b).getD 5 []).length = _ := q6
      first | exact h29 q0 | omega | exact h29 (numU q1 q2 q3 q4) | exact h29 (Go.Au.packU_six q0 q1 q2 q3 q4)
    exact ⟨u_no HNO, S31.below⟩
  have h29 := of_ndec_f h29'
  refine T_yes rfl rfl rfl ?_ rfl
  refine T_pev rfl rfl rfl rfl ?_
  refine T_yes rfl rfl rfl ?_ rfl
  obtain ⟨hs35, r36, r37⟩ := (id r6)
  refine T_idxR 5 r36 rfl rfl rfl rfl rfl rfl rfl rfl rfl (by omega) (by omega) fun b32 o33 hc34 => ?_
  obtain ⟨a40, c41, hc43, hv39, r42⟩ := r37.at 5 (by omega)
  have hc44 := hc34 0 (.slice a40 ((Go.Au.ntAll 6 b).getD 5 []).length c41) (by simpa using hv39)
  simp only [Nat.add_zero] at hc44
  refine T_yes rfl rfl rfl ?_ rfl
  refine T_loadG S9 hc44 rfl rfl rfl rfl rfl rfl rfl ?_
  refine T_yes rfl rfl rfl ?_ rfl
  refine T_pev rfl rfl rfl rfl ?_
  refine T_yes rfl rfl rfl ?_ rfl
  refine T_pev rfl rfl rfl rfl ?_
  refine T_pev rfl rfl rfl rfl ?_
  refine T_nil ?_
  refine W_cond_not rfl (fun h45 => ?_) (fun h45 => ?_)
  · refine W_seq ?_
    refine W_region ?_
    refine T_buildS (cells := (qz32 : Value).cells) rfl rfl rfl rfl rfl rfl rfl rfl rfl rfl ?_
    refine T_storeFS 0 S9 (fun _ _ => trivial) rfl rfl rfl rfl rfl rfl rfl rfl rfl (qV_sz (q_len List.length_replicate List.length_replicate rfl)) (qV_sz (q_len List.length_replicate List.length_replicate rfl)) (qV_one) fun w46 S47 => ?_
    refine T_pev rfl rfl rfl rfl ?_
    refine T_nil ?_
    refine W_ret ?_
    refine ⟨_, ⟨_, _, _, rfl, rfl, run_loadVarA rfl rfl (qV_sz (q_len List.length_replicate List.length_replicate rfl)) (S47.cells 0 rfl), ⟨_, _, rfl, rfl, rfl⟩⟩, ?_⟩
    have HNO : ¬ Go.Au.UebOk b := by
      intro hq
      obtain ⟨q0, q1, q2, q3, q4, q5, q6, q7, q8, q9, q10, q11, q12⟩ := hq
      have e0 : ((Go.Au.ntAll 6 b).getD 0 []).length = _ := q1
      have e1 : ((Go.Au.ntAll 6 b).getD 1 []).length = _ := q2
      have e2 : ((Go.Au.ntAll 6 b).getD 2 []).length = _ := q3
      have e3 : ((Go.Au.ntAll 6 b).getD 3 []).length = _ := q4
      have e4 : ((Go.Au.ntAll 6 b).getD 4 []).length = _ := q5
      have e5 : ((Go.Au.ntAll 6 b).getD 5 []).length = _ := q6
      first | exact h45 q0 | omega | exact h45 (numU q1 q2 q3 q4) | exact h45 (Go.Au.packU_six q0 q1 q2 q3 q4)
    exact ⟨u_no HNO, S47.below⟩
  refine W_skip ?_
  refine W_seq ?_
  refine W_region ?_
  refine T_pev rfl rfl rfl rfl ?_
  refine T_litS ([(1 : Int), (1 : Int), (4 : Int), (4 : Int)].map iV) rfl rfl rfl rfl rfl rfl rfl rfl rfl rfl rfl rfl rfl (by simp [Value.cells]; rfl) rfl fun a48 w49 hB50 ho51 => ?_
  have S52 := S9.own hB50 ho51
  refine ⟨trivial, ?_⟩
  obtain ⟨G54, hl55, S53, r56⟩ := S52.stillRow 0 rfl
  refine T_callS rfl rfl g_aumbry_layout_nums rfl rfl rfl rfl ((nums_ok S53.le (l := (Go.Au.ntAll 6 b)) (m := ([(1 : Int), (1 : Int), (4 : Int), (4 : Int)])) (r6.mono hl55) r56 (by show 4 ≤ _; omega) (by show 4 ≤ 10; omega) w7u (fun x hx => by have := Go.Au.ntAll_el 6 b x hx; omega)).mono ?_)
  rintro e w61 ⟨a57, c58, rfl, r59, hB60⟩
  obtain ⟨G63, eG65⟩ : ∃ G, G = F.ext G54 w49.heap.size w61 := ⟨_, rfl⟩
  obtain ⟨hl64, S62⟩ := S53.ext hB60
  rw [← eG65] at hl64 S62 r59
  refine ⟨_, rfl, trivial, ?_⟩
  refine T_pev rfl rfl rfl rfl ?_
  refine T_pev rfl rfl rfl rfl ?_
  refine T_pev rfl rfl rfl rfl ?_
  refine T_pev rfl rfl rfl rfl ?_
  refine T_pev rfl rfl rfl rfl ?_
  refine T_nil ?_
  refine W_seq ?_
  refine W_seq ?_
  refine W_region ?_
  refine T_pev rfl rfl rfl rfl ?_
  refine T_pev rfl rfl rfl rfl ?_
  refine T_nil ?_
  refine W_cond_not rfl (fun h66 => ?_) (fun h66 => ?_)
  · refine W_seq ?_
    refine W_region ?_
    refine T_buildS (cells := (qz32 : Value).cells) rfl rfl rfl rfl rfl rfl rfl rfl rfl rfl ?_
    refine T_storeFS 0 S62 (fun _ _ => trivial) rfl rfl rfl rfl rfl rfl rfl rfl rfl (qV_sz (q_len List.length_replicate List.length_replicate rfl)) (qV_sz (q_len List.length_replicate List.length_replicate rfl)) (qV_one) fun w67 S68 => ?_
    refine T_pev rfl rfl rfl rfl ?_
    refine T_nil ?_
    refine W_ret ?_
    refine ⟨_, ⟨_, _, _, rfl, rfl, run_loadVarA rfl rfl (qV_sz (q_len List.length_replicate List.length_replicate rfl)) (S68.cells 0 rfl), ⟨_, _, rfl, rfl, rfl⟩⟩, ?_⟩
    have HNO : ¬ Go.Au.UebOk b := by
      intro hq
      obtain ⟨q0, q1, q2, q3, q4, q5, q6, q7, q8, q9, q10, q11, q12⟩ := hq
      have e0 : ((Go.Au.ntAll 6 b).getD 0 []).length = _ := q1
      have e1 : ((Go.Au.ntAll 6 b).getD 1 []).length = _ := q2
      have e2 : ((Go.Au.ntAll 6 b).getD 2 []).length = _ := q3
      have e3 : ((Go.Au.ntAll 6 b).getD 3 []).length = _ := q4
      have e4 : ((Go.Au.ntAll 6 b).getD 4 []).length = _ := q5
      have e5 : ((Go.Au.ntAll 6 b).getD 5 []).length = _ := q6
      first | exact h66 q0 | omega | exact h66 (numU q1 q2 q3 q4) | exact h66 (Go.Au.packU_six q0 q1 q2 q3 q4)
    exact ⟨u_no HNO, S68.below⟩
  refine W_skip ?_
  refine W_seq ?_
  refine W_plan (planF Tryd.prog G63 [41, 44, 47, 50, 53, 54, 55, 58, 59, 60]) rfl (by kernel_rfl) S62.le ?_
  have S69 := S62.drew
  refine T_pev rfl rfl rfl rfl ?_
  have HN := h66
  have hn4 : (Go.Au.numA (Go.Au.ntAll 6 b) [(1 : Int), (1 : Int), (4 : Int), (4 : Int)]).length = 4 := by rw [Go.Au.numA_yes HN, Go.Au.numL_len]; rfl
  have HQ0 : (Go.Au.six b 0).length = 1 := by have h : (((Go.Au.ntAll 6 b).getD 0 []).length : Int) = 1 := HN 0 (by decide); show ((Go.Au.ntAll 6 b).getD 0 []).length = _; omega
  have HQ1 : (Go.Au.six b 1).length = 1 := by have h : (((Go.Au.ntAll 6 b).getD 1 []).length : Int) = 1 := HN 1 (by decide); show ((Go.Au.ntAll 6 b).getD 1 []).length = _; omega
  have HQ2 : (Go.Au.six b 2).length = 4 := by have h : (((Go.Au.ntAll 6 b).getD 2 []).length : Int) = 4 := HN 2 (by decide); show ((Go.Au.ntAll 6 b).getD 2 []).length = _; omega
  have HQ3 : (Go.Au.six b 3).length = 4 := by have h : (((Go.Au.ntAll 6 b).getD 3 []).length : Int) = 4 := HN 3 (by decide); show ((Go.Au.ntAll 6 b).getD 3 []).length = _; omega
  have HB0 := Go.Au.be_w HQ0
  have HB1 := Go.Au.be_w HQ1
  have HB2 := Go.Au.be_w HQ2
  have HB3 := Go.Au.be_w HQ3
  have HL4 : (Go.Au.six b 4).length = 32 := by show ((Go.Au.ntAll 6 b).getD 4 []).length = _; omega
  have HL5 : (Go.Au.six b 5).length = 32 := by show ((Go.Au.ntAll 6 b).getD 5 []).length = _; omega
  refine T_idxR 0 r59 rfl rfl rfl rfl rfl rfl rfl rfl rfl (by omega) (by omega) fun b70 o71 hc72 => ?_
  have hc73 := hc72 0 (.int .i64 ((Go.Au.numA (Go.Au.ntAll 6 b) ([(1 : Int), (1 : Int), (4 : Int), (4 : Int)])).getD 0 0)) (at_i (Go.Au.numA (Go.Au.ntAll 6 b) ([(1 : Int), (1 : Int), (4 : Int), (4 : Int)])) 0 (by omega))
  simp only [Nat.add_zero] at hc73
  refine T_loadGP (fun _ h => h) hc73 rfl rfl rfl rfl rfl rfl rfl ?_
  refine T_re (v' := .int .i64 ((Go.Au.be (Go.Au.six b 0) : Nat) : Int)) (congrArg (Value.int .i64) (by rw [Go.Au.numA_yes HN]; exact Go.Au.numL_get (by decide))) ?_
  refine T_pev rfl rfl rfl rfl ?_
  refine T_idxR 1 r59 rfl rfl rfl rfl rfl rfl rfl rfl rfl (by omega) (by omega) fun b74 o75 hc76 => ?_
  have hc77 := hc76 0 (.int .i64 ((Go.Au.numA (Go.Au.ntAll 6 b) ([(1 : Int), (1 : Int), (4 : Int), (4 : Int)])).getD 1 0)) (at_i (Go.Au.numA (Go.Au.ntAll 6 b) ([(1 : Int), (1 : Int), (4 : Int), (4 : Int)])) 1 (by omega))
  simp only [Nat.add_zero] at hc77
  refine T_loadGP (fun _ h => h) hc77 rfl rfl rfl rfl rfl rfl rfl ?_
  refine T_re (v' := .int .i64 ((Go.Au.be (Go.Au.six b 1) : Nat) : Int)) (congrArg (Value.int .i64) (by rw [Go.Au.numA_yes HN]; exact Go.Au.numL_get (by decide))) ?_
  refine T_pev rfl rfl rfl rfl ?_
  refine T_idxR 2 r59 rfl rfl rfl rfl rfl rfl rfl rfl rfl (by omega) (by omega) fun b78 o79 hc80 => ?_
  have hc81 := hc80 0 (.int .i64 ((Go.Au.numA (Go.Au.ntAll 6 b) ([(1 : Int), (1 : Int), (4 : Int), (4 : Int)])).getD 2 0)) (at_i (Go.Au.numA (Go.Au.ntAll 6 b) ([(1 : Int), (1 : Int), (4 : Int), (4 : Int)])) 2 (by omega))
  simp only [Nat.add_zero] at hc81
  refine T_loadGP (fun _ h => h) hc81 rfl rfl rfl rfl rfl rfl rfl ?_
  refine T_re (v' := .int .i64 ((Go.Au.be (Go.Au.six b 2) : Nat) : Int)) (congrArg (Value.int .i64) (by rw [Go.Au.numA_yes HN]; exact Go.Au.numL_get (by decide))) ?_
  refine T_pev rfl rfl rfl rfl ?_
  refine T_idxR 3 r59 rfl rfl rfl rfl rfl rfl rfl rfl rfl (by omega) (by omega) fun b82 o83 hc84 => ?_
  have hc85 := hc84 0 (.int .i64 ((Go.Au.numA (Go.Au.ntAll 6 b) ([(1 : Int), (1 : Int), (4 : Int), (4 : Int)])).getD 3 0)) (at_i (Go.Au.numA (Go.Au.ntAll 6 b) ([(1 : Int), (1 : Int), (4 : Int), (4 : Int)])) 3 (by omega))
  simp only [Nat.add_zero] at hc85
  refine T_loadGP (fun _ h => h) hc85 rfl rfl rfl rfl rfl rfl rfl ?_
  refine T_re (v' := .int .i64 ((Go.Au.be (Go.Au.six b 3) : Nat) : Int)) (congrArg (Value.int .i64) (by rw [Go.Au.numA_yes HN]; exact Go.Au.numL_get (by decide))) ?_
  refine T_pev rfl rfl rfl rfl ?_
  obtain ⟨hs89, r90, r91⟩ := (r6.mono (hl55.trans hl64))
  refine T_idxR 4 r90 rfl rfl rfl rfl rfl rfl rfl rfl rfl (by omega) (by omega) fun b86 o87 hc88 => ?_
  obtain ⟨a94, c95, hc97, hv93, r96⟩ := r91.at 4 (by omega)
  have hc98 := hc88 0 (.slice a94 ((Go.Au.ntAll 6 b).getD 4 []).length c95) (by simpa using hv93)
  simp only [Nat.add_zero] at hc98
  refine T_loadGP (fun _ h => h) hc98 rfl rfl rfl rfl rfl rfl rfl ?_
  have hb102 := (r96).lenB
  have hl103 := take_len32 (l := ((Go.Au.ntAll 6 b).getD 4 [])) (by omega)
  refine T_s2apR r96 rfl rfl rfl rfl rfl rfl (by decide) (by omega) fun b99 o100 hc101 => ?_
  refine T_loadGAP _ (fun _ h => h) hc101 rfl rfl rfl rfl rfl rfl rfl rfl (hVs hl103) ?_
  refine T_re (v' := hV (Go.Au.six b 4)) (congrArg hV (List.take_of_length_le (by omega))) ?_
  refine T_pev rfl rfl rfl rfl ?_
  obtain ⟨hs107, r108, r109⟩ := (r6.mono (hl55.trans hl64))
  refine T_idxR 5 r108 rfl rfl rfl rfl rfl rfl rfl rfl rfl (by omega) (by omega) fun b104 o105 hc106 => ?_
  obtain ⟨a112, c113, hc115, hv111, r114⟩ := r109.at 5 (by omega)
  have hc116 := hc106 0 (.slice a112 ((Go.Au.ntAll 6 b).getD 5 []).length c113) (by simpa using hv111)
  simp only [Nat.add_zero] at hc116
  refine T_loadGP (fun _ h => h) hc116 rfl rfl rfl rfl rfl rfl rfl ?_
  have hb120 := (r114).lenB
  have hl121 := take_len32 (l := ((Go.Au.ntAll 6 b).getD 5 [])) (by omega)
  refine T_s2apR r114 rfl rfl rfl rfl rfl rfl (by decide) (by omega) fun b117 o118 hc119 => ?_
  refine T_loadGAP _ (fun _ h => h) hc119 rfl rfl rfl rfl rfl rfl rfl rfl (hVs hl121) ?_
  refine T_re (v' := hV (Go.Au.six b 5)) (congrArg hV (List.take_of_length_le (by omega))) ?_
  refine T_buildS (cells := (qV ((Go.Au.be (Go.Au.six b 0) : Nat) : Int) ((Go.Au.be (Go.Au.six b 1) : Nat) : Int) ((Go.Au.be (Go.Au.six b 2) : Nat) : Int) ((Go.Au.be (Go.Au.six b 3) : Nat) : Int) (Go.Au.six b 4) (Go.Au.six b 5) : Value).cells) rfl rfl rfl rfl rfl rfl (fill_q32 HL4 HL5) rfl rfl rfl ?_
  refine T_allocS S69 (fun _ h => ((Hp.le.refl _)).trans h) rfl rfl rfl rfl rfl rfl rfl fun b122 w123 S124 => ?_
  refine T_storeFS 0 S124 (fun _ h => ((Hp.le.refl _)).trans h) rfl rfl rfl rfl rfl rfl rfl rfl rfl (qV_sz (q_len HL4 HL5 rfl)) (qV_sz (q_len HL4 HL5 rfl)) (qV_one) fun w125 S126 => ?_
  refine T_nil ?_
  refine W_seq ?_
  refine W_seq ?_
  refine W_region ?_
  refine T_loadFS 0 S126 rfl rfl rfl rfl rfl rfl rfl rfl rfl (qV_sz (q_len HL4 HL5 rfl)) ?_
  refine T_callS rfl rfl g_aumbry_layout_May rfl rfl rfl rfl ((may_ok S126.le ((Go.Au.be (Go.Au.six b 0) : Nat) : Int) ((Go.Au.be (Go.Au.six b 1) : Nat) : Int) ((Go.Au.be (Go.Au.six b 2) : Nat) : Int) ((Go.Au.be (Go.Au.six b 3) : Nat) : Int) HL4 HL5).mono ?_)
  rintro e w128 ⟨rfl, hB127⟩
  have S129 := S126.call hB127
  refine ⟨_, rfl, trivial, ?_⟩
  refine T_pev rfl rfl rfl rfl ?_
  refine T_pev rfl rfl rfl rfl ?_
  refine T_part (t := 65) rfl (List.cons_ne_nil _ _) (fun h130' => ?_) (fun h130' => ?_)
  · have h130 := of_ndec_t h130'
    refine T_no rfl rfl rfl rfl rfl rfl ?_
    refine T_no rfl rfl rfl rfl rfl rfl ?_
    refine T_no rfl rfl rfl rfl rfl rfl ?_
    refine T_no rfl rfl rfl rfl rfl rfl ?_
    refine T_no rfl rfl rfl rfl rfl rfl ?_
    refine T_pev rfl rfl rfl rfl ?_
    refine T_nil ?_
    refine W_cond_true rfl ?_
    refine W_seq ?_
    refine W_region ?_
    refine T_buildS (cells := (qz32 : Value).cells) rfl rfl rfl rfl rfl rfl rfl rfl rfl rfl ?_
    refine T_storeFS 1 S129 (fun _ _ => trivial) rfl rfl rfl rfl rfl rfl rfl rfl rfl (qV_sz (q_len List.length_replicate List.length_replicate rfl)) (qV_sz (q_len List.length_replicate List.length_replicate rfl)) (qV_one) fun w131 S132 => ?_
    refine T_pev rfl rfl rfl rfl ?_
    refine T_nil ?_
    refine W_ret ?_
    refine ⟨_, ⟨_, _, _, rfl, rfl, run_loadVarA rfl rfl (qV_sz (q_len List.length_replicate List.length_replicate rfl)) (S132.cells 1 rfl), ⟨_, _, rfl, rfl, rfl⟩⟩, ?_⟩
    have HNO : ¬ Go.Au.UebOk b := by
      intro hq
      obtain ⟨q0, q1, q2, q3, q4, q5, q6, q7, q8, q9, q10, q11, q12⟩ := hq
      have e0 : ((Go.Au.ntAll 6 b).getD 0 []).length = _ := q1
      have e1 : ((Go.Au.ntAll 6 b).getD 1 []).length = _ := q2
      have e2 : ((Go.Au.ntAll 6 b).getD 2 []).length = _ := q3
      have e3 : ((Go.Au.ntAll 6 b).getD 3 []).length = _ := q4
      have e4 : ((Go.Au.ntAll 6 b).getD 4 []).length = _ := q5
      have e5 : ((Go.Au.ntAll 6 b).getD 5 []).length = _ := q6
      first | exact h130 q0 | omega | exact h130 (numU q1 q2 q3 q4) | exact h130 (Go.Au.packU_six q0 q1 q2 q3 q4)
    exact ⟨u_no HNO, S132.below⟩
  have h130 := of_ndec_f h130'
  refine T_yes rfl rfl rfl ?_ rfl
  refine T_loadFS 0 S129 rfl rfl rfl rfl rfl rfl rfl rfl rfl (qV_sz (q_len HL4 HL5 rfl)) ?_
  refine T_yes rfl rfl rfl ?_ rfl
  refine T_callS rfl rfl g_aumbry_layout_Pack rfl rfl rfl rfl ((packU_ok S129.le (hT.mono (hl11.trans (hl55.trans hl64))) ((Go.Au.be (Go.Au.six b 0) : Nat) : Int) ((Go.Au.be (Go.Au.six b 1) : Nat) : Int) ((Go.Au.be (Go.Au.six b 2) : Nat) : Int) ((Go.Au.be (Go.Au.six b 3) : Nat) : Int) (s := (Go.Au.six b 4)) (t := (Go.Au.six b 5)) HL4 HL5 (by omega) (by omega) (by omega) (by omega)).mono ?_)
  rintro e w138 ⟨a133, c134, hc135, rfl, ho136, hB137⟩
  have hl139 := Go.Au.packU_len ((Go.Au.be (Go.Au.six b 0) : Nat) : Int) ((Go.Au.be (Go.Au.six b 1) : Nat) : Int) ((Go.Au.be (Go.Au.six b 2) : Nat) : Int) ((Go.Au.be (Go.Au.six b 3) : Nat) : Int) (s := (Go.Au.six b 4)) (t := (Go.Au.six b 5)) (by have := HL4; omega) (by have := HL5; omega)
  have S140 := S129.own hB137 ho136
  refine ⟨_, rfl, trivial, ?_⟩
  refine T_yes rfl rfl rfl ?_ rfl
  refine T_pev rfl rfl rfl rfl ?_
  refine T_yes rfl rfl rfl ?_ rfl
  obtain ⟨G142, hl143, S141, r144⟩ := S140.stillRow 0 rfl
  refine T_callS rfl rfl g_bytes_Equal rfl rfl rfl rfl ((bytesEqual_ok S141.le r144 (hv.mono (hl11.trans (hl55.trans (hl64.trans hl143))))).mono ?_)
  rintro e w146 ⟨rfl, hB145⟩
  have S147 := S141.call hB145
  refine ⟨_, rfl, trivial, ?_⟩
  refine T_yes rfl rfl rfl ?_ rfl
  refine T_pev rfl rfl rfl rfl ?_
  refine T_pev rfl rfl rfl rfl ?_
  refine T_nil ?_
  refine W_cond_not rfl (fun h148 => ?_) (fun h148 => ?_)
  · refine W_seq ?_
    refine W_region ?_
    refine T_buildS (cells := (qz32 : Value).cells) rfl rfl rfl rfl rfl rfl rfl rfl rfl rfl ?_
    refine T_storeFS 1 S147 (fun _ _ => trivial) rfl rfl rfl rfl rfl rfl rfl rfl rfl (qV_sz (q_len List.length_replicate List.length_replicate rfl)) (qV_sz (q_len List.length_replicate List.length_replicate rfl)) (qV_one) fun w149 S150 => ?_
    refine T_pev rfl rfl rfl rfl ?_
    refine T_nil ?_
    refine W_ret ?_
    refine ⟨_, ⟨_, _, _, rfl, rfl, run_loadVarA rfl rfl (qV_sz (q_len List.length_replicate List.length_replicate rfl)) (S150.cells 1 rfl), ⟨_, _, rfl, rfl, rfl⟩⟩, ?_⟩
    have HNO : ¬ Go.Au.UebOk b := by
      intro hq
      obtain ⟨q0, q1, q2, q3, q4, q5, q6, q7, q8, q9, q10, q11, q12⟩ := hq
      have e0 : ((Go.Au.ntAll 6 b).getD 0 []).length = _ := q1
      have e1 : ((Go.Au.ntAll 6 b).getD 1 []).length = _ := q2
      have e2 : ((Go.Au.ntAll 6 b).getD 2 []).length = _ := q3
      have e3 : ((Go.Au.ntAll 6 b).getD 3 []).length = _ := q4
      have e4 : ((Go.Au.ntAll 6 b).getD 4 []).length = _ := q5
      have e5 : ((Go.Au.ntAll 6 b).getD 5 []).length = _ := q6
      first | exact h148 q0 | omega | exact h148 (numU q1 q2 q3 q4) | exact h148 (Go.Au.packU_six q0 q1 q2 q3 q4)
    exact ⟨u_no HNO, S150.below⟩
  refine W_skip ?_
  refine W_seq ?_
  refine W_region ?_
  refine T_loadFS 0 S147 rfl rfl rfl rfl rfl rfl rfl rfl rfl (qV_sz (q_len HL4 HL5 rfl)) ?_
  refine T_storeFS 1 S147 (fun _ _ => trivial) rfl rfl rfl rfl rfl rfl rfl rfl rfl (qV_sz (q_len HL4 HL5 rfl)) (qV_sz (q_len HL4 HL5 rfl)) (qV_one) fun w151 S152 => ?_
  refine T_pev rfl rfl rfl rfl ?_
  refine T_nil ?_
  refine W_ret ?_
  refine ⟨_, ⟨_, _, _, rfl, rfl, run_loadVarA rfl rfl (qV_sz (q_len HL4 HL5 rfl)) (S152.cells 1 rfl), ⟨_, _, rfl, rfl, rfl⟩⟩, ?_⟩
  exact ⟨u_yes ⟨HA, HQ0, HQ1, HQ2, HQ3, HL4, HL5, by omega, by omega, by omega, by omega, by omega, by omega⟩, S152.below⟩


theorem unpackV_ok {H : Hp} {w : World} (hH : H.le (hw w)) (_hT : Tabs H) {b : List UInt8} {aa0 : Option Addr} {nn0 cc0 : Nat} (hv : Rd H (.slice aa0 nn0 cc0) nn0 1 (b.map bV)) (hb : b.length ≤ 10000) :
    Calls Tryd.prog 23 #[.slice aa0 nn0 cc0] w fun e w' => e = .returned (.tuple #[qV (Go.Au.vN b 0) (Go.Au.vN b 1) (Go.Au.vN b 2) (Go.Au.vN b 3) (Go.Au.vS b) (Go.Au.vR b), .bool (decide (Go.Au.VerOk b))]) ∧ Below w.heap.size w w' := by
  obtain rfl : nn0 = b.length := hv.lenB
  have hvcap : b.length ≤ cc0 := hv.capOf
  refine enter1 _ Tryd.func23 rfl Tryd.ntmps23 Tryd.results23 rfl ?_
  have S0 := St.start w hH
  refine W_seq ?_
  refine W_region ?_
  refine T_allocS S0 (fun _ _ => trivial) rfl rfl rfl rfl rfl rfl rfl fun b1 w2 S3 => ?_
  refine T_pev rfl rfl rfl rfl ?_
  refine T_nil ?_
  refine W_seq ?_
  refine W_region ?_
  refine T_pev rfl rfl rfl rfl ?_
  refine T_callS rfl rfl g_aumbry_code_TakeNets rfl rfl rfl rfl ((takeNets_ok S3.le hv 6 (by omega) (by omega)).mono ?_)
  rintro e w8 ⟨a4, c5, rfl, r6, hB7⟩
  obtain ⟨G10, eG12⟩ : ∃ G, G = F.ext H w2.heap.size w8 := ⟨_, rfl⟩
  obtain ⟨hl11, S9⟩ := S3.ext hB7
  rw [← eG12] at hl11 S9 r6
  refine ⟨_, rfl, trivial, ?_⟩
  refine T_pev rfl rfl rfl rfl ?_
  refine T_pev rfl rfl rfl rfl ?_
  refine T_pev rfl rfl rfl rfl ?_
  refine T_pev rfl rfl rfl rfl ?_
  refine T_pev rfl rfl rfl rfl ?_
  refine T_nil ?_
  refine W_seq ?_
  refine W_seq ?_
  refine W_region ?_
  refine T_pev rfl rfl rfl rfl ?_
  refine T_pev rfl rfl rfl rfl ?_
  refine T_pev rfl rfl rfl rfl ?_
  refine T_part (t := 15) rfl (List.cons_ne_nil _ _) (fun h13' => ?_) (fun h13' => ?_)
  · have h13 := of_ndec_t h13'
    refine T_no rfl rfl rfl rfl rfl rfl ?_
    refine T_no rfl rfl rfl rfl rfl rfl ?_
    refine T_no rfl rfl rfl rfl rfl rfl ?_
    refine T_no rfl rfl rfl rfl rfl rfl ?_
    refine T_no rfl rfl rfl rfl rfl rfl ?_
    refine T_pev rfl rfl rfl rfl ?_
    refine T_pev rfl rfl rfl rfl ?_
    refine T_no rfl rfl rfl rfl rfl rfl ?_
    refine T_no rfl rfl rfl rfl rfl rfl ?_
    refine T_no rfl rfl rfl rfl rfl rfl ?_
    refine T_no rfl rfl rfl rfl rfl rfl ?_
    refine T_no rfl rfl rfl rfl rfl rfl ?_
    refine T_pev rfl rfl rfl rfl ?_
    refine T_nil ?_
    refine W_cond_true rfl ?_
    refine W_seq ?_
    refine W_region ?_
    refine T_buildS (cells := (qz16 : Value).cells) rfl rfl rfl rfl rfl rfl rfl rfl rfl rfl ?_
    refine T_storeFS 0 S9 (fun _ _ => trivial) rfl rfl rfl rfl rfl rfl rfl rfl rfl (qV_sz (q_len List.length_replicate List.length_replicate rfl)) (qV_sz (q_len List.length_replicate List.length_replicate rfl)) (qV_one) fun w14 S15 => ?_
    refine T_pev rfl rfl rfl rfl ?_
    refine T_nil ?_
    refine W_ret ?_
    refine ⟨_, ⟨_, _, _, rfl, rfl, run_loadVarA rfl rfl (qV_sz (q_len List.length_replicate List.length_replicate rfl)) (S15.cells 0 rfl), ⟨_, _, rfl, rfl, rfl⟩⟩, ?_⟩
    have HNO : ¬ Go.Au.VerOk b := by
      intro hq
      obtain ⟨q0, q1, q2, q3, q4, q5, q6, q7, q8, q9, q10, q11, q12⟩ := hq
      have e0 : ((Go.Au.ntAll 6 b).getD 0 []).length = _ := q1
      have e1 : ((Go.Au.ntAll 6 b).getD 1 []).length = _ := q2
      have e2 : ((Go.Au.ntAll 6 b).getD 2 []).length = _ := q3
      have e3 : ((Go.Au.ntAll 6 b).getD 3 []).length = _ := q4
      have e4 : ((Go.Au.ntAll 6 b).getD 4 []).length = _ := q5
      have e5 : ((Go.Au.ntAll 6 b).getD 5 []).length = _ := q6
      first | exact h13 q0 | omega | exact h13 (numV q1 q2 q3 q4) | exact h13 (Go.Au.packU_six q0 q1 q2 q3 q4)
    exact ⟨v_no HNO, S15.below⟩
  have h13 := of_ndec_f h13'
  refine T_yes rfl rfl rfl ?_ rfl
  have HA := h13
  have hn6 := Go.Au.ntAll_len HA
  refine T_pev rfl rfl rfl rfl ?_
  refine T_yes rfl rfl rfl ?_ rfl
  obtain ⟨hs19, r20, r21⟩ := (id r6)
  refine T_idxR 4 r20 rfl rfl rfl rfl rfl rfl rfl rfl rfl (by omega) (by omega) fun b16 o17 hc18 => ?_
  obtain ⟨a24, c25, hc27, hv23, r26⟩ := r21.at 4 (by omega)
  have hc28 := hc18 0 (.slice a24 ((Go.Au.ntAll 6 b).getD 4 []).length c25) (by simpa using hv23)
  simp only [Nat.add_zero] at hc28
  refine T_yes rfl rfl rfl ?_ rfl
  refine T_loadG S9 hc28 rfl rfl rfl rfl rfl rfl rfl ?_
  refine T_yes rfl rfl rfl ?_ rfl
  refine T_pev rfl rfl rfl rfl ?_
  refine T_yes rfl rfl rfl ?_ rfl
  refine T_pev rfl rfl rfl rfl ?_
  refine T_pev rfl rfl rfl rfl ?_
  refine T_pev rfl rfl rfl rfl ?_
  refine T_part (t := 22) rfl (List.cons_ne_nil _ _) (fun h29' => ?_) (fun h29' => ?_)
  · have h29 := of_ndec_t h29'
    refine T_no rfl rfl rfl rfl rfl rfl ?_
    refine T_no rfl rfl rfl rfl rfl rfl ?_
    refine T_no rfl rfl rfl rfl rfl rfl ?_
    refine T_no rfl rfl rfl rfl rfl rfl ?_
    refine T_no rfl rfl rfl rfl rfl rfl ?_
    refine T_pev rfl rfl rfl rfl ?_
    refine T_nil ?_
    refine W_cond_true rfl ?_
    refine W_seq ?_
    refine W_region ?_
    refine T_buildS (cells := (qz16 : Value).cells) rfl rfl rfl rfl rfl rfl rfl rfl rfl rfl ?_
    refine T_storeFS 0 S9 (fun _ _ => trivial) rfl rfl rfl rfl rfl rfl rfl rfl rfl (qV_sz (q_len List.length_replicate List.length_replicate rfl)) (qV_sz (q_len List.length_replicate List.length_replicate rfl)) (qV_one) fun w30 S31 => ?_
    refine T_pev rfl rfl rfl rfl ?_
    refine T_nil ?_
    refine W_ret ?_
    refine ⟨_, ⟨_, _, _, rfl, rfl, run_loadVarA rfl rfl (qV_sz (q_len List.length_replicate List.length_replicate rfl)) (S31.cells 0 rfl), ⟨_, _, rfl, rfl, rfl⟩⟩, ?_⟩
    have HNO : ¬ Go.Au.VerOk b := by
      intro hq
      obtain ⟨q0, q1, q2, q3, q4, q5, q6, q7, q8, q9, q10, q11, q12⟩ := hq
      have e0 : ((Go.Au.ntAll 6 b).getD 0 []).length = _ := q1
      have e1 : ((Go.Au.ntAll 6 b).getD 1 []).length = _ := q2
      have e2 : ((Go.Au.ntAll 6 b).getD 2 []).length = _ := q3
      have e3 : ((Go.Au.ntAll 6 b).getD 3 []).length = _ := q4
      have e4 : ((Go.Au.ntAll 6 b).getD 4 []).length = _ := q5
      have e5 : ((Go.Au.ntAll 6 b).getD 5 []).length = _ := q6
      first | exact h29 q0 | omega | exact h29 (numV q1 q2 q3 q4) | exact h29 (Go.Au.packU_six q0 q1 q2 q3 q4)
    exact ⟨v_no HNO, S31.below⟩
  have h29 := of_ndec_f h29'
  refine T_yes rfl rfl rfl ?_ rfl
  refine T_pev rfl rfl rfl rfl ?_
  refine T_yes rfl rfl rfl ?_ rfl
  obtain ⟨hs35, r36, r37⟩ := (id r6)
  refine T_idxR 5 r36 rfl rfl rfl rfl rfl rfl rfl rfl rfl (by omega) (by omega) fun b32 o33 hc34 => ?_
  obtain ⟨a40, c41, hc43, hv39, r42⟩ := r37.at 5 (by omega)
  have hc44 := hc34 0 (.slice a40 ((Go.Au.ntAll 6 b).getD 5 []).length c41) (by simpa using hv39)
  simp only [Nat.add_zero] at hc44
  refine T_yes rfl rfl rfl ?_ rfl
  refine T_loadG S9 hc44 rfl rfl rfl rfl rfl rfl rfl ?_
  refine T_yes rfl rfl rfl ?_ rfl
  refine T_pev rfl rfl rfl rfl ?_
  refine T_yes rfl rfl rfl ?_ rfl
  refine T_pev rfl rfl rfl rfl ?_
  refine T_pev rfl rfl rfl rfl ?_
  refine T_nil ?_
  refine W_cond_not rfl (fun h45 => ?_) (fun h45 => ?_)
  · refine W_seq ?_
    refine W_region ?_
    refine T_buildS (cells := (qz16 : Value).cells) rfl rfl rfl rfl rfl rfl rfl rfl rfl rfl ?_
    refine T_storeFS 0 S9 (fun _ _ => trivial) rfl rfl rfl rfl rfl rfl rfl rfl rfl (qV_sz (q_len List.length_replicate List.length_replicate rfl)) (qV_sz (q_len List.length_replicate List.length_replicate rfl)) (qV_one) fun w46 S47 => ?_
    refine T_pev rfl rfl rfl rfl ?_
    refine T_nil ?_
    refine W_ret ?_
    refine ⟨_, ⟨_, _, _, rfl, rfl, run_loadVarA rfl rfl (qV_sz (q_len List.length_replicate List.length_replicate rfl)) (S47.cells 0 rfl), ⟨_, _, rfl, rfl, rfl⟩⟩, ?_⟩
    have HNO : ¬ Go.Au.VerOk b := by
      intro hq
      obtain ⟨q0, q1, q2, q3, q4, q5, q6, q7, q8, q9, q10, q11, q12⟩ := hq
      have e0 : ((Go.Au.ntAll 6 b).getD 0 []).length = _ := q1
      have e1 : ((Go.Au.ntAll 6 b).getD 1 []).length = _ := q2
      have e2 : ((Go.Au.ntAll 6 b).getD 2 []).length = _ := q3
      have e3 : ((Go.Au.ntAll 6 b).getD 3 []).length = _ := q4
      have e4 : ((Go.Au.ntAll 6 b).getD 4 []).length = _ := q5
      have e5 : ((Go.Au.ntAll 6 b).getD 5 []).length = _ := q6
      first | exact h45 q0 | omega | exact h45 (numV q1 q2 q3 q4) | exact h45 (Go.Au.packU_six q0 q1 q2 q3 q4)
    exact ⟨v_no HNO, S47.below⟩
  refine W_skip ?_
  refine W_seq ?_
  refine W_region ?_
  refine T_pev rfl rfl rfl rfl ?_
  refine T_litS ([(4 : Int), (1 : Int), (1 : Int), (4 : Int)].map iV) rfl rfl rfl rfl rfl rfl rfl rfl rfl rfl rfl rfl rfl (by simp [Value.cells]; rfl) rfl fun a48 w49 hB50 ho51 => ?_
  have S52 := S9.own hB50 ho51
  refine ⟨trivial, ?_⟩
  obtain ⟨G54, hl55, S53, r56⟩ := S52.stillRow 0 rfl
  refine T_callS rfl rfl g_aumbry_layout_nums rfl rfl rfl rfl ((nums_ok S53.le (l := (Go.Au.ntAll 6 b)) (m := ([(4 : Int), (1 : Int), (1 : Int), (4 : Int)])) (r6.mono hl55) r56 (by show 4 ≤ _; omega) (by show 4 ≤ 10; omega) w7v (fun x hx => by have := Go.Au.ntAll_el 6 b x hx; omega)).mono ?_)
  rintro e w61 ⟨a57, c58, rfl, r59, hB60⟩
  obtain ⟨G63, eG65⟩ : ∃ G, G = F.ext G54 w49.heap.size w61 := ⟨_, rfl⟩
  obtain ⟨hl64, S62⟩ := S53.ext hB60
  rw [← eG65] at hl64 S62 r59
  refine ⟨_, rfl, trivial, ?_⟩
  refine T_pev rfl rfl rfl rfl ?_
  refine T_pev rfl rfl rfl rfl ?_
  refine T_pev rfl rfl rfl rfl ?_
  refine T_pev rfl rfl rfl rfl ?_
  refine T_pev rfl rfl rfl rfl ?_
  refine T_nil ?_
  refine W_seq ?_
  refine W_seq ?_
  refine W_region ?_
  refine T_pev rfl rfl rfl rfl ?_
  refine T_pev rfl rfl rfl rfl ?_
  refine T_nil ?_
  refine W_cond_not rfl (fun h66 => ?_) (fun h66 => ?_)
  · refine W_seq ?_
    refine W_region ?_
    refine T_buildS (cells := (qz16 : Value).cells) rfl rfl rfl rfl rfl rfl rfl rfl rfl rfl ?_
    refine T_storeFS 0 S62 (fun _ _ => trivial) rfl rfl rfl rfl rfl rfl rfl rfl rfl (qV_sz (q_len List.length_replicate List.length_replicate rfl)) (qV_sz (q_len List.length_replicate List.length_replicate rfl)) (qV_one) fun w67 S68 => ?_
    refine T_pev rfl rfl rfl rfl ?_
    refine T_nil ?_
    refine W_ret ?_
    refine ⟨_, ⟨_, _, _, rfl, rfl, run_loadVarA rfl rfl (qV_sz (q_len List.length_replicate List.length_replicate rfl)) (S68.cells 0 rfl), ⟨_, _, rfl, rfl, rfl⟩⟩, ?_⟩
    have HNO : ¬ Go.Au.VerOk b := by
      intro hq
      obtain ⟨q0, q1, q2, q3, q4, q5, q6, q7, q8, q9, q10, q11, q12⟩ := hq
      have e0 : ((Go.Au.ntAll 6 b).getD 0 []).length = _ := q1
      have e1 : ((Go.Au.ntAll 6 b).getD 1 []).length = _ := q2
      have e2 : ((Go.Au.ntAll 6 b).getD 2 []).length = _ := q3
      have e3 : ((Go.Au.ntAll 6 b).getD 3 []).length = _ := q4
      have e4 : ((Go.Au.ntAll 6 b).getD 4 []).length = _ := q5
      have e5 : ((Go.Au.ntAll 6 b).getD 5 []).length = _ := q6
      first | exact h66 q0 | omega | exact h66 (numV q1 q2 q3 q4) | exact h66 (Go.Au.packU_six q0 q1 q2 q3 q4)
    exact ⟨v_no HNO, S68.below⟩
  refine W_skip ?_
  refine W_seq ?_
  refine W_plan (planF Tryd.prog G63 [41, 44, 47, 50, 53, 54, 55, 58, 59, 60]) rfl (by kernel_rfl) S62.le ?_
  have S69 := S62.drew
  refine T_pev rfl rfl rfl rfl ?_
  have HN := h66
  have hn4 : (Go.Au.numA (Go.Au.ntAll 6 b) [(4 : Int), (1 : Int), (1 : Int), (4 : Int)]).length = 4 := by rw [Go.Au.numA_yes HN, Go.Au.numL_len]; rfl
  have HQ0 : (Go.Au.six b 0).length = 4 := by have h : (((Go.Au.ntAll 6 b).getD 0 []).length : Int) = 4 := HN 0 (by decide); show ((Go.Au.ntAll 6 b).getD 0 []).length = _; omega
  have HQ1 : (Go.Au.six b 1).length = 1 := by have h : (((Go.Au.ntAll 6 b).getD 1 []).length : Int) = 1 := HN 1 (by decide); show ((Go.Au.ntAll 6 b).getD 1 []).length = _; omega
  have HQ2 : (Go.Au.six b 2).length = 1 := by have h : (((Go.Au.ntAll 6 b).getD 2 []).length : Int) = 1 := HN 2 (by decide); show ((Go.Au.ntAll 6 b).getD 2 []).length = _; omega
  have HQ3 : (Go.Au.six b 3).length = 4 := by have h : (((Go.Au.ntAll 6 b).getD 3 []).length : Int) = 4 := HN 3 (by decide); show ((Go.Au.ntAll 6 b).getD 3 []).length = _; omega
  have HB0 := Go.Au.be_w HQ0
  have HB1 := Go.Au.be_w HQ1
  have HB2 := Go.Au.be_w HQ2
  have HB3 := Go.Au.be_w HQ3
  have HL4 : (Go.Au.six b 4).length = 16 := by show ((Go.Au.ntAll 6 b).getD 4 []).length = _; omega
  have HL5 : (Go.Au.six b 5).length = 32 := by show ((Go.Au.ntAll 6 b).getD 5 []).length = _; omega
  refine T_idxR 0 r59 rfl rfl rfl rfl rfl rfl rfl rfl rfl (by omega) (by omega) fun b70 o71 hc72 => ?_
  have hc73 := hc72 0 (.int .i64 ((Go.Au.numA (Go.Au.ntAll 6 b) ([(4 : Int), (1 : Int), (1 : Int), (4 : Int)])).getD 0 0)) (at_i (Go.Au.numA (Go.Au.ntAll 6 b) ([(4 : Int), (1 : Int), (1 : Int), (4 : Int)])) 0 (by omega))
  simp only [Nat.add_zero] at hc73
  refine T_loadGP (fun _ h => h) hc73 rfl rfl rfl rfl rfl rfl rfl ?_
  refine T_re (v' := .int .i64 ((Go.Au.be (Go.Au.six b 0) : Nat) : Int)) (congrArg (Value.int .i64) (by rw [Go.Au.numA_yes HN]; exact Go.Au.numL_get (by decide))) ?_
  refine T_pev rfl rfl rfl rfl ?_
  refine T_idxR 1 r59 rfl rfl rfl rfl rfl rfl rfl rfl rfl (by omega) (by omega) fun b74 o75 hc76 => ?_
  have hc77 := hc76 0 (.int .i64 ((Go.Au.numA (Go.Au.ntAll 6 b) ([(4 : Int), (1 : Int), (1 : Int), (4 : Int)])).getD 1 0)) (at_i (Go.Au.numA (Go.Au.ntAll 6 b) ([(4 : Int), (1 : Int), (1 : Int), (4 : Int)])) 1 (by omega))
  simp only [Nat.add_zero] at hc77
  refine T_loadGP (fun _ h => h) hc77 rfl rfl rfl rfl rfl rfl rfl ?_
  refine T_re (v' := .int .i64 ((Go.Au.be (Go.Au.six b 1) : Nat) : Int)) (congrArg (Value.int .i64) (by rw [Go.Au.numA_yes HN]; exact Go.Au.numL_get (by decide))) ?_
  refine T_pev rfl rfl rfl rfl ?_
  refine T_idxR 2 r59 rfl rfl rfl rfl rfl rfl rfl rfl rfl (by omega) (by omega) fun b78 o79 hc80 => ?_
  have hc81 := hc80 0 (.int .i64 ((Go.Au.numA (Go.Au.ntAll 6 b) ([(4 : Int), (1 : Int), (1 : Int), (4 : Int)])).getD 2 0)) (at_i (Go.Au.numA (Go.Au.ntAll 6 b) ([(4 : Int), (1 : Int), (1 : Int), (4 : Int)])) 2 (by omega))
  simp only [Nat.add_zero] at hc81
  refine T_loadGP (fun _ h => h) hc81 rfl rfl rfl rfl rfl rfl rfl ?_
  refine T_re (v' := .int .i64 ((Go.Au.be (Go.Au.six b 2) : Nat) : Int)) (congrArg (Value.int .i64) (by rw [Go.Au.numA_yes HN]; exact Go.Au.numL_get (by decide))) ?_
  refine T_pev rfl rfl rfl rfl ?_
  refine T_idxR 3 r59 rfl rfl rfl rfl rfl rfl rfl rfl rfl (by omega) (by omega) fun b82 o83 hc84 => ?_
  have hc85 := hc84 0 (.int .i64 ((Go.Au.numA (Go.Au.ntAll 6 b) ([(4 : Int), (1 : Int), (1 : Int), (4 : Int)])).getD 3 0)) (at_i (Go.Au.numA (Go.Au.ntAll 6 b) ([(4 : Int), (1 : Int), (1 : Int), (4 : Int)])) 3 (by omega))
  simp only [Nat.add_zero] at hc85
  refine T_loadGP (fun _ h => h) hc85 rfl rfl rfl rfl rfl rfl rfl ?_
  refine T_re (v' := .int .i64 ((Go.Au.be (Go.Au.six b 3) : Nat) : Int)) (congrArg (Value.int .i64) (by rw [Go.Au.numA_yes HN]; exact Go.Au.numL_get (by decide))) ?_
  refine T_pev rfl rfl rfl rfl ?_
  obtain ⟨hs89, r90, r91⟩ := (r6.mono (hl55.trans hl64))
  refine T_idxR 4 r90 rfl rfl rfl rfl rfl rfl rfl rfl rfl (by omega) (by omega) fun b86 o87 hc88 => ?_
  obtain ⟨a94, c95, hc97, hv93, r96⟩ := r91.at 4 (by omega)
  have hc98 := hc88 0 (.slice a94 ((Go.Au.ntAll 6 b).getD 4 []).length c95) (by simpa using hv93)
  simp only [Nat.add_zero] at hc98
  refine T_loadGP (fun _ h => h) hc98 rfl rfl rfl rfl rfl rfl rfl ?_
  have hb102 := (r96).lenB
  have hl103 := take_len16 (l := ((Go.Au.ntAll 6 b).getD 4 [])) (by omega)
  refine T_s2apR r96 rfl rfl rfl rfl rfl rfl (by decide) (by omega) fun b99 o100 hc101 => ?_
  refine T_loadGAP _ (fun _ h => h) hc101 rfl rfl rfl rfl rfl rfl rfl rfl (hVs hl103) ?_
  refine T_re (v' := hV (Go.Au.six b 4)) (congrArg hV (List.take_of_length_le (by omega))) ?_
  refine T_pev rfl rfl rfl rfl ?_
  obtain ⟨hs107, r108, r109⟩ := (r6.mono (hl55.trans hl64))
  refine T_idxR 5 r108 rfl rfl rfl rfl rfl rfl rfl rfl rfl (by omega) (by omega) fun b104 o105 hc106 => ?_
  obtain ⟨a112, c113, hc115, hv111, r114⟩ := r109.at 5 (by omega)
  have hc116 := hc106 0 (.slice a112 ((Go.Au.ntAll 6 b).getD 5 []).length c113) (by simpa using hv111)
  simp only [Nat.add_zero] at hc116
  refine T_loadGP (fun _ h => h) hc116 rfl rfl rfl rfl rfl rfl rfl ?_
  have hb120 := (r114).lenB
  have hl121 := take_len32 (l := ((Go.Au.ntAll 6 b).getD 5 [])) (by omega)
  refine T_s2apR r114 rfl rfl rfl rfl rfl rfl (by decide) (by omega) fun b117 o118 hc119 => ?_
  refine T_loadGAP _ (fun _ h => h) hc119 rfl rfl rfl rfl rfl rfl rfl rfl (hVs hl121) ?_
  refine T_re (v' := hV (Go.Au.six b 5)) (congrArg hV (List.take_of_length_le (by omega))) ?_
  refine T_buildS (cells := (qV ((Go.Au.be (Go.Au.six b 0) : Nat) : Int) ((Go.Au.be (Go.Au.six b 1) : Nat) : Int) ((Go.Au.be (Go.Au.six b 2) : Nat) : Int) ((Go.Au.be (Go.Au.six b 3) : Nat) : Int) (Go.Au.six b 4) (Go.Au.six b 5) : Value).cells) rfl rfl rfl rfl rfl rfl (fill_q16 HL4 HL5) rfl rfl rfl ?_
  refine T_allocS S69 (fun _ h => ((Hp.le.refl _)).trans h) rfl rfl rfl rfl rfl rfl rfl fun b122 w123 S124 => ?_
  refine T_storeFS 0 S124 (fun _ h => ((Hp.le.refl _)).trans h) rfl rfl rfl rfl rfl rfl rfl rfl rfl (qV_sz (q_len HL4 HL5 rfl)) (qV_sz (q_len HL4 HL5 rfl)) (qV_one) fun w125 S126 => ?_
  refine T_nil ?_
  refine W_seq ?_
  refine W_seq ?_
  refine W_region ?_
  refine T_fldm 0 rfl rfl rfl rfl rfl rfl (by decide) rfl rfl rfl ?_
  refine T_loadS 0 0 S126 rfl rfl rfl rfl rfl rfl rfl rfl rfl qV_0 ?_
  refine T_pev rfl rfl rfl rfl ?_
  refine T_pev rfl rfl rfl rfl ?_
  refine T_part (t := 65) rfl (List.cons_ne_nil _ _) (fun h127' => ?_) (fun h127' => ?_)
  · have h127 := of_decide_eq_true h127'
    refine T_no rfl rfl rfl rfl rfl rfl ?_
    refine T_no rfl rfl rfl rfl rfl rfl ?_
    refine T_no rfl rfl rfl rfl rfl rfl ?_
    refine T_pev rfl rfl rfl rfl ?_
    refine T_pev rfl rfl rfl rfl ?_
    refine T_no rfl rfl rfl rfl rfl rfl ?_
    refine T_no rfl rfl rfl rfl rfl rfl ?_
    refine T_no rfl rfl rfl rfl rfl rfl ?_
    refine T_no rfl rfl rfl rfl rfl rfl ?_
    refine T_no rfl rfl rfl rfl rfl rfl ?_
    refine T_no rfl rfl rfl rfl rfl rfl ?_
    refine T_pev rfl rfl rfl rfl ?_
    refine T_pev rfl rfl rfl rfl ?_
    refine T_no rfl rfl rfl rfl rfl rfl ?_
    refine T_no rfl rfl rfl rfl rfl rfl ?_
    refine T_no rfl rfl rfl rfl rfl rfl ?_
    refine T_pev rfl rfl rfl rfl ?_
    refine T_nil ?_
    refine W_cond_true rfl ?_
    refine W_seq ?_
    refine W_region ?_
    refine T_buildS (cells := (qz16 : Value).cells) rfl rfl rfl rfl rfl rfl rfl rfl rfl rfl ?_
    refine T_storeFS 1 S126 (fun _ _ => trivial) rfl rfl rfl rfl rfl rfl rfl rfl rfl (qV_sz (q_len List.length_replicate List.length_replicate rfl)) (qV_sz (q_len List.length_replicate List.length_replicate rfl)) (qV_one) fun w128 S129 => ?_
    refine T_pev rfl rfl rfl rfl ?_
    refine T_nil ?_
    refine W_ret ?_
    refine ⟨_, ⟨_, _, _, rfl, rfl, run_loadVarA rfl rfl (qV_sz (q_len List.length_replicate List.length_replicate rfl)) (S129.cells 1 rfl), ⟨_, _, rfl, rfl, rfl⟩⟩, ?_⟩
    have HNO : ¬ Go.Au.VerOk b := by
      intro hq
      obtain ⟨q0, q1, q2, q3, q4, q5, q6, q7, q8, q9, q10, q11, q12⟩ := hq
      have e0 : ((Go.Au.ntAll 6 b).getD 0 []).length = _ := q1
      have e1 : ((Go.Au.ntAll 6 b).getD 1 []).length = _ := q2
      have e2 : ((Go.Au.ntAll 6 b).getD 2 []).length = _ := q3
      have e3 : ((Go.Au.ntAll 6 b).getD 3 []).length = _ := q4
      have e4 : ((Go.Au.ntAll 6 b).getD 4 []).length = _ := q5
      have e5 : ((Go.Au.ntAll 6 b).getD 5 []).length = _ := q6
      first | exact h127 q0 | omega | exact h127 (numV q1 q2 q3 q4) | exact h127 (Go.Au.packU_six q0 q1 q2 q3 q4)
    exact ⟨v_no HNO, S129.below⟩
  have h127 := of_decide_eq_false h127'
  refine T_yes rfl rfl rfl ?_ rfl
  refine T_fldm 0 rfl rfl rfl rfl rfl rfl (by decide) rfl rfl rfl ?_
  refine T_yes rfl rfl rfl ?_ rfl
  refine T_loadS 0 0 S126 rfl rfl rfl rfl rfl rfl rfl rfl rfl qV_0 ?_
  refine T_yes rfl rfl rfl ?_ rfl
  refine T_pev rfl rfl rfl rfl ?_
  refine T_pev rfl rfl rfl rfl ?_
  refine T_pev rfl rfl rfl rfl ?_
  refine T_part (t := 70) rfl (List.cons_ne_nil _ _) (fun h130' => ?_) (fun h130' => ?_)
  · have h130 := of_decide_eq_true h130'
    refine T_no rfl rfl rfl rfl rfl rfl ?_
    refine T_no rfl rfl rfl rfl rfl rfl ?_
    refine T_no rfl rfl rfl rfl rfl rfl ?_
    refine T_no rfl rfl rfl rfl rfl rfl ?_
    refine T_no rfl rfl rfl rfl rfl rfl ?_
    refine T_no rfl rfl rfl rfl rfl rfl ?_
    refine T_pev rfl rfl rfl rfl ?_
    refine T_pev rfl rfl rfl rfl ?_
    refine T_no rfl rfl rfl rfl rfl rfl ?_
    refine T_no rfl rfl rfl rfl rfl rfl ?_
    refine T_no rfl rfl rfl rfl rfl rfl ?_
    refine T_pev rfl rfl rfl rfl ?_
    refine T_nil ?_
    refine W_cond_true rfl ?_
    refine W_seq ?_
    refine W_region ?_
    refine T_buildS (cells := (qz16 : Value).cells) rfl rfl rfl rfl rfl rfl rfl rfl rfl rfl ?_
    refine T_storeFS 1 S126 (fun _ _ => trivial) rfl rfl rfl rfl rfl rfl rfl rfl rfl (qV_sz (q_len List.length_replicate List.length_replicate rfl)) (qV_sz (q_len List.length_replicate List.length_replicate rfl)) (qV_one) fun w131 S132 => ?_
    refine T_pev rfl rfl rfl rfl ?_
    refine T_nil ?_
    refine W_ret ?_
    refine ⟨_, ⟨_, _, _, rfl, rfl, run_loadVarA rfl rfl (qV_sz (q_len List.length_replicate List.length_replicate rfl)) (S132.cells 1 rfl), ⟨_, _, rfl, rfl, rfl⟩⟩, ?_⟩
    have HNO : ¬ Go.Au.VerOk b := by
      intro hq
      obtain ⟨q0, q1, q2, q3, q4, q5, q6, q7, q8, q9, q10, q11, q12⟩ := hq
      have e0 : ((Go.Au.ntAll 6 b).getD 0 []).length = _ := q1
      have e1 : ((Go.Au.ntAll 6 b).getD 1 []).length = _ := q2
      have e2 : ((Go.Au.ntAll 6 b).getD 2 []).length = _ := q3
      have e3 : ((Go.Au.ntAll 6 b).getD 3 []).length = _ := q4
      have e4 : ((Go.Au.ntAll 6 b).getD 4 []).length = _ := q5
      have e5 : ((Go.Au.ntAll 6 b).getD 5 []).length = _ := q6
      first | exact h130 q0 | omega | exact h130 (numV q1 q2 q3 q4) | exact h130 (Go.Au.packU_six q0 q1 q2 q3 q4)
    exact ⟨v_no HNO, S132.below⟩
  have h130 := of_decide_eq_false h130'
  refine T_yes rfl rfl rfl ?_ rfl
  refine T_fldm 1 rfl rfl rfl rfl rfl rfl (by decide) rfl rfl rfl ?_
  refine T_yes rfl rfl rfl ?_ rfl
  refine T_loadS 0 1 S126 rfl rfl rfl rfl rfl rfl rfl rfl rfl qV_1 ?_
  refine T_yes rfl rfl rfl ?_ rfl
  refine T_fldm 2 rfl rfl rfl rfl rfl rfl (by decide) rfl rfl rfl ?_
  refine T_yes rfl rfl rfl ?_ rfl
  refine T_loadS 0 2 S126 rfl rfl rfl rfl rfl rfl rfl rfl rfl qV_2 ?_
  refine T_yes rfl rfl rfl ?_ rfl
  refine T_callS rfl rfl g_aumbry_layout_kn rfl rfl rfl rfl ((kn_ok S126.le ((Go.Au.be (Go.Au.six b 1) : Nat) : Int) ((Go.Au.be (Go.Au.six b 2) : Nat) : Int)).mono ?_)
  rintro e w134 ⟨rfl, hB133⟩
  have S135 := S126.call hB133
  refine ⟨_, rfl, trivial, ?_⟩
  refine T_yes rfl rfl rfl ?_ rfl
  refine T_pev rfl rfl rfl rfl ?_
  refine T_pev rfl rfl rfl rfl ?_
  refine T_pev rfl rfl rfl rfl ?_
  refine T_part (t := 78) rfl (List.cons_ne_nil _ _) (fun h136' => ?_) (fun h136' => ?_)
  · have h136 := of_ndec_t h136'
    refine T_no rfl rfl rfl rfl rfl rfl ?_
    refine T_no rfl rfl rfl rfl rfl rfl ?_
    refine T_no rfl rfl rfl rfl rfl rfl ?_
    refine T_pev rfl rfl rfl rfl ?_
    refine T_nil ?_
    refine W_cond_true rfl ?_
    refine W_seq ?_
    refine W_region ?_
    refine T_buildS (cells := (qz16 : Value).cells) rfl rfl rfl rfl rfl rfl rfl rfl rfl rfl ?_
    refine T_storeFS 1 S135 (fun _ _ => trivial) rfl rfl rfl rfl rfl rfl rfl rfl rfl (qV_sz (q_len List.length_replicate List.length_replicate rfl)) (qV_sz (q_len List.length_replicate List.length_replicate rfl)) (qV_one) fun w137 S138 => ?_
    refine T_pev rfl rfl rfl rfl ?_
    refine T_nil ?_
    refine W_ret ?_
    refine ⟨_, ⟨_, _, _, rfl, rfl, run_loadVarA rfl rfl (qV_sz (q_len List.length_replicate List.length_replicate rfl)) (S138.cells 1 rfl), ⟨_, _, rfl, rfl, rfl⟩⟩, ?_⟩
    have HNO : ¬ Go.Au.VerOk b := by
      intro hq
      obtain ⟨q0, q1, q2, q3, q4, q5, q6, q7, q8, q9, q10, q11, q12⟩ := hq
      have e0 : ((Go.Au.ntAll 6 b).getD 0 []).length = _ := q1
      have e1 : ((Go.Au.ntAll 6 b).getD 1 []).length = _ := q2
      have e2 : ((Go.Au.ntAll 6 b).getD 2 []).length = _ := q3
      have e3 : ((Go.Au.ntAll 6 b).getD 3 []).length = _ := q4
      have e4 : ((Go.Au.ntAll 6 b).getD 4 []).length = _ := q5
      have e5 : ((Go.Au.ntAll 6 b).getD 5 []).length = _ := q6
      first | exact h136 q0 | omega | exact h136 (numV q1 q2 q3 q4) | exact h136 (Go.Au.packU_six q0 q1 q2 q3 q4)
    exact ⟨v_no HNO, S138.below⟩
  have h136 := of_ndec_f h136'
  refine T_yes rfl rfl rfl ?_ rfl
  refine T_fldm 3 rfl rfl rfl rfl rfl rfl (by decide) rfl rfl rfl ?_
  refine T_yes rfl rfl rfl ?_ rfl
  refine T_loadS 0 3 S135 rfl rfl rfl rfl rfl rfl rfl rfl rfl qV_3 ?_
  refine T_yes rfl rfl rfl ?_ rfl
  refine T_pev rfl rfl rfl rfl ?_
  refine T_pev rfl rfl rfl rfl ?_
  refine T_nil ?_
  refine W_cond_dec rfl (fun h139 => ?_) (fun h139 => ?_)
  · refine W_seq ?_
    refine W_region ?_
    refine T_buildS (cells := (qz16 : Value).cells) rfl rfl rfl rfl rfl rfl rfl rfl rfl rfl ?_
    refine T_storeFS 1 S135 (fun _ _ => trivial) rfl rfl rfl rfl rfl rfl rfl rfl rfl (qV_sz (q_len List.length_replicate List.length_replicate rfl)) (qV_sz (q_len List.length_replicate List.length_replicate rfl)) (qV_one) fun w140 S141 => ?_
    refine T_pev rfl rfl rfl rfl ?_
    refine T_nil ?_
    refine W_ret ?_
    refine ⟨_, ⟨_, _, _, rfl, rfl, run_loadVarA rfl rfl (qV_sz (q_len List.length_replicate List.length_replicate rfl)) (S141.cells 1 rfl), ⟨_, _, rfl, rfl, rfl⟩⟩, ?_⟩
    have HNO : ¬ Go.Au.VerOk b := by
      intro hq
      obtain ⟨q0, q1, q2, q3, q4, q5, q6, q7, q8, q9, q10, q11, q12⟩ := hq
      have e0 : ((Go.Au.ntAll 6 b).getD 0 []).length = _ := q1
      have e1 : ((Go.Au.ntAll 6 b).getD 1 []).length = _ := q2
      have e2 : ((Go.Au.ntAll 6 b).getD 2 []).length = _ := q3
      have e3 : ((Go.Au.ntAll 6 b).getD 3 []).length = _ := q4
      have e4 : ((Go.Au.ntAll 6 b).getD 4 []).length = _ := q5
      have e5 : ((Go.Au.ntAll 6 b).getD 5 []).length = _ := q6
      first | exact h139 q0 | omega | exact h139 (numV q1 q2 q3 q4) | exact h139 (Go.Au.packU_six q0 q1 q2 q3 q4)
    exact ⟨v_no HNO, S141.below⟩
  refine W_skip ?_
  refine W_seq ?_
  refine W_region ?_
  refine T_loadFS 0 S135 rfl rfl rfl rfl rfl rfl rfl rfl rfl (qV_sz (q_len HL4 HL5 rfl)) ?_
  refine T_storeFS 1 S135 (fun _ _ => trivial) rfl rfl rfl rfl rfl rfl rfl rfl rfl (qV_sz (q_len HL4 HL5 rfl)) (qV_sz (q_len HL4 HL5 rfl)) (qV_one) fun w142 S143 => ?_
  refine T_pev rfl rfl rfl rfl ?_
  refine T_nil ?_
  refine W_ret ?_
  refine ⟨_, ⟨_, _, _, rfl, rfl, run_loadVarA rfl rfl (qV_sz (q_len HL4 HL5 rfl)) (S143.cells 1 rfl), ⟨_, _, rfl, rfl, rfl⟩⟩, ?_⟩
  exact ⟨v_yes ⟨HA, HQ0, HQ1, HQ2, HQ3, HL4, HL5, by omega, by omega, by omega, by omega, by omega, by omega⟩, S143.below⟩


theorem unpackVR_ok {H : Hp} {w : World} (hH : H.le (hw w)) {b : List UInt8} {aa0 : Option Addr} {nn0 cc0 : Nat} (hv : Rd H (.slice aa0 nn0 cc0) nn0 1 (b.map bV)) (hb : b.length ≤ 10000) :
    Calls Tryd.prog 24 #[.slice aa0 nn0 cc0] w fun e w' => e = .returned (.tuple #[qV (Go.Au.vN b 0) (Go.Au.vN b 1) (Go.Au.vN b 2) (Go.Au.vN b 3) (Go.Au.vS b) (Go.Au.vR b), .bool (decide (Go.Au.VerOk b))]) ∧ Below w.heap.size w w' := by
  obtain rfl : nn0 = b.length := hv.lenB
  have hvcap : b.length ≤ cc0 := hv.capOf
  refine enter1 _ Tryd.func24 rfl Tryd.ntmps24 Tryd.results24 rfl ?_
  have S0 := St.start w hH
  refine W_seq ?_
  refine W_region ?_
  refine T_allocS S0 (fun _ _ => trivial) rfl rfl rfl rfl rfl rfl rfl fun b1 w2 S3 => ?_
  refine T_pev rfl rfl rfl rfl ?_
  refine T_nil ?_
  refine W_seq ?_
  refine W_region ?_
  refine T_pev rfl rfl rfl rfl ?_
  refine T_callS rfl rfl g_aumbry_aumbryref01_TakeNets rfl rfl rfl rfl ((takeNetsR_ok S3.le hv 6 (by omega) (by omega)).mono ?_)
  rintro e w8 ⟨a4, c5, rfl, r6, hB7⟩
  obtain ⟨G10, eG12⟩ : ∃ G, G = F.ext H w2.heap.size w8 := ⟨_, rfl⟩
  obtain ⟨hl11, S9⟩ := S3.ext hB7
  rw [← eG12] at hl11 S9 r6
  refine ⟨_, rfl, trivial, ?_⟩
  refine T_pev rfl rfl rfl rfl ?_
  refine T_pev rfl rfl rfl rfl ?_
  refine T_pev rfl rfl rfl rfl ?_
  refine T_pev rfl rfl rfl rfl ?_
  refine T_pev rfl rfl rfl rfl ?_
  refine T_nil ?_
  refine W_seq ?_
  refine W_seq ?_
  refine W_region ?_
  refine T_pev rfl rfl rfl rfl ?_
  refine T_pev rfl rfl rfl rfl ?_
  refine T_pev rfl rfl rfl rfl ?_
  refine T_part (t := 15) rfl (List.cons_ne_nil _ _) (fun h13' => ?_) (fun h13' => ?_)
  · have h13 := of_ndec_t h13'
    refine T_no rfl rfl rfl rfl rfl rfl ?_
    refine T_no rfl rfl rfl rfl rfl rfl ?_
    refine T_no rfl rfl rfl rfl rfl rfl ?_
    refine T_no rfl rfl rfl rfl rfl rfl ?_
    refine T_no rfl rfl rfl rfl rfl rfl ?_
    refine T_pev rfl rfl rfl rfl ?_
    refine T_pev rfl rfl rfl rfl ?_
    refine T_no rfl rfl rfl rfl rfl rfl ?_
    refine T_no rfl rfl rfl rfl rfl rfl ?_
    refine T_no rfl rfl rfl rfl rfl rfl ?_
    refine T_no rfl rfl rfl rfl rfl rfl ?_
    refine T_no rfl rfl rfl rfl rfl rfl ?_
    refine T_pev rfl rfl rfl rfl ?_
    refine T_pev rfl rfl rfl rfl ?_
    refine T_no rfl rfl rfl rfl rfl rfl ?_
    refine T_no rfl rfl rfl rfl rfl rfl ?_
    refine T_no rfl rfl rfl rfl rfl rfl ?_
    refine T_no rfl rfl rfl rfl rfl rfl ?_
    refine T_no rfl rfl rfl rfl rfl rfl ?_
    refine T_pev rfl rfl rfl rfl ?_
    refine T_pev rfl rfl rfl rfl ?_
    refine T_no rfl rfl rfl rfl rfl rfl ?_
    refine T_no rfl rfl rfl rfl rfl rfl ?_
    refine T_no rfl rfl rfl rfl rfl rfl ?_
    refine T_no rfl rfl rfl rfl rfl rfl ?_
    refine T_no rfl rfl rfl rfl rfl rfl ?_
    refine T_pev rfl rfl rfl rfl ?_
    refine T_pev rfl rfl rfl rfl ?_
    refine T_no rfl rfl rfl rfl rfl rfl ?_
    refine T_no rfl rfl rfl rfl rfl rfl ?_
    refine T_no rfl rfl rfl rfl rfl rfl ?_
    refine T_no rfl rfl rfl rfl rfl rfl ?_
    refine T_no rfl rfl rfl rfl rfl rfl ?_
    refine T_pev rfl rfl rfl rfl ?_
    refine T_pev rfl rfl rfl rfl ?_
    refine T_no rfl rfl rfl rfl rfl rfl ?_
    refine T_no rfl rfl rfl rfl rfl rfl ?_
    refine T_no rfl rfl rfl rfl rfl rfl ?_
    refine T_no rfl rfl rfl rfl rfl rfl ?_
    refine T_no rfl rfl rfl rfl rfl rfl ?_
    refine T_pev rfl rfl rfl rfl ?_
    refine T_nil ?_
    refine W_cond_true rfl ?_
    refine W_seq ?_
    refine W_region ?_
    refine T_buildS (cells := (qz16 : Value).cells) rfl rfl rfl rfl rfl rfl rfl rfl rfl rfl ?_
    refine T_storeFS 0 S9 (fun _ _ => trivial) rfl rfl rfl rfl rfl rfl rfl rfl rfl (qV_sz (q_len List.length_replicate List.length_replicate rfl)) (qV_sz (q_len List.length_replicate List.length_replicate rfl)) (qV_one) fun w14 S15 => ?_
    refine T_pev rfl rfl rfl rfl ?_
    refine T_nil ?_
    refine W_ret ?_
    refine ⟨_, ⟨_, _, _, rfl, rfl, run_loadVarA rfl rfl (qV_sz (q_len List.length_replicate List.length_replicate rfl)) (S15.cells 0 rfl), ⟨_, _, rfl, rfl, rfl⟩⟩, ?_⟩
    have HNO : ¬ Go.Au.VerOk b := by
      intro hq
      obtain ⟨q0, q1, q2, q3, q4, q5, q6, q7, q8, q9, q10, q11, q12⟩ := hq
      have e0 : ((Go.Au.ntAll 6 b).getD 0 []).length = _ := q1
      have e1 : ((Go.Au.ntAll 6 b).getD 1 []).length = _ := q2
      have e2 : ((Go.Au.ntAll 6 b).getD 2 []).length = _ := q3
      have e3 : ((Go.Au.ntAll 6 b).getD 3 []).length = _ := q4
      have e4 : ((Go.Au.ntAll 6 b).getD 4 []).length = _ := q5
      have e5 : ((Go.Au.ntAll 6 b).getD 5 []).length = _ := q6
      first | exact h13 q0 | omega | exact h13 (numV q1 q2 q3 q4) | exact h13 (Go.Au.packU_six q0 q1 q2 q3 q4)
    exact ⟨v_no HNO, S15.below⟩
  have h13 := of_ndec_f h13'
  refine T_yes rfl rfl rfl ?_ rfl
  have HA := h13
  have hn6 := Go.Au.ntAll_len HA
  refine T_pev rfl rfl rfl rfl ?_
  refine T_yes rfl rfl rfl ?_ rfl
  obtain ⟨hs19, r20, r21⟩ := (id r6)
  refine T_idxR 0 r20 rfl rfl rfl rfl rfl rfl rfl rfl rfl (by omega) (by omega) fun b16 o17 hc18 => ?_
  obtain ⟨a24, c25, hc27, hv23, r26⟩ := r21.at 0 (by omega)
  have hc28 := hc18 0 (.slice a24 ((Go.Au.ntAll 6 b).getD 0 []).length c25) (by simpa using hv23)
  simp only [Nat.add_zero] at hc28
  refine T_yes rfl rfl rfl ?_ rfl
  refine T_loadG S9 hc28 rfl rfl rfl rfl rfl rfl rfl ?_
  refine T_yes rfl rfl rfl ?_ rfl
  refine T_pev rfl rfl rfl rfl ?_
  refine T_yes rfl rfl rfl ?_ rfl
  refine T_pev rfl rfl rfl rfl ?_
  refine T_pev rfl rfl rfl rfl ?_
  refine T_pev rfl rfl rfl rfl ?_
  refine T_part (t := 22) rfl (List.cons_ne_nil _ _) (fun h29' => ?_) (fun h29' => ?_)
  · have h29 := of_ndec_t h29'
    refine T_no rfl rfl rfl rfl rfl rfl ?_
    refine T_no rfl rfl rfl rfl rfl rfl ?_
    refine T_no rfl rfl rfl rfl rfl rfl ?_
    refine T_no rfl rfl rfl rfl rfl rfl ?_
    refine T_no rfl rfl rfl rfl rfl rfl ?_
    refine T_pev rfl rfl rfl rfl ?_
    refine T_pev rfl rfl rfl rfl ?_
    refine T_no rfl rfl rfl rfl rfl rfl ?_
    refine T_no rfl rfl rfl rfl rfl rfl ?_
    refine T_no rfl rfl rfl rfl rfl rfl ?_
    refine T_no rfl rfl rfl rfl rfl rfl ?_
    refine T_no rfl rfl rfl rfl rfl rfl ?_
    refine T_pev rfl rfl rfl rfl ?_
    refine T_pev rfl rfl rfl rfl ?_
    refine T_no rfl rfl rfl rfl rfl rfl ?_
    refine T_no rfl rfl rfl rfl rfl rfl ?_
    refine T_no rfl rfl rfl rfl rfl rfl ?_
    refine T_no rfl rfl rfl rfl rfl rfl ?_
    refine T_no rfl rfl rfl rfl rfl rfl ?_
    refine T_pev rfl rfl rfl rfl ?_
    refine T_pev rfl rfl rfl rfl ?_
    refine T_no rfl rfl rfl rfl rfl rfl ?_
    refine T_no rfl rfl rfl rfl rfl rfl ?_
    refine T_no rfl rfl rfl rfl rfl rfl ?_
    refine T_no rfl rfl rfl rfl rfl rfl ?_
    refine T_no rfl rfl rfl rfl rfl rfl ?_
    refine T_pev rfl rfl rfl rfl ?_
    refine T_pev rfl rfl rfl rfl ?_
    refine T_no rfl rfl rfl rfl rfl rfl ?_
    refine T_no rfl rfl rfl rfl rfl rfl ?_
    refine T_no rfl rfl rfl rfl rfl rfl ?_
    refine T_no rfl rfl rfl rfl rfl rfl ?_
    refine T_no rfl rfl rfl rfl rfl rfl ?_
    refine T_pev rfl rfl rfl rfl ?_
    refine T_nil ?_
    refine W_cond_true rfl ?_
    refine W_seq ?_
    refine W_region ?_
    refine T_buildS (cells := (qz16 : Value).cells) rfl rfl rfl rfl rfl rfl rfl rfl rfl rfl ?_
    refine T_storeFS 0 S9 (fun _ _ => trivial) rfl rfl rfl rfl rfl rfl rfl rfl rfl (qV_sz (q_len List.length_replicate List.length_replicate rfl)) (qV_sz (q_len List.length_replicate List.length_replicate rfl)) (qV_one) fun w30 S31 => ?_
    refine T_pev rfl rfl rfl rfl ?_
    refine T_nil ?_
    refine W_ret ?_
    refine ⟨_, ⟨_, _, _, rfl, rfl, run_loadVarA rfl rfl (qV_sz (q_len List.length_replicate List.length_replicate rfl)) (S31.cells 0 rfl), ⟨_, _, rfl, rfl, rfl⟩⟩, ?_⟩
    have HNO : ¬ Go.Au.VerOk b := by
      intro hq
      obtain ⟨q0, q1, q2, q3, q4, q5, q6, q7, q8, q9, q10, q11, q12⟩ := hq
      have e0 : ((Go.Au.ntAll 6 b).getD 0 []).length = _ := q1
      have e1 : ((Go.Au.ntAll 6 b).getD 1 []).length = _ := q2
      have e2 : ((Go.Au.ntAll 6 b).getD 2 []).length = _ := q3
      have e3 : ((Go.Au.ntAll 6 b).getD 3 []).length = _ := q4
      have e4 : ((Go.Au.ntAll 6 b).getD 4 []).length = _ := q5
      have e5 : ((Go.Au.ntAll 6 b).getD 5 []).length = _ := q6
      first | exact h29 q0 | omega | exact h29 (numV q1 q2 q3 q4) | exact h29 (Go.Au.packU_six q0 q1 q2 q3 q4)
    exact ⟨v_no HNO, S31.below⟩
  have h29 := of_ndec_f h29'
  refine T_yes rfl rfl rfl ?_ rfl
  refine T_pev rfl rfl rfl rfl ?_
  refine T_yes rfl rfl rfl ?_ rfl
  obtain ⟨hs35, r36, r37⟩ := (id r6)
  refine T_idxR 1 r36 rfl rfl rfl rfl rfl rfl rfl rfl rfl (by omega) (by omega) fun b32 o33 hc34 => ?_
  obtain ⟨a40, c41, hc43, hv39, r42⟩ := r37.at 1 (by omega)
  have hc44 := hc34 0 (.slice a40 ((Go.Au.ntAll 6 b).getD 1 []).length c41) (by simpa using hv39)
  simp only [Nat.add_zero] at hc44
  refine T_yes rfl rfl rfl ?_ rfl
  refine T_loadG S9 hc44 rfl rfl rfl rfl rfl rfl rfl ?_
  refine T_yes rfl rfl rfl ?_ rfl
  refine T_pev rfl rfl rfl rfl ?_
  refine T_yes rfl rfl rfl ?_ rfl
  refine T_pev rfl rfl rfl rfl ?_
  refine T_pev rfl rfl rfl rfl ?_
  refine T_pev rfl rfl rfl rfl ?_
  refine T_part (t := 29) rfl (List.cons_ne_nil _ _) (fun h45' => ?_) (fun h45' => ?_)
  · have h45 := of_ndec_t h45'
    refine T_no rfl rfl rfl rfl rfl rfl ?_
    refine T_no rfl rfl rfl rfl rfl rfl ?_
    refine T_no rfl rfl rfl rfl rfl rfl ?_
    refine T_no rfl rfl rfl rfl rfl rfl ?_
    refine T_no rfl rfl rfl rfl rfl rfl ?_
    refine T_pev rfl rfl rfl rfl ?_
    refine T_pev rfl rfl rfl rfl ?_
    refine T_no rfl rfl rfl rfl rfl rfl ?_
    refine T_no rfl rfl rfl rfl rfl rfl ?_
    refine T_no rfl rfl rfl rfl rfl rfl ?_
    refine T_no rfl rfl rfl rfl rfl rfl ?_
    refine T_no rfl rfl rfl rfl rfl rfl ?_
    refine T_pev rfl rfl rfl rfl ?_
    refine T_pev rfl rfl rfl rfl ?_
    refine T_no rfl rfl rfl rfl rfl rfl ?_
    refine T_no rfl rfl rfl rfl rfl rfl ?_
    refine T_no rfl rfl rfl rfl rfl rfl ?_
    refine T_no rfl rfl rfl rfl rfl rfl ?_
    refine T_no rfl rfl rfl rfl rfl rfl ?_
    refine T_pev rfl rfl rfl rfl ?_
    refine T_pev rfl rfl rfl rfl ?_
    refine T_no rfl rfl rfl rfl rfl rfl ?_
    refine T_no rfl rfl rfl rfl rfl rfl ?_
    refine T_no rfl rfl rfl rfl rfl rfl ?_
    refine T_no rfl rfl rfl rfl rfl rfl ?_
    refine T_no rfl rfl rfl rfl rfl rfl ?_
    refine T_pev rfl rfl rfl rfl ?_
    refine T_nil ?_
    refine W_cond_true rfl ?_
    refine W_seq ?_
    refine W_region ?_
    refine T_buildS (cells := (qz16 : Value).cells) rfl rfl rfl rfl rfl rfl rfl rfl rfl rfl ?_
    refine T_storeFS 0 S9 (fun _ _ => trivial) rfl rfl rfl rfl rfl rfl rfl rfl rfl (qV_sz (q_len List.length_replicate List.length_replicate rfl)) (qV_sz (q_len List.length_replicate List.length_replicate rfl)) (qV_one) fun w46 S47 => ?_
    refine T_pev rfl rfl rfl rfl ?_
    refine T_nil ?_
    refine W_ret ?_
    refine ⟨_, ⟨_, _, _, rfl, rfl, run_loadVarA rfl rfl (qV_sz (q_len List.length_replicate List.length_replicate rfl)) (S47.cells 0 rfl), ⟨_, _, rfl, rfl, rfl⟩⟩, ?_⟩
    have HNO : ¬ Go.Au.VerOk b := by
      intro hq
      obtain ⟨q0, q1, q2, q3, q4, q5, q6, q7, q8, q9, q10, q11, q12⟩ := hq
      have e0 : ((Go.Au.ntAll 6 b).getD 0 []).length = _ := q1
      have e1 : ((Go.Au.ntAll 6 b).getD 1 []).length = _ := q2
      have e2 : ((Go.Au.ntAll 6 b).getD 2 []).length = _ := q3
      have e3 : ((Go.Au.ntAll 6 b).getD 3 []).length = _ := q4
      have e4 : ((Go.Au.ntAll 6 b).getD 4 []).length = _ := q5
      have e5 : ((Go.Au.ntAll 6 b).getD 5 []).length = _ := q6
      first | exact h45 q0 | omega | exact h45 (numV q1 q2 q3 q4) | exact h45 (Go.Au.packU_six q0 q1 q2 q3 q4)
    exact ⟨v_no HNO, S47.below⟩
  have h45 := of_ndec_f h45'
  refine T_yes rfl rfl rfl ?_ rfl
  refine T_pev rfl rfl rfl rfl ?_
  refine T_yes rfl rfl rfl ?_ rfl
  obtain ⟨hs51, r52, r53⟩ := (id r6)
  refine T_idxR 2 r52 rfl rfl rfl rfl rfl rfl rfl rfl rfl (by omega) (by omega) fun b48 o49 hc50 => ?_
  obtain ⟨a56, c57, hc59, hv55, r58⟩ := r53.at 2 (by omega)
  have hc60 := hc50 0 (.slice a56 ((Go.Au.ntAll 6 b).getD 2 []).length c57) (by simpa using hv55)
  simp only [Nat.add_zero] at hc60
  refine T_yes rfl rfl rfl ?_ rfl
  refine T_loadG S9 hc60 rfl rfl rfl rfl rfl rfl rfl ?_
  refine T_yes rfl rfl rfl ?_ rfl
  refine T_pev rfl rfl rfl rfl ?_
  refine T_yes rfl rfl rfl ?_ rfl
  refine T_pev rfl rfl rfl rfl ?_
  refine T_pev rfl rfl rfl rfl ?_
  refine T_pev rfl rfl rfl rfl ?_
  refine T_part (t := 36) rfl (List.cons_ne_nil _ _) (fun h61' => ?_) (fun h61' => ?_)
  · have h61 := of_ndec_t h61'
    refine T_no rfl rfl rfl rfl rfl rfl ?_
    refine T_no rfl rfl rfl rfl rfl rfl ?_
    refine T_no rfl rfl rfl rfl rfl rfl ?_
    refine T_no rfl rfl rfl rfl rfl rfl ?_
    refine T_no rfl rfl rfl rfl rfl rfl ?_
    refine T_pev rfl rfl rfl rfl ?_
    refine T_pev rfl rfl rfl rfl ?_
    refine T_no rfl rfl rfl rfl rfl rfl ?_
    refine T_no rfl rfl rfl rfl rfl rfl ?_
    refine T_no rfl rfl rfl rfl rfl rfl ?_
    refine T_no rfl rfl rfl rfl rfl rfl ?_
    refine T_no rfl rfl rfl rfl rfl rfl ?_
    refine T_pev rfl rfl rfl rfl ?_
    refine T_pev rfl rfl rfl rfl ?_
    refine T_no rfl rfl rfl rfl rfl rfl ?_
    refine T_no rfl rfl rfl rfl rfl rfl ?_
    refine T_no rfl rfl rfl rfl rfl rfl ?_
    refine T_no rfl rfl rfl rfl rfl rfl ?_
    refine T_no rfl rfl rfl rfl rfl rfl ?_
    refine T_pev rfl rfl rfl rfl ?_
    refine T_nil ?_
    refine W_cond_true rfl ?_
    refine W_seq ?_
    refine W_region ?_
    refine T_buildS (cells := (qz16 : Value).cells) rfl rfl rfl rfl rfl rfl rfl rfl rfl rfl ?_
    refine T_storeFS 0 S9 (fun _ _ => trivial) rfl rfl rfl rfl rfl rfl rfl rfl rfl (qV_sz (q_len List.length_replicate List.length_replicate rfl)) (qV_sz (q_len List.length_replicate List.length_replicate rfl)) (qV_one) fun w62 S63 => ?_
    refine T_pev rfl rfl rfl rfl ?_
    refine T_nil ?_
    refine W_ret ?_
    refine ⟨_, ⟨_, _, _, rfl, rfl, run_loadVarA rfl rfl (qV_sz (q_len List.length_replicate List.length_replicate rfl)) (S63.cells 0 rfl), ⟨_, _, rfl, rfl, rfl⟩⟩, ?_⟩
    have HNO : ¬ Go.Au.VerOk b := by
      intro hq
      obtain ⟨q0, q1, q2, q3, q4, q5, q6, q7, q8, q9, q10, q11, q12⟩ := hq
      have e0 : ((Go.Au.ntAll 6 b).getD 0 []).length = _ := q1
      have e1 : ((Go.Au.ntAll 6 b).getD 1 []).length = _ := q2
      have e2 : ((Go.Au.ntAll 6 b).getD 2 []).length = _ := q3
      have e3 : ((Go.Au.ntAll 6 b).getD 3 []).length = _ := q4
      have e4 : ((Go.Au.ntAll 6 b).getD 4 []).length = _ := q5
      have e5 : ((Go.Au.ntAll 6 b).getD 5 []).length = _ := q6
      first | exact h61 q0 | omega | exact h61 (numV q1 q2 q3 q4) | exact h61 (Go.Au.packU_six q0 q1 q2 q3 q4)
    exact ⟨v_no HNO, S63.below⟩
  have h61 := of_ndec_f h61'
  refine T_yes rfl rfl rfl ?_ rfl
  refine T_pev rfl rfl rfl rfl ?_
  refine T_yes rfl rfl rfl ?_ rfl
  obtain ⟨hs67, r68, r69⟩ := (id r6)
  refine T_idxR 3 r68 rfl rfl rfl rfl rfl rfl rfl rfl rfl (by omega) (by omega) fun b64 o65 hc66 => ?_
  obtain ⟨a72, c73, hc75, hv71, r74⟩ := r69.at 3 (by omega)
  have hc76 := hc66 0 (.slice a72 ((Go.Au.ntAll 6 b).getD 3 []).length c73) (by simpa using hv71)
  simp only [Nat.add_zero] at hc76
  refine T_yes rfl rfl rfl ?_ rfl
  refine T_loadG S9 hc76 rfl rfl rfl rfl rfl rfl rfl ?_
  refine T_yes rfl rfl rfl ?_ rfl
  refine T_pev rfl rfl rfl rfl ?_
  refine T_yes rfl rfl rfl ?_ rfl
  refine T_pev rfl rfl rfl rfl ?_
  refine T_pev rfl rfl rfl rfl ?_
  refine T_pev rfl rfl rfl rfl ?_
  refine T_part (t := 43) rfl (List.cons_ne_nil _ _) (fun h77' => ?_) (fun h77' => ?_)
  · have h77 := of_ndec_t h77'
    refine T_no rfl rfl rfl rfl rfl rfl ?_
    refine T_no rfl rfl rfl rfl rfl rfl ?_
    refine T_no rfl rfl rfl rfl rfl rfl ?_
    refine T_no rfl rfl rfl rfl rfl rfl ?_
    refine T_no rfl rfl rfl rfl rfl rfl ?_
    refine T_pev rfl rfl rfl rfl ?_
    refine T_pev rfl rfl rfl rfl ?_
    refine T_no rfl rfl rfl rfl rfl rfl ?_
    refine T_no rfl rfl rfl rfl rfl rfl ?_
    refine T_no rfl rfl rfl rfl rfl rfl ?_
    refine T_no rfl rfl rfl rfl rfl rfl ?_
    refine T_no rfl rfl rfl rfl rfl rfl ?_
    refine T_pev rfl rfl rfl rfl ?_
    refine T_nil ?_
    refine W_cond_true rfl ?_
    refine W_seq ?_
    refine W_region ?_
    refine T_buildS (cells := (qz16 : Value).cells) rfl rfl rfl rfl rfl rfl rfl rfl rfl rfl ?_
    refine T_storeFS 0 S9 (fun _ _ => trivial) rfl rfl rfl rfl rfl rfl rfl rfl rfl (qV_sz (q_len List.length_replicate List.length_replicate rfl)) (qV_sz (q_len List.length_replicate List.length_replicate rfl)) (qV_one) fun w78 S79 => ?_
    refine T_pev rfl rfl rfl rfl ?_
    refine T_nil ?_
    refine W_ret ?_
    refine ⟨_, ⟨_, _, _, rfl, rfl, run_loadVarA rfl rfl (qV_sz (q_len List.length_replicate List.length_replicate rfl)) (S79.cells 0 rfl), ⟨_, _, rfl, rfl, rfl⟩⟩, ?_⟩
    have HNO : ¬ Go.Au.VerOk b := by
      intro hq
      obtain ⟨q0, q1, q2, q3, q4, q5, q6, q7, q8, q9, q10, q11, q12⟩ := hq
      have e0 : ((Go.Au.ntAll 6 b).getD 0 []).length = _ := q1
      have e1 : ((Go.Au.ntAll 6 b).getD 1 []).length = _ := q2
      have e2 : ((Go.Au.ntAll 6 b).getD 2 []).length = _ := q3
      have e3 : ((Go.Au.ntAll 6 b).getD 3 []).length = _ := q4
      have e4 : ((Go.Au.ntAll 6 b).getD 4 []).length = _ := q5
      have e5 : ((Go.Au.ntAll 6 b).getD 5 []).length = _ := q6
      first | exact h77 q0 | omega | exact h77 (numV q1 q2 q3 q4) | exact h77 (Go.Au.packU_six q0 q1 q2 q3 q4)
    exact ⟨v_no HNO, S79.below⟩
  have h77 := of_ndec_f h77'
  refine T_yes rfl rfl rfl ?_ rfl
  refine T_pev rfl rfl rfl rfl ?_
  refine T_yes rfl rfl rfl ?_ rfl
  obtain ⟨hs83, r84, r85⟩ := (id r6)
  refine T_idxR 4 r84 rfl rfl rfl rfl rfl rfl rfl rfl rfl (by omega) (by omega) fun b80 o81 hc82 => ?_
  obtain ⟨a88, c89, hc91, hv87, r90⟩ := r85.at 4 (by omega)
  have hc92 := hc82 0 (.slice a88 ((Go.Au.ntAll 6 b).getD 4 []).length c89) (by simpa using hv87)
  simp only [Nat.add_zero] at hc92
  refine T_yes rfl rfl rfl ?_ rfl
  refine T_loadG S9 hc92 rfl rfl rfl rfl rfl rfl rfl ?_
  refine T_yes rfl rfl rfl ?_ rfl
  refine T_pev rfl rfl rfl rfl ?_
  refine T_yes rfl rfl rfl ?_ rfl
  refine T_pev rfl rfl rfl rfl ?_
  refine T_pev rfl rfl rfl rfl ?_
  refine T_pev rfl rfl rfl rfl ?_
  refine T_part (t := 50) rfl (List.cons_ne_nil _ _) (fun h93' => ?_) (fun h93' => ?_)
  · have h93 := of_ndec_t h93'
    refine T_no rfl rfl rfl rfl rfl rfl ?_
    refine T_no rfl rfl rfl rfl rfl rfl ?_
    refine T_no rfl rfl rfl rfl rfl rfl ?_
    refine T_no rfl rfl rfl rfl rfl rfl ?_
    refine T_no rfl rfl rfl rfl rfl rfl ?_
    refine T_pev rfl rfl rfl rfl ?_
    refine T_nil ?_
    refine W_cond_true rfl ?_
    refine W_seq ?_
    refine W_region ?_
    refine T_buildS (cells := (qz16 : Value).cells) rfl rfl rfl rfl rfl rfl rfl rfl rfl rfl ?_
    refine T_storeFS 0 S9 (fun _ _ => trivial) rfl rfl rfl rfl rfl rfl rfl rfl rfl (qV_sz (q_len List.length_replicate List.length_replicate rfl)) (qV_sz (q_len List.length_replicate List.length_replicate rfl)) (qV_one) fun w94 S95 => ?_
    refine T_pev rfl rfl rfl rfl ?_
    refine T_nil ?_
    refine W_ret ?_
    refine ⟨_, ⟨_, _, _, rfl, rfl, run_loadVarA rfl rfl (qV_sz (q_len List.length_replicate List.length_replicate rfl)) (S95.cells 0 rfl), ⟨_, _, rfl, rfl, rfl⟩⟩, ?_⟩
    have HNO : ¬ Go.Au.VerOk b := by
      intro hq
      obtain ⟨q0, q1, q2, q3, q4, q5, q6, q7, q8, q9, q10, q11, q12⟩ := hq
      have e0 : ((Go.Au.ntAll 6 b).getD 0 []).length = _ := q1
      have e1 : ((Go.Au.ntAll 6 b).getD 1 []).length = _ := q2
      have e2 : ((Go.Au.ntAll 6 b).getD 2 []).length = _ := q3
      have e3 : ((Go.Au.ntAll 6 b).getD 3 []).length = _ := q4
      have e4 : ((Go.Au.ntAll 6 b).getD 4 []).length = _ := q5
      have e5 : ((Go.Au.ntAll 6 b).getD 5 []).length = _ := q6
      first | exact h93 q0 | omega | exact h93 (numV q1 q2 q3 q4) | exact h93 (Go.Au.packU_six q0 q1 q2 q3 q4)
    exact ⟨v_no HNO, S95.below⟩
  have h93 := of_ndec_f h93'
  refine T_yes rfl rfl rfl ?_ rfl
  refine T_pev rfl rfl rfl rfl ?_
  refine T_yes rfl rfl rfl ?_ rfl
  obtain ⟨hs99, r100, r101⟩ := (id r6)
  refine T_idxR 5 r100 rfl rfl rfl rfl rfl rfl rfl rfl rfl (by omega) (by omega) fun b96 o97 hc98 => ?_
  obtain ⟨a104, c105, hc107, hv103, r106⟩ := r101.at 5 (by omega)
  have hc108 := hc98 0 (.slice a104 ((Go.Au.ntAll 6 b).getD 5 []).length c105) (by simpa using hv103)
  simp only [Nat.add_zero] at hc108
  refine T_yes rfl rfl rfl ?_ rfl
  refine T_loadG S9 hc108 rfl rfl rfl rfl rfl rfl rfl ?_
  refine T_yes rfl rfl rfl ?_ rfl
  refine T_pev rfl rfl rfl rfl ?_
  refine T_yes rfl rfl rfl ?_ rfl
  refine T_pev rfl rfl rfl rfl ?_
  refine T_pev rfl rfl rfl rfl ?_
  refine T_nil ?_
  refine W_cond_not rfl (fun h109 => ?_) (fun h109 => ?_)
  · refine W_seq ?_
    refine W_region ?_
    refine T_buildS (cells := (qz16 : Value).cells) rfl rfl rfl rfl rfl rfl rfl rfl rfl rfl ?_
    refine T_storeFS 0 S9 (fun _ _ => trivial) rfl rfl rfl rfl rfl rfl rfl rfl rfl (qV_sz (q_len List.length_replicate List.length_replicate rfl)) (qV_sz (q_len List.length_replicate List.length_replicate rfl)) (qV_one) fun w110 S111 => ?_
    refine T_pev rfl rfl rfl rfl ?_
    refine T_nil ?_
    refine W_ret ?_
    refine ⟨_, ⟨_, _, _, rfl, rfl, run_loadVarA rfl rfl (qV_sz (q_len List.length_replicate List.length_replicate rfl)) (S111.cells 0 rfl), ⟨_, _, rfl, rfl, rfl⟩⟩, ?_⟩
    have HNO : ¬ Go.Au.VerOk b := by
      intro hq
      obtain ⟨q0, q1, q2, q3, q4, q5, q6, q7, q8, q9, q10, q11, q12⟩ := hq
      have e0 : ((Go.Au.ntAll 6 b).getD 0 []).length = _ := q1
      have e1 : ((Go.Au.ntAll 6 b).getD 1 []).length = _ := q2
      have e2 : ((Go.Au.ntAll 6 b).getD 2 []).length = _ := q3
      have e3 : ((Go.Au.ntAll 6 b).getD 3 []).length = _ := q4
      have e4 : ((Go.Au.ntAll 6 b).getD 4 []).length = _ := q5
      have e5 : ((Go.Au.ntAll 6 b).getD 5 []).length = _ := q6
      first | exact h109 q0 | omega | exact h109 (numV q1 q2 q3 q4) | exact h109 (Go.Au.packU_six q0 q1 q2 q3 q4)
    exact ⟨v_no HNO, S111.below⟩
  refine W_skip ?_
  refine W_seq ?_
  refine W_tree (planF Tryd.prog G10 [60, 62, 66, 68, 72]) (.step 0 (.step 1 (.step 2 (.step 3 (.step 4 (.step 5 (.step 6 (.step 7 (.step 8 (.step 9 (.step 10 (.step 11 (.step 12 (.step 13 (.step 14 (.fork 15 17 (.step 16 (.step 17 (.step 18 .done))) (.step 15 (.step 16 (.step 18 .done))))))))))))))))))) rfl (by kernel_rfl) S9.le ?_
  have S112 := S9.drew
  refine TT_step rfl ?_
  have HQ0 : (Go.Au.six b 0).length = 4 := by show ((Go.Au.ntAll 6 b).getD 0 []).length = _; omega
  have HQ1 : (Go.Au.six b 1).length = 1 := by show ((Go.Au.ntAll 6 b).getD 1 []).length = _; omega
  have HQ2 : (Go.Au.six b 2).length = 1 := by show ((Go.Au.ntAll 6 b).getD 2 []).length = _; omega
  have HQ3 : (Go.Au.six b 3).length = 4 := by show ((Go.Au.ntAll 6 b).getD 3 []).length = _; omega
  have HB0 := Go.Au.be_w HQ0
  have HB1 := Go.Au.be_w HQ1
  have HB2 := Go.Au.be_w HQ2
  have HB3 := Go.Au.be_w HQ3
  have HL4 : (Go.Au.six b 4).length = 16 := by show ((Go.Au.ntAll 6 b).getD 4 []).length = _; omega
  have HL5 : (Go.Au.six b 5).length = 32 := by show ((Go.Au.ntAll 6 b).getD 5 []).length = _; omega
  refine T_pev rfl rfl rfl rfl ?_
  refine T_nil ?_
  refine TT_step rfl ?_
  obtain ⟨hs116, r117, r118⟩ := (id r6)
  refine T_idxR 1 r117 rfl rfl rfl rfl rfl rfl rfl rfl rfl (by omega) (by omega) fun b113 o114 hc115 => ?_
  obtain ⟨a121, c122, hc124, hv120, r123⟩ := r118.at 1 (by omega)
  have hc125 := hc115 0 (.slice a121 ((Go.Au.ntAll 6 b).getD 1 []).length c122) (by simpa using hv120)
  simp only [Nat.add_zero] at hc125
  refine T_nil ?_
  refine TT_step rfl ?_
  refine T_loadGP (fun _ h => h) hc125 rfl rfl rfl rfl rfl rfl rfl ?_
  refine T_nil ?_
  refine TT_step rfl ?_
  refine T_idxR 0 r123 rfl rfl rfl rfl rfl rfl rfl rfl rfl (by omega) (by omega) fun b126 o127 hc128 => ?_
  have hc129 := hc128 0 (bV (((Go.Au.ntAll 6 b).getD 1 []).getD 0 0)) (at_b ((Go.Au.ntAll 6 b).getD 1 []) 0 (by omega))
  simp only [Nat.add_zero] at hc129
  refine T_nil ?_
  refine TT_step rfl ?_
  refine T_loadGP (fun _ h => h) hc129 rfl rfl rfl rfl rfl rfl rfl ?_
  refine T_nil ?_
  refine TT_step rfl ?_
  refine T_b2i rfl rfl rfl rfl rfl rfl rfl ?_
  refine T_re (v' := .int .i64 ((Go.Au.be (Go.Au.six b 1) : Nat) : Int)) (congrArg (fun q : Nat => Value.int .i64 (q : Int)) (Go.Au.be_one _ (by omega)).symm) ?_
  refine T_nil ?_
  refine TT_step rfl ?_
  refine T_pev rfl rfl rfl rfl ?_
  refine T_nil ?_
  refine TT_step rfl ?_
  obtain ⟨hs133, r134, r135⟩ := (id r6)
  refine T_idxR 2 r134 rfl rfl rfl rfl rfl rfl rfl rfl rfl (by omega) (by omega) fun b130 o131 hc132 => ?_
  obtain ⟨a138, c139, hc141, hv137, r140⟩ := r135.at 2 (by omega)
  have hc142 := hc132 0 (.slice a138 ((Go.Au.ntAll 6 b).getD 2 []).length c139) (by simpa using hv137)
  simp only [Nat.add_zero] at hc142
  refine T_nil ?_
  refine TT_step rfl ?_
  refine T_loadGP (fun _ h => h) hc142 rfl rfl rfl rfl rfl rfl rfl ?_
  refine T_nil ?_
  refine TT_step rfl ?_
  refine T_idxR 0 r140 rfl rfl rfl rfl rfl rfl rfl rfl rfl (by omega) (by omega) fun b143 o144 hc145 => ?_
  have hc146 := hc145 0 (bV (((Go.Au.ntAll 6 b).getD 2 []).getD 0 0)) (at_b ((Go.Au.ntAll 6 b).getD 2 []) 0 (by omega))
  simp only [Nat.add_zero] at hc146
  refine T_nil ?_
  refine TT_step rfl ?_
  refine T_loadGP (fun _ h => h) hc146 rfl rfl rfl rfl rfl rfl rfl ?_
  refine T_nil ?_
  refine TT_step rfl ?_
  refine T_b2i rfl rfl rfl rfl rfl rfl rfl ?_
  refine T_re (v' := .int .i64 ((Go.Au.be (Go.Au.six b 2) : Nat) : Int)) (congrArg (fun q : Nat => Value.int .i64 (q : Int)) (Go.Au.be_one _ (by omega)).symm) ?_
  refine T_nil ?_
  refine TT_step rfl ?_
  refine T_pev rfl rfl rfl rfl ?_
  refine T_nil ?_
  refine TT_step rfl ?_
  obtain ⟨hs150, r151, r152⟩ := (id r6)
  refine T_idxR 5 r151 rfl rfl rfl rfl rfl rfl rfl rfl rfl (by omega) (by omega) fun b147 o148 hc149 => ?_
  obtain ⟨a155, c156, hc158, hv154, r157⟩ := r152.at 5 (by omega)
  have hc159 := hc149 0 (.slice a155 ((Go.Au.ntAll 6 b).getD 5 []).length c156) (by simpa using hv154)
  simp only [Nat.add_zero] at hc159
  refine T_nil ?_
  refine TT_step rfl ?_
  refine T_loadGP (fun _ h => h) hc159 rfl rfl rfl rfl rfl rfl rfl ?_
  refine T_nil ?_
  refine TT_fork rfl rfl ?_ ?_
  · refine T_callS rfl rfl g_aumbry_aumbryref13_hash rfl rfl rfl rfl ((hash_ok S112.le r157 (by omega)).mono ?_)
    rintro e w161 ⟨rfl, hB160⟩
    have S162 := S112.call hB160
    refine ⟨_, rfl, (((Hp.le.refl _)).trans S162.le), ?_⟩
    refine T_re (v' := hV (Go.Au.six b 5)) rfl ?_
    refine T_nil ?_
    refine TT_step rfl ?_
    refine T_buildS (cells := (qV 0 ((Go.Au.be (Go.Au.six b 1) : Nat) : Int) ((Go.Au.be (Go.Au.six b 2) : Nat) : Int) 0 (List.replicate 16 0) (Go.Au.six b 5) : Value).cells) rfl rfl rfl rfl rfl rfl (fill_q16r HL5) rfl rfl rfl ?_
    refine T_nil ?_
    refine TT_step rfl ?_
    refine T_allocS S162 (fun _ h => ((Hp.le.refl _)).trans h) rfl rfl rfl rfl rfl rfl rfl fun b163 w164 S165 => ?_
    refine T_nil ?_
    refine TT_step rfl ?_
    refine T_storeFS 0 S165 (fun _ h => ((Hp.le.refl _)).trans h) rfl rfl rfl rfl rfl rfl rfl rfl rfl (qV_sz (q_len List.length_replicate HL5 rfl)) (qV_sz (q_len List.length_replicate HL5 rfl)) (qV_one) fun w166 S167 => ?_
    refine T_nil ?_
    refine TT_done ?_
    refine W_seq ?_
    refine W_region ?_
    refine T_pev rfl rfl rfl rfl ?_
    obtain ⟨hs171, r172, r173⟩ := (id r6)
    refine T_idxR 0 r172 rfl rfl rfl rfl rfl rfl rfl rfl rfl (by omega) (by omega) fun b168 o169 hc170 => ?_
    obtain ⟨a176, c177, hc179, hv175, r178⟩ := r173.at 0 (by omega)
    have hc180 := hc170 0 (.slice a176 ((Go.Au.ntAll 6 b).getD 0 []).length c177) (by simpa using hv175)
    simp only [Nat.add_zero] at hc180
    refine T_loadG S167 hc180 rfl rfl rfl rfl rfl rfl rfl ?_
    refine T_callS rfl rfl g_aumbry_aumbryref01_Get rfl rfl rfl rfl ((getR_ok S167.le r178 (by omega)).mono ?_)
    rintro e w182 ⟨rfl, hB181⟩
    have S183 := S167.call hB181
    refine ⟨_, rfl, trivial, ?_⟩
    refine T_pev rfl rfl rfl rfl ?_
    refine T_pev rfl rfl rfl rfl ?_
    refine T_re (v' := .int .i64 ((Go.Au.be (Go.Au.six b 0) : Nat) : Int)) (congrArg (fun q : Nat => Value.int .i64 (q : Int)) (Go.Au.getV_yes (by omega))) ?_
    refine T_pev rfl rfl rfl rfl ?_
    refine T_fldm 0 rfl rfl rfl rfl rfl rfl (by decide) rfl rfl rfl ?_
    refine T_store1S 0 0 S183 (fun _ _ => trivial) rfl rfl rfl rfl rfl rfl rfl rfl rfl rfl rfl rfl (Nat.lt_of_lt_of_eq (show 0 < 52 by decide) (show (qV 0 ((Go.Au.be (Go.Au.six b 1) : Nat) : Int) ((Go.Au.be (Go.Au.six b 2) : Nat) : Int) 0 (List.replicate 16 0) (Go.Au.six b 5) : Value).cells.size = 52 from qV_sz (q_len List.length_replicate HL5 rfl)).symm) fun w184 S185 => ?_
    have S186 := S185.re 0 rfl (show (qV 0 ((Go.Au.be (Go.Au.six b 1) : Nat) : Int) ((Go.Au.be (Go.Au.six b 2) : Nat) : Int) 0 (List.replicate 16 0) (Go.Au.six b 5) : Value).cells.setIfInBounds 0 (.int .i64 ((Go.Au.be (Go.Au.six b 0) : Nat) : Int)) = (qV ((Go.Au.be (Go.Au.six b 0) : Nat) : Int) ((Go.Au.be (Go.Au.six b 1) : Nat) : Int) ((Go.Au.be (Go.Au.six b 2) : Nat) : Int) 0 (List.replicate 16 0) (Go.Au.six b 5) : Value).cells from qV_set0 _)
    refine T_nil ?_
    refine W_seq ?_
    refine W_region ?_
    refine T_pev rfl rfl rfl rfl ?_
    obtain ⟨hs190, r191, r192⟩ := (id r6)
    refine T_idxR 3 r191 rfl rfl rfl rfl rfl rfl rfl rfl rfl (by omega) (by omega) fun b187 o188 hc189 => ?_
    obtain ⟨a195, c196, hc198, hv194, r197⟩ := r192.at 3 (by omega)
    have hc199 := hc189 0 (.slice a195 ((Go.Au.ntAll 6 b).getD 3 []).length c196) (by simpa using hv194)
    simp only [Nat.add_zero] at hc199
    refine T_loadG S186 hc199 rfl rfl rfl rfl rfl rfl rfl ?_
    refine T_callS rfl rfl g_aumbry_aumbryref01_Get rfl rfl rfl rfl ((getR_ok S186.le r197 (by omega)).mono ?_)
    rintro e w201 ⟨rfl, hB200⟩
    have S202 := S186.call hB200
    refine ⟨_, rfl, trivial, ?_⟩
    refine T_pev rfl rfl rfl rfl ?_
    refine T_pev rfl rfl rfl rfl ?_
    refine T_re (v' := .int .i64 ((Go.Au.be (Go.Au.six b 3) : Nat) : Int)) (congrArg (fun q : Nat => Value.int .i64 (q : Int)) (Go.Au.getV_yes (by omega))) ?_
    refine T_pev rfl rfl rfl rfl ?_
    refine T_fldm 3 rfl rfl rfl rfl rfl rfl (by decide) rfl rfl rfl ?_
    refine T_store1S 0 3 S202 (fun _ _ => trivial) rfl rfl rfl rfl rfl rfl rfl rfl rfl rfl rfl rfl (Nat.lt_of_lt_of_eq (show 3 < 52 by decide) (show (qV ((Go.Au.be (Go.Au.six b 0) : Nat) : Int) ((Go.Au.be (Go.Au.six b 1) : Nat) : Int) ((Go.Au.be (Go.Au.six b 2) : Nat) : Int) 0 (List.replicate 16 0) (Go.Au.six b 5) : Value).cells.size = 52 from qV_sz (q_len List.length_replicate HL5 rfl)).symm) fun w203 S204 => ?_
    have S205 := S204.re 0 rfl (show (qV ((Go.Au.be (Go.Au.six b 0) : Nat) : Int) ((Go.Au.be (Go.Au.six b 1) : Nat) : Int) ((Go.Au.be (Go.Au.six b 2) : Nat) : Int) 0 (List.replicate 16 0) (Go.Au.six b 5) : Value).cells.setIfInBounds 3 (.int .i64 ((Go.Au.be (Go.Au.six b 3) : Nat) : Int)) = (qV ((Go.Au.be (Go.Au.six b 0) : Nat) : Int) ((Go.Au.be (Go.Au.six b 1) : Nat) : Int) ((Go.Au.be (Go.Au.six b 2) : Nat) : Int) ((Go.Au.be (Go.Au.six b 3) : Nat) : Int) (List.replicate 16 0) (Go.Au.six b 5) : Value).cells from qV_set3 _)
    refine T_nil ?_
    refine W_seq ?_
    refine W_seq ?_
    refine W_region ?_
    refine T_pev rfl rfl rfl rfl ?_
    refine T_nil ?_
    refine W_block ?_
    refine W_loop (fun M ρ w' => ∃ (k : Nat) (G206 : Hp), M = 16 - k ∧ k ≤ 16 ∧ ρ = [(2, .pointer (some ⟨b1, 0, none⟩)), (4, .slice a4 (Go.Au.ntAll 6 b).length c5), (6, .pointer (some ⟨b163, 0, none⟩)), (91, .int .i64 (k : Int))] ∧ G10.le G206 ∧ St w H G206 [.blk b163 (qV ((Go.Au.be (Go.Au.six b 0) : Nat) : Int) ((Go.Au.be (Go.Au.six b 1) : Nat) : Int) ((Go.Au.be (Go.Au.six b 2) : Nat) : Int) ((Go.Au.be (Go.Au.six b 3) : Nat) : Int) (hashTo 16 (Go.Au.six b 4) k) (Go.Au.six b 5) : Value).cells 52, .blk b1 (qV 0 0 0 0 (List.replicate 16 0) (List.replicate 32 0) : Value).cells 52] w')
      (16 - 0) [(2, .pointer (some ⟨b1, 0, none⟩)), (4, .slice a4 (Go.Au.ntAll 6 b).length c5), (6, .pointer (some ⟨b163, 0, none⟩)), (91, .int .i64 ((0 : Nat) : Int))] ⟨rfl, rfl, rfl, (congrArg (fun z => some (Value.int .i64 z)) (by omega)), trivial⟩ ⟨0, G10, rfl, (by omega), rfl, Hp.le.refl _, S205⟩ ?_
    rintro M ρ w208 ⟨k, G206, rfl, hp210, rfl, hl207, S209⟩
    refine W_seq ?_
    refine W_region ?_
    refine T_pev rfl rfl rfl rfl ?_
    refine T_nil ?_
    refine W_seq ?_
    refine W_cond_dec rfl (fun h211 => ?_) (fun h211 => ?_)
    · refine W_skip ?_
      refine W_seq ?_
      refine W_block ?_
      refine W_seq ?_
      refine W_region ?_
      refine T_pev rfl rfl rfl rfl ?_
      refine T_pev rfl rfl rfl rfl ?_
      refine T_nil ?_
      refine W_region ?_
      refine T_pev rfl rfl rfl rfl ?_
      refine T_pev rfl rfl rfl rfl ?_
      obtain ⟨hs215, r216, r217⟩ := (r6.mono hl207)
      refine T_idxR 4 r216 rfl rfl rfl rfl rfl rfl rfl rfl rfl (by omega) (by omega) fun b212 o213 hc214 => ?_
      obtain ⟨a220, c221, hc223, hv219, r222⟩ := r217.at 4 (by omega)
      have hc224 := hc214 0 (.slice a220 ((Go.Au.ntAll 6 b).getD 4 []).length c221) (by simpa using hv219)
      simp only [Nat.add_zero] at hc224
      refine T_loadG S209 hc224 rfl rfl rfl rfl rfl rfl rfl ?_
      refine T_pev rfl rfl rfl rfl ?_
      refine T_idxR k r222 rfl rfl rfl rfl rfl rfl rfl rfl rfl (by omega) (by omega) fun b225 o226 hc227 => ?_
      have hc228 := hc227 0 (bV (((Go.Au.ntAll 6 b).getD 4 []).getD k 0)) (at_b ((Go.Au.ntAll 6 b).getD 4 []) k (by omega))
      simp only [Nat.add_zero] at hc228
      refine T_loadG S209 hc228 rfl rfl rfl rfl rfl rfl rfl ?_
      refine T_re (v' := bV ((Go.Au.six b 4).getD k 0)) rfl ?_
      refine T_fldm 4 rfl rfl rfl rfl rfl rfl (by decide) rfl rfl rfl ?_
      refine T_idxA1 rfl rfl rfl rfl rfl rfl rfl rfl rfl (by first | omega | decide) ?_
      refine T_store1S 0 (4 + k) S209 (fun _ _ => trivial) rfl rfl rfl rfl rfl rfl rfl rfl rfl rfl rfl (by omega) (by rw [qV_sz (q_len (hashTo_len _ _ _) HL5 rfl)]; omega) fun w229 S230 => ?_
      rw [(qV_putS (by omega))] at S230
      refine T_nil ?_
      refine W_region ?_
      refine T_ari rfl rfl rfl rfl (by omega) ?_
      refine T_pev rfl rfl rfl rfl ?_
      refine T_nil ?_
      exact ⟨16 - (k + 1), [(2, .pointer (some ⟨b1, 0, none⟩)), (4, .slice a4 (Go.Au.ntAll 6 b).length c5), (6, .pointer (some ⟨b163, 0, none⟩)), (91, .int .i64 ((k + 1 : Nat) : Int))], by omega, ⟨rfl, rfl, rfl, (congrArg (fun z => some (Value.int .i64 z)) (by omega)), trivial⟩, k + 1, G206, rfl, (by omega), rfl, hl207, S230⟩
    refine W_exit ?_
    refine W_seq ?_
    refine W_seq ?_
    refine W_region ?_
    refine T_fldm 0 rfl rfl rfl rfl rfl rfl (by decide) rfl rfl rfl ?_
    refine T_loadS 0 0 S209 rfl rfl rfl rfl rfl rfl rfl rfl rfl qV_0 ?_
    refine T_pev rfl rfl rfl rfl ?_
    refine T_pev rfl rfl rfl rfl ?_
    refine T_part (t := 107) rfl (List.cons_ne_nil _ _) (fun h231' => ?_) (fun h231' => ?_)
    · have h231 := of_decide_eq_true h231'
      refine T_no rfl rfl rfl rfl rfl rfl ?_
      refine T_no rfl rfl rfl rfl rfl rfl ?_
      refine T_no rfl rfl rfl rfl rfl rfl ?_
      refine T_pev rfl rfl rfl rfl ?_
      refine T_pev rfl rfl rfl rfl ?_
      refine T_no rfl rfl rfl rfl rfl rfl ?_
      refine T_no rfl rfl rfl rfl rfl rfl ?_
      refine T_no rfl rfl rfl rfl rfl rfl ?_
      refine T_pev rfl rfl rfl rfl ?_
      refine T_pev rfl rfl rfl rfl ?_
      refine T_no rfl rfl rfl rfl rfl rfl ?_
      refine T_no rfl rfl rfl rfl rfl rfl ?_
      refine T_no rfl rfl rfl rfl rfl rfl ?_
      refine T_no rfl rfl rfl rfl rfl rfl ?_
      refine T_no rfl rfl rfl rfl rfl rfl ?_
      refine T_pev rfl rfl rfl rfl ?_
      refine T_pev rfl rfl rfl rfl ?_
      refine T_no rfl rfl rfl rfl rfl rfl ?_
      refine T_no rfl rfl rfl rfl rfl rfl ?_
      refine T_no rfl rfl rfl rfl rfl rfl ?_
      refine T_pev rfl rfl rfl rfl ?_
      refine T_pev rfl rfl rfl rfl ?_
      refine T_no rfl rfl rfl rfl rfl rfl ?_
      refine T_no rfl rfl rfl rfl rfl rfl ?_
      refine T_no rfl rfl rfl rfl rfl rfl ?_
      refine T_pev rfl rfl rfl rfl ?_
      refine T_nil ?_
      refine W_cond_true rfl ?_
      refine W_seq ?_
      refine W_region ?_
      refine T_buildS (cells := (qz16 : Value).cells) rfl rfl rfl rfl rfl rfl rfl rfl rfl rfl ?_
      refine T_storeFS 1 S209 (fun _ _ => trivial) rfl rfl rfl rfl rfl rfl rfl rfl rfl (qV_sz (q_len List.length_replicate List.length_replicate rfl)) (qV_sz (q_len List.length_replicate List.length_replicate rfl)) (qV_one) fun w232 S233 => ?_
      refine T_pev rfl rfl rfl rfl ?_
      refine T_nil ?_
      refine W_ret ?_
      refine ⟨_, ⟨_, _, _, rfl, rfl, run_loadVarA rfl rfl (qV_sz (q_len List.length_replicate List.length_replicate rfl)) (S233.cells 1 rfl), ⟨_, _, rfl, rfl, rfl⟩⟩, ?_⟩
      have HNO : ¬ Go.Au.VerOk b := by
        intro hq
        obtain ⟨q0, q1, q2, q3, q4, q5, q6, q7, q8, q9, q10, q11, q12⟩ := hq
        have e0 : ((Go.Au.ntAll 6 b).getD 0 []).length = _ := q1
        have e1 : ((Go.Au.ntAll 6 b).getD 1 []).length = _ := q2
        have e2 : ((Go.Au.ntAll 6 b).getD 2 []).length = _ := q3
        have e3 : ((Go.Au.ntAll 6 b).getD 3 []).length = _ := q4
        have e4 : ((Go.Au.ntAll 6 b).getD 4 []).length = _ := q5
        have e5 : ((Go.Au.ntAll 6 b).getD 5 []).length = _ := q6
        first | exact h231 q0 | omega | exact h231 (numV q1 q2 q3 q4) | exact h231 (Go.Au.packU_six q0 q1 q2 q3 q4)
      exact ⟨v_no HNO, S233.below⟩
    have h231 := of_decide_eq_false h231'
    refine T_yes rfl rfl rfl ?_ rfl
    refine T_fldm 0 rfl rfl rfl rfl rfl rfl (by decide) rfl rfl rfl ?_
    refine T_yes rfl rfl rfl ?_ rfl
    refine T_loadS 0 0 S209 rfl rfl rfl rfl rfl rfl rfl rfl rfl qV_0 ?_
    refine T_yes rfl rfl rfl ?_ rfl
    refine T_pev rfl rfl rfl rfl ?_
    refine T_pev rfl rfl rfl rfl ?_
    refine T_pev rfl rfl rfl rfl ?_
    refine T_part (t := 112) rfl (List.cons_ne_nil _ _) (fun h234' => ?_) (fun h234' => ?_)
    · have h234 := of_decide_eq_true h234'
      refine T_no rfl rfl rfl rfl rfl rfl ?_
      refine T_no rfl rfl rfl rfl rfl rfl ?_
      refine T_no rfl rfl rfl rfl rfl rfl ?_
      refine T_pev rfl rfl rfl rfl ?_
      refine T_pev rfl rfl rfl rfl ?_
      refine T_no rfl rfl rfl rfl rfl rfl ?_
      refine T_no rfl rfl rfl rfl rfl rfl ?_
      refine T_no rfl rfl rfl rfl rfl rfl ?_
      refine T_no rfl rfl rfl rfl rfl rfl ?_
      refine T_no rfl rfl rfl rfl rfl rfl ?_
      refine T_pev rfl rfl rfl rfl ?_
      refine T_pev rfl rfl rfl rfl ?_
      refine T_no rfl rfl rfl rfl rfl rfl ?_
      refine T_no rfl rfl rfl rfl rfl rfl ?_
      refine T_no rfl rfl rfl rfl rfl rfl ?_
      refine T_pev rfl rfl rfl rfl ?_
      refine T_pev rfl rfl rfl rfl ?_
      refine T_no rfl rfl rfl rfl rfl rfl ?_
      refine T_no rfl rfl rfl rfl rfl rfl ?_
      refine T_no rfl rfl rfl rfl rfl rfl ?_
      refine T_pev rfl rfl rfl rfl ?_
      refine T_nil ?_
      refine W_cond_true rfl ?_
      refine W_seq ?_
      refine W_region ?_
      refine T_buildS (cells := (qz16 : Value).cells) rfl rfl rfl rfl rfl rfl rfl rfl rfl rfl ?_
      refine T_storeFS 1 S209 (fun _ _ => trivial) rfl rfl rfl rfl rfl rfl rfl rfl rfl (qV_sz (q_len List.length_replicate List.length_replicate rfl)) (qV_sz (q_len List.length_replicate List.length_replicate rfl)) (qV_one) fun w235 S236 => ?_
      refine T_pev rfl rfl rfl rfl ?_
      refine T_nil ?_
      refine W_ret ?_
      refine ⟨_, ⟨_, _, _, rfl, rfl, run_loadVarA rfl rfl (qV_sz (q_len List.length_replicate List.length_replicate rfl)) (S236.cells 1 rfl), ⟨_, _, rfl, rfl, rfl⟩⟩, ?_⟩
      have HNO : ¬ Go.Au.VerOk b := by
        intro hq
        obtain ⟨q0, q1, q2, q3, q4, q5, q6, q7, q8, q9, q10, q11, q12⟩ := hq
        have e0 : ((Go.Au.ntAll 6 b).getD 0 []).length = _ := q1
        have e1 : ((Go.Au.ntAll 6 b).getD 1 []).length = _ := q2
        have e2 : ((Go.Au.ntAll 6 b).getD 2 []).length = _ := q3
        have e3 : ((Go.Au.ntAll 6 b).getD 3 []).length = _ := q4
        have e4 : ((Go.Au.ntAll 6 b).getD 4 []).length = _ := q5
        have e5 : ((Go.Au.ntAll 6 b).getD 5 []).length = _ := q6
        first | exact h234 q0 | omega | exact h234 (numV q1 q2 q3 q4) | exact h234 (Go.Au.packU_six q0 q1 q2 q3 q4)
      exact ⟨v_no HNO, S236.below⟩
    have h234 := of_decide_eq_false h234'
    refine T_yes rfl rfl rfl ?_ rfl
    refine T_fldm 1 rfl rfl rfl rfl rfl rfl (by decide) rfl rfl rfl ?_
    refine T_yes rfl rfl rfl ?_ rfl
    refine T_loadS 0 1 S209 rfl rfl rfl rfl rfl rfl rfl rfl rfl qV_1 ?_
    refine T_yes rfl rfl rfl ?_ rfl
    refine T_pev rfl rfl rfl rfl ?_
    refine T_pev rfl rfl rfl rfl ?_
    refine T_pev rfl rfl rfl rfl ?_
    refine T_part (t := 117) rfl (List.cons_ne_nil _ _) (fun h237' => ?_) (fun h237' => ?_)
    · have h237 := of_decide_eq_true h237'
      refine T_no rfl rfl rfl rfl rfl rfl ?_
      refine T_no rfl rfl rfl rfl rfl rfl ?_
      refine T_no rfl rfl rfl rfl rfl rfl ?_
      refine T_no rfl rfl rfl rfl rfl rfl ?_
      refine T_no rfl rfl rfl rfl rfl rfl ?_
      refine T_pev rfl rfl rfl rfl ?_
      refine T_pev rfl rfl rfl rfl ?_
      refine T_no rfl rfl rfl rfl rfl rfl ?_
      refine T_no rfl rfl rfl rfl rfl rfl ?_
      refine T_no rfl rfl rfl rfl rfl rfl ?_
      refine T_pev rfl rfl rfl rfl ?_
      refine T_pev rfl rfl rfl rfl ?_
      refine T_no rfl rfl rfl rfl rfl rfl ?_
      refine T_no rfl rfl rfl rfl rfl rfl ?_
      refine T_no rfl rfl rfl rfl rfl rfl ?_
      refine T_pev rfl rfl rfl rfl ?_
      refine T_nil ?_
      refine W_cond_true rfl ?_
      refine W_seq ?_
      refine W_region ?_
      refine T_buildS (cells := (qz16 : Value).cells) rfl rfl rfl rfl rfl rfl rfl rfl rfl rfl ?_
      refine T_storeFS 1 S209 (fun _ _ => trivial) rfl rfl rfl rfl rfl rfl rfl rfl rfl (qV_sz (q_len List.length_replicate List.length_replicate rfl)) (qV_sz (q_len List.length_replicate List.length_replicate rfl)) (qV_one) fun w238 S239 => ?_
      refine T_pev rfl rfl rfl rfl ?_
      refine T_nil ?_
      refine W_ret ?_
      refine ⟨_, ⟨_, _, _, rfl, rfl, run_loadVarA rfl rfl (qV_sz (q_len List.length_replicate List.length_replicate rfl)) (S239.cells 1 rfl), ⟨_, _, rfl, rfl, rfl⟩⟩, ?_⟩
      have HNO : ¬ Go.Au.VerOk b := by
        intro hq
        obtain ⟨q0, q1, q2, q3, q4, q5, q6, q7, q8, q9, q10, q11, q12⟩ := hq
        have e0 : ((Go.Au.ntAll 6 b).getD 0 []).length = _ := q1
        have e1 : ((Go.Au.ntAll 6 b).getD 1 []).length = _ := q2
        have e2 : ((Go.Au.ntAll 6 b).getD 2 []).length = _ := q3
        have e3 : ((Go.Au.ntAll 6 b).getD 3 []).length = _ := q4
        have e4 : ((Go.Au.ntAll 6 b).getD 4 []).length = _ := q5
        have e5 : ((Go.Au.ntAll 6 b).getD 5 []).length = _ := q6
        first | exact h237 q0 | omega | exact h237 (numV q1 q2 q3 q4) | exact h237 (Go.Au.packU_six q0 q1 q2 q3 q4)
      exact ⟨v_no HNO, S239.below⟩
    have h237 := of_decide_eq_false h237'
    refine T_yes rfl rfl rfl ?_ rfl
    refine T_fldm 1 rfl rfl rfl rfl rfl rfl (by decide) rfl rfl rfl ?_
    refine T_yes rfl rfl rfl ?_ rfl
    refine T_loadS 0 1 S209 rfl rfl rfl rfl rfl rfl rfl rfl rfl qV_1 ?_
    refine T_yes rfl rfl rfl ?_ rfl
    refine T_fldm 2 rfl rfl rfl rfl rfl rfl (by decide) rfl rfl rfl ?_
    refine T_yes rfl rfl rfl ?_ rfl
    refine T_loadS 0 2 S209 rfl rfl rfl rfl rfl rfl rfl rfl rfl qV_2 ?_
    refine T_yes rfl rfl rfl ?_ rfl
    refine T_pev rfl rfl rfl rfl ?_
    refine T_pev rfl rfl rfl rfl ?_
    refine T_pev rfl rfl rfl rfl ?_
    refine T_part (t := 124) rfl (List.cons_ne_nil _ _) (fun h240' => ?_) (fun h240' => ?_)
    · have h240 := of_decide_eq_true h240'
      refine T_no rfl rfl rfl rfl rfl rfl ?_
      refine T_no rfl rfl rfl rfl rfl rfl ?_
      refine T_no rfl rfl rfl rfl rfl rfl ?_
      refine T_pev rfl rfl rfl rfl ?_
      refine T_pev rfl rfl rfl rfl ?_
      refine T_no rfl rfl rfl rfl rfl rfl ?_
      refine T_no rfl rfl rfl rfl rfl rfl ?_
      refine T_no rfl rfl rfl rfl rfl rfl ?_
      refine T_pev rfl rfl rfl rfl ?_
      refine T_nil ?_
      refine W_cond_true rfl ?_
      refine W_seq ?_
      refine W_region ?_
      refine T_buildS (cells := (qz16 : Value).cells) rfl rfl rfl rfl rfl rfl rfl rfl rfl rfl ?_
      refine T_storeFS 1 S209 (fun _ _ => trivial) rfl rfl rfl rfl rfl rfl rfl rfl rfl (qV_sz (q_len List.length_replicate List.length_replicate rfl)) (qV_sz (q_len List.length_replicate List.length_replicate rfl)) (qV_one) fun w241 S242 => ?_
      refine T_pev rfl rfl rfl rfl ?_
      refine T_nil ?_
      refine W_ret ?_
      refine ⟨_, ⟨_, _, _, rfl, rfl, run_loadVarA rfl rfl (qV_sz (q_len List.length_replicate List.length_replicate rfl)) (S242.cells 1 rfl), ⟨_, _, rfl, rfl, rfl⟩⟩, ?_⟩
      have HNO : ¬ Go.Au.VerOk b := by
        intro hq
        obtain ⟨q0, q1, q2, q3, q4, q5, q6, q7, q8, q9, q10, q11, q12⟩ := hq
        have e0 : ((Go.Au.ntAll 6 b).getD 0 []).length = _ := q1
        have e1 : ((Go.Au.ntAll 6 b).getD 1 []).length = _ := q2
        have e2 : ((Go.Au.ntAll 6 b).getD 2 []).length = _ := q3
        have e3 : ((Go.Au.ntAll 6 b).getD 3 []).length = _ := q4
        have e4 : ((Go.Au.ntAll 6 b).getD 4 []).length = _ := q5
        have e5 : ((Go.Au.ntAll 6 b).getD 5 []).length = _ := q6
        first | exact h240 q0 | omega | exact h240 (numV q1 q2 q3 q4) | exact h240 (Go.Au.packU_six q0 q1 q2 q3 q4)
      exact ⟨v_no HNO, S242.below⟩
    have h240 := of_decide_eq_false h240'
    refine T_yes rfl rfl rfl ?_ rfl
    refine T_fldm 2 rfl rfl rfl rfl rfl rfl (by decide) rfl rfl rfl ?_
    refine T_yes rfl rfl rfl ?_ rfl
    refine T_loadS 0 2 S209 rfl rfl rfl rfl rfl rfl rfl rfl rfl qV_2 ?_
    refine T_yes rfl rfl rfl ?_ rfl
    refine T_pev rfl rfl rfl rfl ?_
    refine T_pev rfl rfl rfl rfl ?_
    refine T_pev rfl rfl rfl rfl ?_
    refine T_part (t := 129) rfl (List.cons_ne_nil _ _) (fun h243' => ?_) (fun h243' => ?_)
    · have h243 := of_decide_eq_true h243'
      refine T_no rfl rfl rfl rfl rfl rfl ?_
      refine T_no rfl rfl rfl rfl rfl rfl ?_
      refine T_no rfl rfl rfl rfl rfl rfl ?_
      refine T_pev rfl rfl rfl rfl ?_
      refine T_nil ?_
      refine W_cond_true rfl ?_
      refine W_seq ?_
      refine W_region ?_
      refine T_buildS (cells := (qz16 : Value).cells) rfl rfl rfl rfl rfl rfl rfl rfl rfl rfl ?_
      refine T_storeFS 1 S209 (fun _ _ => trivial) rfl rfl rfl rfl rfl rfl rfl rfl rfl (qV_sz (q_len List.length_replicate List.length_replicate rfl)) (qV_sz (q_len List.length_replicate List.length_replicate rfl)) (qV_one) fun w244 S245 => ?_
      refine T_pev rfl rfl rfl rfl ?_
      refine T_nil ?_
      refine W_ret ?_
      refine ⟨_, ⟨_, _, _, rfl, rfl, run_loadVarA rfl rfl (qV_sz (q_len List.length_replicate List.length_replicate rfl)) (S245.cells 1 rfl), ⟨_, _, rfl, rfl, rfl⟩⟩, ?_⟩
      have HNO : ¬ Go.Au.VerOk b := by
        intro hq
        obtain ⟨q0, q1, q2, q3, q4, q5, q6, q7, q8, q9, q10, q11, q12⟩ := hq
        have e0 : ((Go.Au.ntAll 6 b).getD 0 []).length = _ := q1
        have e1 : ((Go.Au.ntAll 6 b).getD 1 []).length = _ := q2
        have e2 : ((Go.Au.ntAll 6 b).getD 2 []).length = _ := q3
        have e3 : ((Go.Au.ntAll 6 b).getD 3 []).length = _ := q4
        have e4 : ((Go.Au.ntAll 6 b).getD 4 []).length = _ := q5
        have e5 : ((Go.Au.ntAll 6 b).getD 5 []).length = _ := q6
        first | exact h243 q0 | omega | exact h243 (numV q1 q2 q3 q4) | exact h243 (Go.Au.packU_six q0 q1 q2 q3 q4)
      exact ⟨v_no HNO, S245.below⟩
    have h243 := of_decide_eq_false h243'
    refine T_yes rfl rfl rfl ?_ rfl
    refine T_fldm 3 rfl rfl rfl rfl rfl rfl (by decide) rfl rfl rfl ?_
    refine T_yes rfl rfl rfl ?_ rfl
    refine T_loadS 0 3 S209 rfl rfl rfl rfl rfl rfl rfl rfl rfl qV_3 ?_
    refine T_yes rfl rfl rfl ?_ rfl
    refine T_pev rfl rfl rfl rfl ?_
    refine T_pev rfl rfl rfl rfl ?_
    refine T_nil ?_
    refine W_cond_dec rfl (fun h246 => ?_) (fun h246 => ?_)
    · refine W_seq ?_
      refine W_region ?_
      refine T_buildS (cells := (qz16 : Value).cells) rfl rfl rfl rfl rfl rfl rfl rfl rfl rfl ?_
      refine T_storeFS 1 S209 (fun _ _ => trivial) rfl rfl rfl rfl rfl rfl rfl rfl rfl (qV_sz (q_len List.length_replicate List.length_replicate rfl)) (qV_sz (q_len List.length_replicate List.length_replicate rfl)) (qV_one) fun w247 S248 => ?_
      refine T_pev rfl rfl rfl rfl ?_
      refine T_nil ?_
      refine W_ret ?_
      refine ⟨_, ⟨_, _, _, rfl, rfl, run_loadVarA rfl rfl (qV_sz (q_len List.length_replicate List.length_replicate rfl)) (S248.cells 1 rfl), ⟨_, _, rfl, rfl, rfl⟩⟩, ?_⟩
      have HNO : ¬ Go.Au.VerOk b := by
        intro hq
        obtain ⟨q0, q1, q2, q3, q4, q5, q6, q7, q8, q9, q10, q11, q12⟩ := hq
        have e0 : ((Go.Au.ntAll 6 b).getD 0 []).length = _ := q1
        have e1 : ((Go.Au.ntAll 6 b).getD 1 []).length = _ := q2
        have e2 : ((Go.Au.ntAll 6 b).getD 2 []).length = _ := q3
        have e3 : ((Go.Au.ntAll 6 b).getD 3 []).length = _ := q4
        have e4 : ((Go.Au.ntAll 6 b).getD 4 []).length = _ := q5
        have e5 : ((Go.Au.ntAll 6 b).getD 5 []).length = _ := q6
        first | exact h246 q0 | omega | exact h246 (numV q1 q2 q3 q4) | exact h246 (Go.Au.packU_six q0 q1 q2 q3 q4)
      exact ⟨v_no HNO, S248.below⟩
    refine W_skip ?_
    refine W_seq ?_
    refine W_region ?_
    refine T_loadFS 0 S209 rfl rfl rfl rfl rfl rfl rfl rfl rfl (qV_sz (q_len (hashTo_len _ _ _) HL5 rfl)) ?_
    refine T_re (v' := qV ((Go.Au.be (Go.Au.six b 0) : Nat) : Int) ((Go.Au.be (Go.Au.six b 1) : Nat) : Int) ((Go.Au.be (Go.Au.six b 2) : Nat) : Int) ((Go.Au.be (Go.Au.six b 3) : Nat) : Int) (Go.Au.six b 4) (Go.Au.six b 5)) (by rw [show k = 16 by omega, hashTo_full HL4]; rfl) ?_
    refine T_storeFS 1 S209 (fun _ _ => trivial) rfl rfl rfl rfl rfl rfl rfl rfl rfl (qV_sz (q_len HL4 HL5 rfl)) (qV_sz (q_len HL4 HL5 rfl)) (qV_one) fun w249 S250 => ?_
    refine T_pev rfl rfl rfl rfl ?_
    refine T_nil ?_
    refine W_ret ?_
    refine ⟨_, ⟨_, _, _, rfl, rfl, run_loadVarA rfl rfl (qV_sz (q_len HL4 HL5 rfl)) (S250.cells 1 rfl), ⟨_, _, rfl, rfl, rfl⟩⟩, ?_⟩
    exact ⟨v_yes ⟨HA, HQ0, HQ1, HQ2, HQ3, HL4, HL5, by omega, by omega, by omega, by omega, by omega, by omega⟩, S250.below⟩
  refine T_allocS S112 (fun _ h => ((Hp.le.refl _)).trans h) rfl rfl rfl rfl rfl rfl rfl fun b251 w252 S253 => ?_
  refine T_nil ?_
  refine TT_step rfl ?_
  refine T_callS rfl rfl g_aumbry_aumbryref13_hash rfl rfl rfl rfl ((hash_ok S253.le r157 (by omega)).mono ?_)
  rintro e w255 ⟨rfl, hB254⟩
  have S256 := S253.call hB254
  refine ⟨_, rfl, (((Hp.le.refl _)).trans S256.le), ?_⟩
  refine T_re (v' := hV (Go.Au.six b 5)) rfl ?_
  refine T_nil ?_
  refine TT_step rfl ?_
  refine T_buildS (cells := (qV 0 ((Go.Au.be (Go.Au.six b 1) : Nat) : Int) ((Go.Au.be (Go.Au.six b 2) : Nat) : Int) 0 (List.replicate 16 0) (Go.Au.six b 5) : Value).cells) rfl rfl rfl rfl rfl rfl (fill_q16r HL5) rfl rfl rfl ?_
  refine T_nil ?_
  refine TT_step rfl ?_
  refine T_storeFS 0 S256 (fun _ h => ((Hp.le.refl _)).trans h) rfl rfl rfl rfl rfl rfl rfl rfl rfl (qV_sz (q_len List.length_replicate HL5 rfl)) (qV_sz (q_len List.length_replicate HL5 rfl)) (qV_one) fun w257 S258 => ?_
  refine T_nil ?_
  refine TT_done ?_
  refine W_seq ?_
  refine W_region ?_
  refine T_pev rfl rfl rfl rfl ?_
  obtain ⟨hs262, r263, r264⟩ := (id r6)
  refine T_idxR 0 r263 rfl rfl rfl rfl rfl rfl rfl rfl rfl (by omega) (by omega) fun b259 o260 hc261 => ?_
  obtain ⟨a267, c268, hc270, hv266, r269⟩ := r264.at 0 (by omega)
  have hc271 := hc261 0 (.slice a267 ((Go.Au.ntAll 6 b).getD 0 []).length c268) (by simpa using hv266)
  simp only [Nat.add_zero] at hc271
  refine T_loadG S258 hc271 rfl rfl rfl rfl rfl rfl rfl ?_
  refine T_callS rfl rfl g_aumbry_aumbryref01_Get rfl rfl rfl rfl ((getR_ok S258.le r269 (by omega)).mono ?_)
  rintro e w273 ⟨rfl, hB272⟩
  have S274 := S258.call hB272
  refine ⟨_, rfl, trivial, ?_⟩
  refine T_pev rfl rfl rfl rfl ?_
  refine T_pev rfl rfl rfl rfl ?_
  refine T_re (v' := .int .i64 ((Go.Au.be (Go.Au.six b 0) : Nat) : Int)) (congrArg (fun q : Nat => Value.int .i64 (q : Int)) (Go.Au.getV_yes (by omega))) ?_
  refine T_pev rfl rfl rfl rfl ?_
  refine T_fldm 0 rfl rfl rfl rfl rfl rfl (by decide) rfl rfl rfl ?_
  refine T_store1S 0 0 S274 (fun _ _ => trivial) rfl rfl rfl rfl rfl rfl rfl rfl rfl rfl rfl rfl (Nat.lt_of_lt_of_eq (show 0 < 52 by decide) (show (qV 0 ((Go.Au.be (Go.Au.six b 1) : Nat) : Int) ((Go.Au.be (Go.Au.six b 2) : Nat) : Int) 0 (List.replicate 16 0) (Go.Au.six b 5) : Value).cells.size = 52 from qV_sz (q_len List.length_replicate HL5 rfl)).symm) fun w275 S276 => ?_
  have S277 := S276.re 0 rfl (show (qV 0 ((Go.Au.be (Go.Au.six b 1) : Nat) : Int) ((Go.Au.be (Go.Au.six b 2) : Nat) : Int) 0 (List.replicate 16 0) (Go.Au.six b 5) : Value).cells.setIfInBounds 0 (.int .i64 ((Go.Au.be (Go.Au.six b 0) : Nat) : Int)) = (qV ((Go.Au.be (Go.Au.six b 0) : Nat) : Int) ((Go.Au.be (Go.Au.six b 1) : Nat) : Int) ((Go.Au.be (Go.Au.six b 2) : Nat) : Int) 0 (List.replicate 16 0) (Go.Au.six b 5) : Value).cells from qV_set0 _)
  refine T_nil ?_
  refine W_seq ?_
  refine W_region ?_
  refine T_pev rfl rfl rfl rfl ?_
  obtain ⟨hs281, r282, r283⟩ := (id r6)
  refine T_idxR 3 r282 rfl rfl rfl rfl rfl rfl rfl rfl rfl (by omega) (by omega) fun b278 o279 hc280 => ?_
  obtain ⟨a286, c287, hc289, hv285, r288⟩ := r283.at 3 (by omega)
  have hc290 := hc280 0 (.slice a286 ((Go.Au.ntAll 6 b).getD 3 []).length c287) (by simpa using hv285)
  simp only [Nat.add_zero] at hc290
  refine T_loadG S277 hc290 rfl rfl rfl rfl rfl rfl rfl ?_
  refine T_callS rfl rfl g_aumbry_aumbryref01_Get rfl rfl rfl rfl ((getR_ok S277.le r288 (by omega)).mono ?_)
  rintro e w292 ⟨rfl, hB291⟩
  have S293 := S277.call hB291
  refine ⟨_, rfl, trivial, ?_⟩
  refine T_pev rfl rfl rfl rfl ?_
  refine T_pev rfl rfl rfl rfl ?_
  refine T_re (v' := .int .i64 ((Go.Au.be (Go.Au.six b 3) : Nat) : Int)) (congrArg (fun q : Nat => Value.int .i64 (q : Int)) (Go.Au.getV_yes (by omega))) ?_
  refine T_pev rfl rfl rfl rfl ?_
  refine T_fldm 3 rfl rfl rfl rfl rfl rfl (by decide) rfl rfl rfl ?_
  refine T_store1S 0 3 S293 (fun _ _ => trivial) rfl rfl rfl rfl rfl rfl rfl rfl rfl rfl rfl rfl (Nat.lt_of_lt_of_eq (show 3 < 52 by decide) (show (qV ((Go.Au.be (Go.Au.six b 0) : Nat) : Int) ((Go.Au.be (Go.Au.six b 1) : Nat) : Int) ((Go.Au.be (Go.Au.six b 2) : Nat) : Int) 0 (List.replicate 16 0) (Go.Au.six b 5) : Value).cells.size = 52 from qV_sz (q_len List.length_replicate HL5 rfl)).symm) fun w294 S295 => ?_
  have S296 := S295.re 0 rfl (show (qV ((Go.Au.be (Go.Au.six b 0) : Nat) : Int) ((Go.Au.be (Go.Au.six b 1) : Nat) : Int) ((Go.Au.be (Go.Au.six b 2) : Nat) : Int) 0 (List.replicate 16 0) (Go.Au.six b 5) : Value).cells.setIfInBounds 3 (.int .i64 ((Go.Au.be (Go.Au.six b 3) : Nat) : Int)) = (qV ((Go.Au.be (Go.Au.six b 0) : Nat) : Int) ((Go.Au.be (Go.Au.six b 1) : Nat) : Int) ((Go.Au.be (Go.Au.six b 2) : Nat) : Int) ((Go.Au.be (Go.Au.six b 3) : Nat) : Int) (List.replicate 16 0) (Go.Au.six b 5) : Value).cells from qV_set3 _)
  refine T_nil ?_
  refine W_seq ?_
  refine W_seq ?_
  refine W_region ?_
  refine T_pev rfl rfl rfl rfl ?_
  refine T_nil ?_
  refine W_block ?_
  refine W_loop (fun M ρ w' => ∃ (k : Nat) (G297 : Hp), M = 16 - k ∧ k ≤ 16 ∧ ρ = [(2, .pointer (some ⟨b1, 0, none⟩)), (4, .slice a4 (Go.Au.ntAll 6 b).length c5), (6, .pointer (some ⟨b251, 0, none⟩)), (91, .int .i64 (k : Int))] ∧ G10.le G297 ∧ St w H G297 [.blk b251 (qV ((Go.Au.be (Go.Au.six b 0) : Nat) : Int) ((Go.Au.be (Go.Au.six b 1) : Nat) : Int) ((Go.Au.be (Go.Au.six b 2) : Nat) : Int) ((Go.Au.be (Go.Au.six b 3) : Nat) : Int) (hashTo 16 (Go.Au.six b 4) k) (Go.Au.six b 5) : Value).cells 52, .blk b1 (qV 0 0 0 0 (List.replicate 16 0) (List.replicate 32 0) : Value).cells 52] w')
    (16 - 0) [(2, .pointer (some ⟨b1, 0, none⟩)), (4, .slice a4 (Go.Au.ntAll 6 b).length c5), (6, .pointer (some ⟨b251, 0, none⟩)), (91, .int .i64 ((0 : Nat) : Int))] ⟨rfl, rfl, rfl, (congrArg (fun z => some (Value.int .i64 z)) (by omega)), trivial⟩ ⟨0, G10, rfl, (by omega), rfl, Hp.le.refl _, S296⟩ ?_
  rintro M ρ w299 ⟨k, G297, rfl, hp301, rfl, hl298, S300⟩
  refine W_seq ?_
  refine W_region ?_
  refine T_pev rfl rfl rfl rfl ?_
  refine T_nil ?_
  refine W_seq ?_
  refine W_cond_dec rfl (fun h302 => ?_) (fun h302 => ?_)
  · refine W_skip ?_
    refine W_seq ?_
    refine W_block ?_
    refine W_seq ?_
    refine W_region ?_
    refine T_pev rfl rfl rfl rfl ?_
    refine T_pev rfl rfl rfl rfl ?_
    refine T_nil ?_
    refine W_region ?_
    refine T_pev rfl rfl rfl rfl ?_
    refine T_pev rfl rfl rfl rfl ?_
    obtain ⟨hs306, r307, r308⟩ := (r6.mono hl298)
    refine T_idxR 4 r307 rfl rfl rfl rfl rfl rfl rfl rfl rfl (by omega) (by omega) fun b303 o304 hc305 => ?_
    obtain ⟨a311, c312, hc314, hv310, r313⟩ := r308.at 4 (by omega)
    have hc315 := hc305 0 (.slice a311 ((Go.Au.ntAll 6 b).getD 4 []).length c312) (by simpa using hv310)
    simp only [Nat.add_zero] at hc315
    refine T_loadG S300 hc315 rfl rfl rfl rfl rfl rfl rfl ?_
    refine T_pev rfl rfl rfl rfl ?_
    refine T_idxR k r313 rfl rfl rfl rfl rfl rfl rfl rfl rfl (by omega) (by omega) fun b316 o317 hc318 => ?_
    have hc319 := hc318 0 (bV (((Go.Au.ntAll 6 b).getD 4 []).getD k 0)) (at_b ((Go.Au.ntAll 6 b).getD 4 []) k (by omega))
    simp only [Nat.add_zero] at hc319
    refine T_loadG S300 hc319 rfl rfl rfl rfl rfl rfl rfl ?_
    refine T_re (v' := bV ((Go.Au.six b 4).getD k 0)) rfl ?_
    refine T_fldm 4 rfl rfl rfl rfl rfl rfl (by decide) rfl rfl rfl ?_
    refine T_idxA1 rfl rfl rfl rfl rfl rfl rfl rfl rfl (by first | omega | decide) ?_
    refine T_store1S 0 (4 + k) S300 (fun _ _ => trivial) rfl rfl rfl rfl rfl rfl rfl rfl rfl rfl rfl (by omega) (by rw [qV_sz (q_len (hashTo_len _ _ _) HL5 rfl)]; omega) fun w320 S321 => ?_
    rw [(qV_putS (by omega))] at S321
    refine T_nil ?_
    refine W_region ?_
    refine T_ari rfl rfl rfl rfl (by omega) ?_
    refine T_pev rfl rfl rfl rfl ?_
    refine T_nil ?_
    exact ⟨16 - (k + 1), [(2, .pointer (some ⟨b1, 0, none⟩)), (4, .slice a4 (Go.Au.ntAll 6 b).length c5), (6, .pointer (some ⟨b251, 0, none⟩)), (91, .int .i64 ((k + 1 : Nat) : Int))], by omega, ⟨rfl, rfl, rfl, (congrArg (fun z => some (Value.int .i64 z)) (by omega)), trivial⟩, k + 1, G297, rfl, (by omega), rfl, hl298, S321⟩
  refine W_exit ?_
  refine W_seq ?_
  refine W_seq ?_
  refine W_region ?_
  refine T_fldm 0 rfl rfl rfl rfl rfl rfl (by decide) rfl rfl rfl ?_
  refine T_loadS 0 0 S300 rfl rfl rfl rfl rfl rfl rfl rfl rfl qV_0 ?_
  refine T_pev rfl rfl rfl rfl ?_
  refine T_pev rfl rfl rfl rfl ?_
  refine T_part (t := 107) rfl (List.cons_ne_nil _ _) (fun h322' => ?_) (fun h322' => ?_)
  · have h322 := of_decide_eq_true h322'
    refine T_no rfl rfl rfl rfl rfl rfl ?_
    refine T_no rfl rfl rfl rfl rfl rfl ?_
    refine T_no rfl rfl rfl rfl rfl rfl ?_
    refine T_pev rfl rfl rfl rfl ?_
    refine T_pev rfl rfl rfl rfl ?_
    refine T_no rfl rfl rfl rfl rfl rfl ?_
    refine T_no rfl rfl rfl rfl rfl rfl ?_
    refine T_no rfl rfl rfl rfl rfl rfl ?_
    refine T_pev rfl rfl rfl rfl ?_
    refine T_pev rfl rfl rfl rfl ?_
    refine T_no rfl rfl rfl rfl rfl rfl ?_
    refine T_no rfl rfl rfl rfl rfl rfl ?_
    refine T_no rfl rfl rfl rfl rfl rfl ?_
    refine T_no rfl rfl rfl rfl rfl rfl ?_
    refine T_no rfl rfl rfl rfl rfl rfl ?_
    refine T_pev rfl rfl rfl rfl ?_
    refine T_pev rfl rfl rfl rfl ?_
    refine T_no rfl rfl rfl rfl rfl rfl ?_
    refine T_no rfl rfl rfl rfl rfl rfl ?_
    refine T_no rfl rfl rfl rfl rfl rfl ?_
    refine T_pev rfl rfl rfl rfl ?_
    refine T_pev rfl rfl rfl rfl ?_
    refine T_no rfl rfl rfl rfl rfl rfl ?_
    refine T_no rfl rfl rfl rfl rfl rfl ?_
    refine T_no rfl rfl rfl rfl rfl rfl ?_
    refine T_pev rfl rfl rfl rfl ?_
    refine T_nil ?_
    refine W_cond_true rfl ?_
    refine W_seq ?_
    refine W_region ?_
    refine T_buildS (cells := (qz16 : Value).cells) rfl rfl rfl rfl rfl rfl rfl rfl rfl rfl ?_
    refine T_storeFS 1 S300 (fun _ _ => trivial) rfl rfl rfl rfl rfl rfl rfl rfl rfl (qV_sz (q_len List.length_replicate List.length_replicate rfl)) (qV_sz (q_len List.length_replicate List.length_replicate rfl)) (qV_one) fun w323 S324 => ?_
    refine T_pev rfl rfl rfl rfl ?_
    refine T_nil ?_
    refine W_ret ?_
    refine ⟨_, ⟨_, _, _, rfl, rfl, run_loadVarA rfl rfl (qV_sz (q_len List.length_replicate List.length_replicate rfl)) (S324.cells 1 rfl), ⟨_, _, rfl, rfl, rfl⟩⟩, ?_⟩
    have HNO : ¬ Go.Au.VerOk b := by
      intro hq
      obtain ⟨q0, q1, q2, q3, q4, q5, q6, q7, q8, q9, q10, q11, q12⟩ := hq
      have e0 : ((Go.Au.ntAll 6 b).getD 0 []).length = _ := q1
      have e1 : ((Go.Au.ntAll 6 b).getD 1 []).length = _ := q2
      have e2 : ((Go.Au.ntAll 6 b).getD 2 []).length = _ := q3
      have e3 : ((Go.Au.ntAll 6 b).getD 3 []).length = _ := q4
      have e4 : ((Go.Au.ntAll 6 b).getD 4 []).length = _ := q5
      have e5 : ((Go.Au.ntAll 6 b).getD 5 []).length = _ := q6
      first | exact h322 q0 | omega | exact h322 (numV q1 q2 q3 q4) | exact h322 (Go.Au.packU_six q0 q1 q2 q3 q4)
    exact ⟨v_no HNO, S324.below⟩
  have h322 := of_decide_eq_false h322'
  refine T_yes rfl rfl rfl ?_ rfl
  refine T_fldm 0 rfl rfl rfl rfl rfl rfl (by decide) rfl rfl rfl ?_
  refine T_yes rfl rfl rfl ?_ rfl
  refine T_loadS 0 0 S300 rfl rfl rfl rfl rfl rfl rfl rfl rfl qV_0 ?_
  refine T_yes rfl rfl rfl ?_ rfl
  refine T_pev rfl rfl rfl rfl ?_
  refine T_pev rfl rfl rfl rfl ?_
  refine T_pev rfl rfl rfl rfl ?_
  refine T_part (t := 112) rfl (List.cons_ne_nil _ _) (fun h325' => ?_) (fun h325' => ?_)
  · have h325 := of_decide_eq_true h325'
    refine T_no rfl rfl rfl rfl rfl rfl ?_
    refine T_no rfl rfl rfl rfl rfl rfl ?_
    refine T_no rfl rfl rfl rfl rfl rfl ?_
    refine T_pev rfl rfl rfl rfl ?_
    refine T_pev rfl rfl rfl rfl ?_
    refine T_no rfl rfl rfl rfl rfl rfl ?_
    refine T_no rfl rfl rfl rfl rfl rfl ?_
    refine T_no rfl rfl rfl rfl rfl rfl ?_
    refine T_no rfl rfl rfl rfl rfl rfl ?_
    refine T_no rfl rfl rfl rfl rfl rfl ?_
    refine T_pev rfl rfl rfl rfl ?_
    refine T_pev rfl rfl rfl rfl ?_
    refine T_no rfl rfl rfl rfl rfl rfl ?_
    refine T_no rfl rfl rfl rfl rfl rfl ?_
    refine T_no rfl rfl rfl rfl rfl rfl ?_
    refine T_pev rfl rfl rfl rfl ?_
    refine T_pev rfl rfl rfl rfl ?_
    refine T_no rfl rfl rfl rfl rfl rfl ?_
    refine T_no rfl rfl rfl rfl rfl rfl ?_
    refine T_no rfl rfl rfl rfl rfl rfl ?_
    refine T_pev rfl rfl rfl rfl ?_
    refine T_nil ?_
    refine W_cond_true rfl ?_
    refine W_seq ?_
    refine W_region ?_
    refine T_buildS (cells := (qz16 : Value).cells) rfl rfl rfl rfl rfl rfl rfl rfl rfl rfl ?_
    refine T_storeFS 1 S300 (fun _ _ => trivial) rfl rfl rfl rfl rfl rfl rfl rfl rfl (qV_sz (q_len List.length_replicate List.length_replicate rfl)) (qV_sz (q_len List.length_replicate List.length_replicate rfl)) (qV_one) fun w326 S327 => ?_
    refine T_pev rfl rfl rfl rfl ?_
    refine T_nil ?_
    refine W_ret ?_
    refine ⟨_, ⟨_, _, _, rfl, rfl, run_loadVarA rfl rfl (qV_sz (q_len List.length_replicate List.length_replicate rfl)) (S327.cells 1 rfl), ⟨_, _, rfl, rfl, rfl⟩⟩, ?_⟩
    have HNO : ¬ Go.Au.VerOk b := by
      intro hq
      obtain ⟨q0, q1, q2, q3, q4, q5, q6, q7, q8, q9, q10, q11, q12⟩ := hq
      have e0 : ((Go.Au.ntAll 6 b).getD 0 []).length = _ := q1
      have e1 : ((Go.Au.ntAll 6 b).getD 1 []).length = _ := q2
      have e2 : ((Go.Au.ntAll 6 b).getD 2 []).length = _ := q3
      have e3 : ((Go.Au.ntAll 6 b).getD 3 []).length = _ := q4
      have e4 : ((Go.Au.ntAll 6 b).getD 4 []).length = _ := q5
      have e5 : ((Go.Au.ntAll 6 b).getD 5 []).length = _ := q6
      first | exact h325 q0 | omega | exact h325 (numV q1 q2 q3 q4) | exact h325 (Go.Au.packU_six q0 q1 q2 q3 q4)
    exact ⟨v_no HNO, S327.below⟩
  have h325 := of_decide_eq_false h325'
  refine T_yes rfl rfl rfl ?_ rfl
  refine T_fldm 1 rfl rfl rfl rfl rfl rfl (by decide) rfl rfl rfl ?_
  refine T_yes rfl rfl rfl ?_ rfl
  refine T_loadS 0 1 S300 rfl rfl rfl rfl rfl rfl rfl rfl rfl qV_1 ?_
  refine T_yes rfl rfl rfl ?_ rfl
  refine T_pev rfl rfl rfl rfl ?_
  refine T_pev rfl rfl rfl rfl ?_
  refine T_pev rfl rfl rfl rfl ?_
  refine T_part (t := 117) rfl (List.cons_ne_nil _ _) (fun h328' => ?_) (fun h328' => ?_)
  · have h328 := of_decide_eq_true h328'
    refine T_no rfl rfl rfl rfl rfl rfl ?_
    refine T_no rfl rfl rfl rfl rfl rfl ?_
    refine T_no rfl rfl rfl rfl rfl rfl ?_
    refine T_no rfl rfl rfl rfl rfl rfl ?_
    refine T_no rfl rfl rfl rfl rfl rfl ?_
    refine T_pev rfl rfl rfl rfl ?_
    refine T_pev rfl rfl rfl rfl ?_
    refine T_no rfl rfl rfl rfl rfl rfl ?_
    refine T_no rfl rfl rfl rfl rfl rfl ?_
    refine T_no rfl rfl rfl rfl rfl rfl ?_
    refine T_pev rfl rfl rfl rfl ?_
    refine T_pev rfl rfl rfl rfl ?_
    refine T_no rfl rfl rfl rfl rfl rfl ?_
    refine T_no rfl rfl rfl rfl rfl rfl ?_
    refine T_no rfl rfl rfl rfl rfl rfl ?_
    refine T_pev rfl rfl rfl rfl ?_
    refine T_nil ?_
    refine W_cond_true rfl ?_
    refine W_seq ?_
    refine W_region ?_
    refine T_buildS (cells := (qz16 : Value).cells) rfl rfl rfl rfl rfl rfl rfl rfl rfl rfl ?_
    refine T_storeFS 1 S300 (fun _ _ => trivial) rfl rfl rfl rfl rfl rfl rfl rfl rfl (qV_sz (q_len List.length_replicate List.length_replicate rfl)) (qV_sz (q_len List.length_replicate List.length_replicate rfl)) (qV_one) fun w329 S330 => ?_
    refine T_pev rfl rfl rfl rfl ?_
    refine T_nil ?_
    refine W_ret ?_
    refine ⟨_, ⟨_, _, _, rfl, rfl, run_loadVarA rfl rfl (qV_sz (q_len List.length_replicate List.length_replicate rfl)) (S330.cells 1 rfl), ⟨_, _, rfl, rfl, rfl⟩⟩, ?_⟩
    have HNO : ¬ Go.Au.VerOk b := by
      intro hq
      obtain ⟨q0, q1, q2, q3, q4, q5, q6, q7, q8, q9, q10, q11, q12⟩ := hq
      have e0 : ((Go.Au.ntAll 6 b).getD 0 []).length = _ := q1
      have e1 : ((Go.Au.ntAll 6 b).getD 1 []).length = _ := q2
      have e2 : ((Go.Au.ntAll 6 b).getD 2 []).length = _ := q3
      have e3 : ((Go.Au.ntAll 6 b).getD 3 []).length = _ := q4
      have e4 : ((Go.Au.ntAll 6 b).getD 4 []).length = _ := q5
      have e5 : ((Go.Au.ntAll 6 b).getD 5 []).length = _ := q6
      first | exact h328 q0 | omega | exact h328 (numV q1 q2 q3 q4) | exact h328 (Go.Au.packU_six q0 q1 q2 q3 q4)
    exact ⟨v_no HNO, S330.below⟩
  have h328 := of_decide_eq_false h328'
  refine T_yes rfl rfl rfl ?_ rfl
  refine T_fldm 1 rfl rfl rfl rfl rfl rfl (by decide) rfl rfl rfl ?_
  refine T_yes rfl rfl rfl ?_ rfl
  refine T_loadS 0 1 S300 rfl rfl rfl rfl rfl rfl rfl rfl rfl qV_1 ?_
  refine T_yes rfl rfl rfl ?_ rfl
  refine T_fldm 2 rfl rfl rfl rfl rfl rfl (by decide) rfl rfl rfl ?_
  refine T_yes rfl rfl rfl ?_ rfl
  refine T_loadS 0 2 S300 rfl rfl rfl rfl rfl rfl rfl rfl rfl qV_2 ?_
  refine T_yes rfl rfl rfl ?_ rfl
  refine T_pev rfl rfl rfl rfl ?_
  refine T_pev rfl rfl rfl rfl ?_
  refine T_pev rfl rfl rfl rfl ?_
  refine T_part (t := 124) rfl (List.cons_ne_nil _ _) (fun h331' => ?_) (fun h331' => ?_)
  · have h331 := of_decide_eq_true h331'
    refine T_no rfl rfl rfl rfl rfl rfl ?_
    refine T_no rfl rfl rfl rfl rfl rfl ?_
    refine T_no rfl rfl rfl rfl rfl rfl ?_
    refine T_pev rfl rfl rfl rfl ?_
    refine T_pev rfl rfl rfl rfl ?_
    refine T_no rfl rfl rfl rfl rfl rfl ?_
    refine T_no rfl rfl rfl rfl rfl rfl ?_
    refine T_no rfl rfl rfl rfl rfl rfl ?_
    refine T_pev rfl rfl rfl rfl ?_
    refine T_nil ?_
    refine W_cond_true rfl ?_
    refine W_seq ?_
    refine W_region ?_
    refine T_buildS (cells := (qz16 : Value).cells) rfl rfl rfl rfl rfl rfl rfl rfl rfl rfl ?_
    refine T_storeFS 1 S300 (fun _ _ => trivial) rfl rfl rfl rfl rfl rfl rfl rfl rfl (qV_sz (q_len List.length_replicate List.length_replicate rfl)) (qV_sz (q_len List.length_replicate List.length_replicate rfl)) (qV_one) fun w332 S333 => ?_
    refine T_pev rfl rfl rfl rfl ?_
    refine T_nil ?_
    refine W_ret ?_
    refine ⟨_, ⟨_, _, _, rfl, rfl, run_loadVarA rfl rfl (qV_sz (q_len List.length_replicate List.length_replicate rfl)) (S333.cells 1 rfl), ⟨_, _, rfl, rfl, rfl⟩⟩, ?_⟩
    have HNO : ¬ Go.Au.VerOk b := by
      intro hq
      obtain ⟨q0, q1, q2, q3, q4, q5, q6, q7, q8, q9, q10, q11, q12⟩ := hq
      have e0 : ((Go.Au.ntAll 6 b).getD 0 []).length = _ := q1
      have e1 : ((Go.Au.ntAll 6 b).getD 1 []).length = _ := q2
      have e2 : ((Go.Au.ntAll 6 b).getD 2 []).length = _ := q3
      have e3 : ((Go.Au.ntAll 6 b).getD 3 []).length = _ := q4
      have e4 : ((Go.Au.ntAll 6 b).getD 4 []).length = _ := q5
      have e5 : ((Go.Au.ntAll 6 b).getD 5 []).length = _ := q6
      first | exact h331 q0 | omega | exact h331 (numV q1 q2 q3 q4) | exact h331 (Go.Au.packU_six q0 q1 q2 q3 q4)
    exact ⟨v_no HNO, S333.below⟩
  have h331 := of_decide_eq_false h331'
  refine T_yes rfl rfl rfl ?_ rfl
  refine T_fldm 2 rfl rfl rfl rfl rfl rfl (by decide) rfl rfl rfl ?_
  refine T_yes rfl rfl rfl ?_ rfl
  refine T_loadS 0 2 S300 rfl rfl rfl rfl rfl rfl rfl rfl rfl qV_2 ?_
  refine T_yes rfl rfl rfl ?_ rfl
  refine T_pev rfl rfl rfl rfl ?_
  refine T_pev rfl rfl rfl rfl ?_
  refine T_pev rfl rfl rfl rfl ?_
  refine T_part (t := 129) rfl (List.cons_ne_nil _ _) (fun h334' => ?_) (fun h334' => ?_)
  · have h334 := of_decide_eq_true h334'
    refine T_no rfl rfl rfl rfl rfl rfl ?_
    refine T_no rfl rfl rfl rfl rfl rfl ?_
    refine T_no rfl rfl rfl rfl rfl rfl ?_
    refine T_pev rfl rfl rfl rfl ?_
    refine T_nil ?_
    refine W_cond_true rfl ?_
    refine W_seq ?_
    refine W_region ?_
    refine T_buildS (cells := (qz16 : Value).cells) rfl rfl rfl rfl rfl rfl rfl rfl rfl rfl ?_
    refine T_storeFS 1 S300 (fun _ _ => trivial) rfl rfl rfl rfl rfl rfl rfl rfl rfl (qV_sz (q_len List.length_replicate List.length_replicate rfl)) (qV_sz (q_len List.length_replicate List.length_replicate rfl)) (qV_one) fun w335 S336 => ?_
    refine T_pev rfl rfl rfl rfl ?_
    refine T_nil ?_
    refine W_ret ?_
    refine ⟨_, ⟨_, _, _, rfl, rfl, run_loadVarA rfl rfl (qV_sz (q_len List.length_replicate List.length_replicate rfl)) (S336.cells 1 rfl), ⟨_, _, rfl, rfl, rfl⟩⟩, ?_⟩
    have HNO : ¬ Go.Au.VerOk b := by
      intro hq
      obtain ⟨q0, q1, q2, q3, q4, q5, q6, q7, q8, q9, q10, q11, q12⟩ := hq
      have e0 : ((Go.Au.ntAll 6 b).getD 0 []).length = _ := q1
      have e1 : ((Go.Au.ntAll 6 b).getD 1 []).length = _ := q2
      have e2 : ((Go.Au.ntAll 6 b).getD 2 []).length = _ := q3
      have e3 : ((Go.Au.ntAll 6 b).getD 3 []).length = _ := q4
      have e4 : ((Go.Au.ntAll 6 b).getD 4 []).length = _ := q5
      have e5 : ((Go.Au.ntAll 6 b).getD 5 []).length = _ := q6
      first | exact h334 q0 | omega | exact h334 (numV q1 q2 q3 q4) | exact h334 (Go.Au.packU_six q0 q1 q2 q3 q4)
    exact ⟨v_no HNO, S336.below⟩
  have h334 := of_decide_eq_false h334'
  refine T_yes rfl rfl rfl ?_ rfl
  refine T_fldm 3 rfl rfl rfl rfl rfl rfl (by decide) rfl rfl rfl ?_
  refine T_yes rfl rfl rfl ?_ rfl
  refine T_loadS 0 3 S300 rfl rfl rfl rfl rfl rfl rfl rfl rfl qV_3 ?_
  refine T_yes rfl rfl rfl ?_ rfl
  refine T_pev rfl rfl rfl rfl ?_
  refine T_pev rfl rfl rfl rfl ?_
  refine T_nil ?_
  refine W_cond_dec rfl (fun h337 => ?_) (fun h337 => ?_)
  · refine W_seq ?_
    refine W_region ?_
    refine T_buildS (cells := (qz16 : Value).cells) rfl rfl rfl rfl rfl rfl rfl rfl rfl rfl ?_
    refine T_storeFS 1 S300 (fun _ _ => trivial) rfl rfl rfl rfl rfl rfl rfl rfl rfl (qV_sz (q_len List.length_replicate List.length_replicate rfl)) (qV_sz (q_len List.length_replicate List.length_replicate rfl)) (qV_one) fun w338 S339 => ?_
    refine T_pev rfl rfl rfl rfl ?_
    refine T_nil ?_
    refine W_ret ?_
    refine ⟨_, ⟨_, _, _, rfl, rfl, run_loadVarA rfl rfl (qV_sz (q_len List.length_replicate List.length_replicate rfl)) (S339.cells 1 rfl), ⟨_, _, rfl, rfl, rfl⟩⟩, ?_⟩
    have HNO : ¬ Go.Au.VerOk b := by
      intro hq
      obtain ⟨q0, q1, q2, q3, q4, q5, q6, q7, q8, q9, q10, q11, q12⟩ := hq
      have e0 : ((Go.Au.ntAll 6 b).getD 0 []).length = _ := q1
      have e1 : ((Go.Au.ntAll 6 b).getD 1 []).length = _ := q2
      have e2 : ((Go.Au.ntAll 6 b).getD 2 []).length = _ := q3
      have e3 : ((Go.Au.ntAll 6 b).getD 3 []).length = _ := q4
      have e4 : ((Go.Au.ntAll 6 b).getD 4 []).length = _ := q5
      have e5 : ((Go.Au.ntAll 6 b).getD 5 []).length = _ := q6
      first | exact h337 q0 | omega | exact h337 (numV q1 q2 q3 q4) | exact h337 (Go.Au.packU_six q0 q1 q2 q3 q4)
    exact ⟨v_no HNO, S339.below⟩
  refine W_skip ?_
  refine W_seq ?_
  refine W_region ?_
  refine T_loadFS 0 S300 rfl rfl rfl rfl rfl rfl rfl rfl rfl (qV_sz (q_len (hashTo_len _ _ _) HL5 rfl)) ?_
  refine T_re (v' := qV ((Go.Au.be (Go.Au.six b 0) : Nat) : Int) ((Go.Au.be (Go.Au.six b 1) : Nat) : Int) ((Go.Au.be (Go.Au.six b 2) : Nat) : Int) ((Go.Au.be (Go.Au.six b 3) : Nat) : Int) (Go.Au.six b 4) (Go.Au.six b 5)) (by rw [show k = 16 by omega, hashTo_full HL4]; rfl) ?_
  refine T_storeFS 1 S300 (fun _ _ => trivial) rfl rfl rfl rfl rfl rfl rfl rfl rfl (qV_sz (q_len HL4 HL5 rfl)) (qV_sz (q_len HL4 HL5 rfl)) (qV_one) fun w340 S341 => ?_
  refine T_pev rfl rfl rfl rfl ?_
  refine T_nil ?_
  refine W_ret ?_
  refine ⟨_, ⟨_, _, _, rfl, rfl, run_loadVarA rfl rfl (qV_sz (q_len HL4 HL5 rfl)) (S341.cells 1 rfl), ⟨_, _, rfl, rfl, rfl⟩⟩, ?_⟩
  exact ⟨v_yes ⟨HA, HQ0, HQ1, HQ2, HQ3, HL4, HL5, by omega, by omega, by omega, by omega, by omega, by omega⟩, S341.below⟩

end Go.Proofs.YtmjmjjkigblbgaaDoor
