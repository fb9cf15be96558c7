/- Layouts and versions as bytes, and back. -/
import Derived.Test.YtmjmjjkigblbgaaGreatDoorLayB
set_option linter.unusedVariables false
set_option linter.unusedSimpArgs false
set_option maxRecDepth 8192
namespace Go.Proofs.YtmjmjjkigblbgaaGreatDoor
open Go Go.F Go.RowKit
open Go.Au
theorem six_len {b : List UInt8} {m0 m1 m2 m3 m4 m5 : Nat} (h0 : (Go.Au.six b 0).length = m0) (h1 : (Go.Au.six b 1).length = m1) (h2 : (Go.Au.six b 2).length = m2) (h3 : (Go.Au.six b 3).length = m3) (h4 : (Go.Au.six b 4).length = m4) (h5 : (Go.Au.six b 5).length = m5) : ((ntAll 6 b).getD 0 []).length = m0 ∧ ((ntAll 6 b).getD 1 []).length = m1 ∧ ((ntAll 6 b).getD 2 []).length = m2 ∧ ((ntAll 6 b).getD 3 []).length = m3 ∧ ((ntAll 6 b).getD 4 []).length = m4 ∧ ((ntAll 6 b).getD 5 []).length = m5 := ⟨h0, h1, h2, h3, h4, h5⟩

theorem ueb_text {b : List UInt8} (hb : b.length ≤ 1000) : (Go.Au.text [117, 101, 98] [b]).length < 10000 := by
 have h1 := net_le (b := [117, 101, 98]) (by decide)
 have h2 := net_le (b := b) (by omega)
 show (net [117, 101, 98] ++ nets [b]).length < _
 rw [List.length_append, nets_cons, List.length_append, nets_nil]
 simp only [List.length_nil, List.length_cons] at *
 omega
theorem u_no {b : List UInt8} (h : ¬ UebOk b) : Ending.returned (.tuple #[qV 0 0 0 0 (List.replicate 32 0) (List.replicate 32 0), .bool false]) = .returned (.tuple #[qV (uN b 0) (uN b 1) (uN b 2) (uN b 3) (uH b 4) (uH b 5), .bool (decide (UebOk b))]) := by
 rw [decide_eq_false h, uN_no h, uN_no h, uN_no h, uN_no h, uH_no h, uH_no h]
theorem u_yes {b : List UInt8} (h : UebOk b) : Ending.returned (.tuple #[qV ((Go.Au.be (Go.Au.six b 0) : Nat) : Int) ((Go.Au.be (Go.Au.six b 1) : Nat) : Int) ((Go.Au.be (Go.Au.six b 2) : Nat) : Int) ((Go.Au.be (Go.Au.six b 3) : Nat) : Int) (Go.Au.six b 4) (Go.Au.six b 5), .bool true]) = .returned (.tuple #[qV (uN b 0) (uN b 1) (uN b 2) (uN b 3) (uH b 4) (uH b 5), .bool (decide (UebOk b))]) := by
 rw [decide_eq_true h, uN_yes h, uN_yes h, uN_yes h, uN_yes h, uH_yes h, uH_yes h]
theorem num4 {L : List (List UInt8)} {w0 w1 w2 w3 : Nat} (h0 : (L.getD 0 []).length = w0) (h1 : (L.getD 1 []).length = w1) (h2 : (L.getD 2 []).length = w2) (h3 : (L.getD 3 []).length = w3) : numOk L [(w0 : Int), (w1 : Int), (w2 : Int), (w3 : Int)] 4 := by
 intro i hi
 match i, hi with
 | 0, _ => exact congrArg Int.ofNat h0
 | 1, _ => exact congrArg Int.ofNat h1
 | 2, _ => exact congrArg Int.ofNat h2
 | 3, _ => exact congrArg Int.ofNat h3
theorem numU {b : List UInt8} (h0 : (Go.Au.six b 0).length = 1) (h1 : (Go.Au.six b 1).length = 1) (h2 : (Go.Au.six b 2).length = 4) (h3 : (Go.Au.six b 3).length = 4) : numOk (ntAll 6 b) [(1 : Int), (1 : Int), (4 : Int), (4 : Int)] [(1 : Int), (1 : Int), (4 : Int), (4 : Int)].length := num4 h0 h1 h2 h3
theorem w7u : ∀ i, ([(1 : Int), (1 : Int), (4 : Int), (4 : Int)] : List Int).getD i 0 ≤ 7 := by
 intro i
 match i with
 | 0 => decide
 | 1 => decide
 | 2 => decide
 | 3 => decide
 | i + 4 => simp
theorem bytesEqual_ok {H : Hp} {w : World} (hH : H.le (hw w)) {b : List UInt8} {aa0 : Option Addr} {nn0 cc0 : Nat} (hv : Rd H (.slice aa0 nn0 cc0) nn0 1 (b.map bV)) {c : List UInt8} {aa1 : Option Addr} {nn1 cc1 : Nat} (hu : Rd H (.slice aa1 nn1 cc1) nn1 1 (c.map bV)) :
  Calls Tryz.prog 64 #[.slice aa0 nn0 cc0, .slice aa1 nn1 cc1] w fun e w' => e = .returned (.bool (decide (b = c))) ∧ Below w.heap.size w w' := by
 obtain rfl : nn0 = b.length := hv.lenB
 have hvcap : b.length ≤ cc0 := hv.capOf
 obtain rfl : nn1 = c.length := hu.lenB
 have hucap : c.length ≤ cc1 := hu.capOf
 refine enter2 _ Tryz.func64 rfl Tryz.ntmps64 Tryz.results64 rfl ?_
 have S0 := St.start w hH
 refine Wr (Pv (Nr ?_))
 refine Pv ?_
 refine T_convG S0 hv rfl rfl rfl rfl rfl rfl rfl rfl rfl (Pv ?_)
 refine T_convG S0 hu rfl rfl rfl rfl rfl rfl rfl rfl rfl (T_streq rfl rfl rfl rfl rfl rfl (Pv (T_nil (W_ret ?_))))
 refine ⟨_, ⟨_, _, rfl, rfl, rfl⟩, ?_⟩
 exact ⟨rfl, S0.below⟩


theorem print_ok {H : Hp} {w : World} (hH : H.le (hw w)) (hT : Tabs H) {b : List UInt8} {aa0 : Option Addr} {nn0 cc0 : Nat} (hv : Rd H (.slice aa0 nn0 cc0) nn0 1 (b.map bV)) (hb : b.length ≤ 1000) :
  Calls Tryz.prog 26 #[.slice aa0 nn0 cc0] w fun e w' => e = .returned (hV (tagged [117, 101, 98] [b])) ∧ Below w.heap.size w w' := by
 obtain rfl : nn0 = b.length := hv.lenB
 have hvcap : b.length ≤ cc0 := hv.capOf
 have htx := ueb_text hb
 refine enter1 _ Tryz.func26 rfl Tryz.ntmps26 Tryz.results26 rfl ?_
 have S0 := St.start w hH
 refine Wr (Ad S0 fun b1 w2 S3 => (Nr ?_))
 refine Pv ?_
 have rs8 : Rds H [.slice aa0 b.length cc0] [b] := Rds.cons (Rd.canonB hv) (Rds.nil _)
 refine Ae (hone := by simp [Value.cells]; rfl) [.slice aa0 b.length cc0] fun a4 w5 hB6 ho7 => ?_
 have S9 := S3.own hB6 ho7
 refine ⟨trivial, ?_⟩
 obtain ⟨G11, hl12, S10, r13⟩ := S9.stillRow 0 rfl
 have r14 := RdL.mk r13 (rs8.mono hl12)
 refine Cs g_aumbry_sha_Tagged ((tagged_ok S10.le (hT.mono hl12) r14 (by omega)).mono ?_)
 rintro e w16 ⟨rfl, hB15⟩
 have S17 := S10.call hB15
 refine ⟨_, rfl, trivial, ?_⟩
 refine Ah (hl := by exact hVs (tagged_len _ _)) (hl2 := by exact hVs (tagged_len _ _)) (h1 := by exact one_hA _) 0 S17 fun w18 S19 => (T_nil (W_ret ?_))
 refine ⟨_, ⟨_, _, _, rfl, rfl, run_loadVarA rfl rfl (hVs (tagged_len _ _)) (S19.cells 0 rfl), rfl⟩, ?_⟩
 exact ⟨rfl, S19.below⟩


theorem printR_ok {H : Hp} {w : World} (hH : H.le (hw w)) {b : List UInt8} {aa0 : Option Addr} {nn0 cc0 : Nat} (hv : Rd H (.slice aa0 nn0 cc0) nn0 1 (b.map bV)) (hb : b.length ≤ 1000) :
  Calls Tryz.prog 31 #[.slice aa0 nn0 cc0] w fun e w' => e = .returned (hV (tagged [117, 101, 98] [b])) ∧ Below w.heap.size w w' := by
 obtain rfl : nn0 = b.length := hv.lenB
 have hvcap : b.length ≤ cc0 := hv.capOf
 have htx := ueb_text hb
 refine enter1 _ Tryz.func31 rfl Tryz.ntmps31 Tryz.results31 rfl ?_
 have S0 := St.start w hH
 refine Wr (Ad S0 fun b1 w2 S3 => (Nr ?_))
 refine Pv ?_
 have rs8 : Rds H [.slice aa0 b.length cc0] [b] := Rds.cons (Rd.canonB hv) (Rds.nil _)
 refine Ae (hone := by simp [Value.cells]; rfl) [.slice aa0 b.length cc0] fun a4 w5 hB6 ho7 => ?_
 have S9 := S3.own hB6 ho7
 refine ⟨trivial, ?_⟩
 obtain ⟨G11, hl12, S10, r13⟩ := S9.stillRow 0 rfl
 have r14 := RdL.mk r13 (rs8.mono hl12)
 refine Cs g_aumbry_aumbryref01_Tagged ((taggedR_ok S10.le r14 (by omega)).mono ?_)
 rintro e w16 ⟨rfl, hB15⟩
 have S17 := S10.call hB15
 refine ⟨_, rfl, trivial, ?_⟩
 refine Ah (hl := by exact hVs (tagged_len _ _)) (hl2 := by exact hVs (tagged_len _ _)) (h1 := by exact one_hA _) 0 S17 fun w18 S19 => (T_nil (W_ret ?_))
 refine ⟨_, ⟨_, _, _, rfl, rfl, run_loadVarA rfl rfl (hVs (tagged_len _ _)) (S19.cells 0 rfl), rfl⟩, ?_⟩
 exact ⟨rfl, S19.below⟩


theorem packU_ok {H : Hp} {w : World} (hH : H.le (hw w)) (hT : Tabs H) (p q r u : Int) {s t : List UInt8} (hs : s.length = 32) (ht : t.length = 32) (ha : p ≤ 9223372036854775807) (hb : q ≤ 9223372036854775807) (hc : r ≤ 9223372036854775807) (hd : u ≤ 9223372036854775807) :
  Calls Tryz.prog 65 #[qV p q r u s t] w fun e w' => ∃ a c, (packU p q r u s t).length ≤ c ∧ e = .returned (.slice a (packU p q r u s t).length c) ∧ rowZ w' w.heap.size 5 1 (.slice a (packU p q r u s t).length c) (packU p q r u s t).length ((packU p q r u s t).map bV) ∧ Below w.heap.size w w' := by
 have hlen := packU_len p q r u (s := s) (t := t) (by omega) (by omega)
 unfold packU at hlen
 refine enter1 _ Tryz.func65 rfl Tryz.ntmps65 Tryz.results65 rfl ?_
 have S0 := St.start w hH
 refine Wr (Al S0 fun b1 w2 S3 => ?_)
 refine Pv (T_nil (W_seq ?_))
 obtain ⟨G5, hl6, S4, r7⟩ := S3.stillBlk 0 rfl
 refine W_plan (planF Tryz.prog G5 [7, 10, 13]) rfl (by kernel_rfl) S4.le ?_
 have S8 := S4.drew
 refine Fl 0 ?_
 refine Ac S8 (still_cell r7 qV_0) ?_
 refine Cs g_aumbry_code_Put ((putN_ok S8.le p 1 (by omega) (by omega)).mono ?_)
 rintro e w14 ⟨a9, c10, hc11, rfl, ho12, hB13⟩
 have S15 := S8.own hB13 ho12
 refine ⟨_, rfl, (((Hp.le.refl _)).trans S15.le), ?_⟩
 refine Fl 1 ?_
 refine Aj (still_cell r7 qV_1) ?_
 refine Cs g_aumbry_code_Put ((putN_ok S15.le q 1 (by omega) (by omega)).mono ?_)
 rintro e w21 ⟨a16, c17, hc18, rfl, ho19, hB20⟩
 have S22 := S15.own hB20 ho19
 refine ⟨_, rfl, (((Hp.le.refl _)).trans S22.le), ?_⟩
 refine Fl 2 ?_
 refine Aj (still_cell r7 qV_2) ?_
 refine Cs g_aumbry_code_Put ((putN_ok S22.le r 4 (by omega) (by omega)).mono ?_)
 rintro e w28 ⟨a23, c24, hc25, rfl, ho26, hB27⟩
 have S29 := S22.own hB27 ho26
 refine ⟨_, rfl, (((Hp.le.refl _)).trans S29.le), ?_⟩
 refine Fl 3 ?_
 refine Aj (still_cell r7 qV_3) ?_
 refine Cs g_aumbry_code_Put ((putN_ok S29.le u 4 (by omega) (by omega)).mono ?_)
 rintro e w35 ⟨a30, c31, hc32, rfl, ho33, hB34⟩
 have S36 := S29.own hB34 ho33
 refine ⟨_, rfl, (((Hp.le.refl _)).trans S36.le), ?_⟩
 refine Fl 4 ?_
 refine T_sliceAll rfl rfl rfl rfl rfl rfl rfl rfl ?_
 have r37 := Rd.of_blk_at (off := 4) (m := 32) (c0 := 32) (size := 1) (xs := s.map bV) r7 (by rw [List.length_map, hs]) (Nat.le_refl _) (fun j u hu => qV_s j u (by simpa using hu))
 refine Fl 36 ?_
 refine T_sliceAll rfl rfl rfl rfl rfl rfl rfl rfl ?_
 have r38 := Rd.of_blk_at (off := 36) (m := 32) (c0 := 32) (size := 1) (xs := t.map bV) r7 (by rw [List.length_map, ht]) (Nat.le_refl _) (fun j u hu => (qV_t (by rw [hs])) j u (by simpa using hu))
 obtain ⟨G44, hl45, S43, r46⟩ := S36.stillRow 3 rfl
 obtain ⟨G48, hl49, S47, r50⟩ := S43.stillRow 2 rfl
 obtain ⟨G52, hl53, S51, r54⟩ := S47.stillRow 1 rfl
 obtain ⟨G56, hl57, S55, r58⟩ := S51.stillRow 0 rfl
 have rs59 : Rds G56 [.slice a9 ((Go.Sha.put (max 0 p).toNat 1).length) c10, .slice a16 ((Go.Sha.put (max 0 q).toNat 1).length) c17, .slice a23 ((Go.Sha.put (max 0 r).toNat 4).length) c24, .slice a30 ((Go.Sha.put (max 0 u).toNat 4).length) c31, .slice (some ⟨b1, 4, none⟩) 32 32, .slice (some ⟨b1, 36, none⟩) 32 32] [Go.Sha.put (max 0 p).toNat 1, Go.Sha.put (max 0 q).toNat 1, Go.Sha.put (max 0 r).toNat 4, Go.Sha.put (max 0 u).toNat 4, s, t] := Rds.cons (Rd.canonB (r46.mono (hl49.trans (hl53.trans hl57)))) (Rds.cons (Rd.canonB (r50.mono (hl53.trans hl57))) (Rds.cons (Rd.canonB (r54.mono hl57)) (Rds.cons (Rd.canonB r58) (Rds.cons (Rd.canonB (r37.mono (hl45.trans (hl49.trans (hl53.trans hl57))))) (Rds.cons (Rd.canonB (r38.mono (hl45.trans (hl49.trans (hl53.trans hl57))))) (Rds.nil _))))))
 refine Ae (hone := by simp [Value.cells]; rfl) [.slice a9 ((Go.Sha.put (max 0 p).toNat 1).length) c10, .slice a16 ((Go.Sha.put (max 0 q).toNat 1).length) c17, .slice a23 ((Go.Sha.put (max 0 r).toNat 4).length) c24, .slice a30 ((Go.Sha.put (max 0 u).toNat 4).length) c31, .slice (some ⟨b1, 4, none⟩) 32 32, .slice (some ⟨b1, 36, none⟩) 32 32] fun a39 w40 hB41 ho42 => ?_
 have S60 := S55.own hB41 ho42
 refine ⟨(((hl45.trans (hl49.trans (hl53.trans hl57)))).trans S60.le), ?_⟩
 obtain ⟨G62, hl63, S61, r64⟩ := S60.stillRow 0 rfl
 have r65 := RdL.mk r64 (rs59.mono hl63)
 refine Cs g_aumbry_code_Nets ((nets_ok S61.le (hT.mono (hl6.trans (hl45.trans (hl49.trans (hl53.trans (hl57.trans hl63)))))) r65 (by omega)).mono ?_)
 rintro e w71 ⟨a66, c67, hc68, rfl, ho69, hB70⟩
 have S72 := S61.own hB70 ho69
 refine ⟨_, rfl, (((hl45.trans (hl49.trans (hl53.trans (hl57.trans hl63))))).trans S72.le), ?_⟩
 refine Pv (T_nil (W_ret ?_))
 refine ⟨_, ⟨_, _, rfl, rfl, rfl⟩, ?_⟩
 exact ⟨_, _, hc68, rfl, S72.row 0 rfl, S72.below⟩


theorem packUR_ok {H : Hp} {w : World} (hH : H.le (hw w)) (p q r u : Int) {s t : List UInt8} (hs : s.length = 32) (ht : t.length = 32) (ha : p ≤ 9223372036854775807) (hb : q ≤ 9223372036854775807) (hc : r ≤ 9223372036854775807) (hd : u ≤ 9223372036854775807) :
  Calls Tryz.prog 100 #[qV p q r u s t] w fun e w' => ∃ a c, (packU p q r u s t).length ≤ c ∧ e = .returned (.slice a (packU p q r u s t).length c) ∧ rowZ w' w.heap.size 5 1 (.slice a (packU p q r u s t).length c) (packU p q r u s t).length ((packU p q r u s t).map bV) ∧ Below w.heap.size w w' := by
 have hlen := packU_len p q r u (s := s) (t := t) (by omega) (by omega)
 unfold packU at hlen
 refine enter1 _ Tryz.func100 rfl Tryz.ntmps100 Tryz.results100 rfl ?_
 have S0 := St.start w hH
 refine Wr (Al S0 fun b1 w2 S3 => ?_)
 refine Pv (T_nil (W_seq ?_))
 obtain ⟨G5, hl6, S4, r7⟩ := S3.stillBlk 0 rfl
 refine W_plan (planF Tryz.prog G5 [7, 10, 13]) rfl (by kernel_rfl) S4.le ?_
 have S8 := S4.drew
 refine Fl 0 ?_
 refine Ac S8 (still_cell r7 qV_0) ?_
 refine Cs g_aumbry_aumbryref01_Put ((putR_ok S8.le p 1 (by omega) (by omega)).mono ?_)
 rintro e w14 ⟨a9, c10, hc11, rfl, ho12, hB13⟩
 have S15 := S8.own hB13 ho12
 refine ⟨_, rfl, (((Hp.le.refl _)).trans S15.le), ?_⟩
 refine Fl 1 ?_
 refine Aj (still_cell r7 qV_1) ?_
 refine Cs g_aumbry_aumbryref01_Put ((putR_ok S15.le q 1 (by omega) (by omega)).mono ?_)
 rintro e w21 ⟨a16, c17, hc18, rfl, ho19, hB20⟩
 have S22 := S15.own hB20 ho19
 refine ⟨_, rfl, (((Hp.le.refl _)).trans S22.le), ?_⟩
 refine Fl 2 ?_
 refine Aj (still_cell r7 qV_2) ?_
 refine Cs g_aumbry_aumbryref01_Put ((putR_ok S22.le r 4 (by omega) (by omega)).mono ?_)
 rintro e w28 ⟨a23, c24, hc25, rfl, ho26, hB27⟩
 have S29 := S22.own hB27 ho26
 refine ⟨_, rfl, (((Hp.le.refl _)).trans S29.le), ?_⟩
 refine Fl 3 ?_
 refine Aj (still_cell r7 qV_3) ?_
 refine Cs g_aumbry_aumbryref01_Put ((putR_ok S29.le u 4 (by omega) (by omega)).mono ?_)
 rintro e w35 ⟨a30, c31, hc32, rfl, ho33, hB34⟩
 have S36 := S29.own hB34 ho33
 refine ⟨_, rfl, (((Hp.le.refl _)).trans S36.le), ?_⟩
 refine Fl 4 ?_
 refine T_sliceAll rfl rfl rfl rfl rfl rfl rfl rfl ?_
 have r37 := Rd.of_blk_at (off := 4) (m := 32) (c0 := 32) (size := 1) (xs := s.map bV) r7 (by rw [List.length_map, hs]) (Nat.le_refl _) (fun j u hu => qV_s j u (by simpa using hu))
 refine Fl 36 ?_
 refine T_sliceAll rfl rfl rfl rfl rfl rfl rfl rfl ?_
 have r38 := Rd.of_blk_at (off := 36) (m := 32) (c0 := 32) (size := 1) (xs := t.map bV) r7 (by rw [List.length_map, ht]) (Nat.le_refl _) (fun j u hu => (qV_t (by rw [hs])) j u (by simpa using hu))
 obtain ⟨G44, hl45, S43, r46⟩ := S36.stillRow 3 rfl
 obtain ⟨G48, hl49, S47, r50⟩ := S43.stillRow 2 rfl
 obtain ⟨G52, hl53, S51, r54⟩ := S47.stillRow 1 rfl
 obtain ⟨G56, hl57, S55, r58⟩ := S51.stillRow 0 rfl
 have rs59 : Rds G56 [.slice a9 ((Go.Sha.put (max 0 p).toNat 1).length) c10, .slice a16 ((Go.Sha.put (max 0 q).toNat 1).length) c17, .slice a23 ((Go.Sha.put (max 0 r).toNat 4).length) c24, .slice a30 ((Go.Sha.put (max 0 u).toNat 4).length) c31, .slice (some ⟨b1, 4, none⟩) 32 32, .slice (some ⟨b1, 36, none⟩) 32 32] [Go.Sha.put (max 0 p).toNat 1, Go.Sha.put (max 0 q).toNat 1, Go.Sha.put (max 0 r).toNat 4, Go.Sha.put (max 0 u).toNat 4, s, t] := Rds.cons (Rd.canonB (r46.mono (hl49.trans (hl53.trans hl57)))) (Rds.cons (Rd.canonB (r50.mono (hl53.trans hl57))) (Rds.cons (Rd.canonB (r54.mono hl57)) (Rds.cons (Rd.canonB r58) (Rds.cons (Rd.canonB (r37.mono (hl45.trans (hl49.trans (hl53.trans hl57))))) (Rds.cons (Rd.canonB (r38.mono (hl45.trans (hl49.trans (hl53.trans hl57))))) (Rds.nil _))))))
 refine Ae (hone := by simp [Value.cells]; rfl) [.slice a9 ((Go.Sha.put (max 0 p).toNat 1).length) c10, .slice a16 ((Go.Sha.put (max 0 q).toNat 1).length) c17, .slice a23 ((Go.Sha.put (max 0 r).toNat 4).length) c24, .slice a30 ((Go.Sha.put (max 0 u).toNat 4).length) c31, .slice (some ⟨b1, 4, none⟩) 32 32, .slice (some ⟨b1, 36, none⟩) 32 32] fun a39 w40 hB41 ho42 => ?_
 have S60 := S55.own hB41 ho42
 refine ⟨(((hl45.trans (hl49.trans (hl53.trans hl57)))).trans S60.le), ?_⟩
 obtain ⟨G62, hl63, S61, r64⟩ := S60.stillRow 0 rfl
 have r65 := RdL.mk r64 (rs59.mono hl63)
 refine Cs g_aumbry_aumbryref01_Nets ((netsR_ok S61.le r65 (by omega)).mono ?_)
 rintro e w71 ⟨a66, c67, hc68, rfl, ho69, hB70⟩
 have S72 := S61.own hB70 ho69
 refine ⟨_, rfl, (((hl45.trans (hl49.trans (hl53.trans (hl57.trans hl63))))).trans S72.le), ?_⟩
 refine Pv (T_nil (W_ret ?_))
 refine ⟨_, ⟨_, _, rfl, rfl, rfl⟩, ?_⟩
 exact ⟨_, _, hc68, rfl, S72.row 0 rfl, S72.below⟩


theorem may_ok {H : Hp} {w : World} (hH : H.le (hw w)) (p q r u : Int) {s t : List UInt8} (hs : s.length = 32) (ht : t.length = 32) :
  Calls Tryz.prog 63 #[qV p q r u s t] w fun e w' => e = .returned (.bool (decide ((1 ≤ p ∧ p ≤ q ∧ q ≤ 16) ∧ 1 ≤ r ∧ r ≤ 1024 ∧ u = 64))) ∧ Below w.heap.size w w' := by
 refine enter1 _ Tryz.func63 rfl Tryz.ntmps63 Tryz.results63 rfl ?_
 have S0 := St.start w hH
 refine Wr (Al S0 fun b1 w2 S3 => ?_)
 refine Pv (Nr ?_)
 refine Fl 0 ?_
 refine Am 0 0 S3 qV_0 ?_
 refine Fl 1 ?_
 refine Am 0 1 S3 qV_1 ?_
 refine Cs g_aumbry_layout_kn ((kn_ok S3.le p q).mono ?_)
 rintro e w5 ⟨rfl, hB4⟩
 have S6 := S3.call hB4
 refine ⟨_, rfl, trivial, ?_⟩
 refine Pv ?_
 refine Tp 8 (fun h7' => ?_) (fun h7' => ?_)
 ·have h7 := of_decide_eq_true h7'
  refine Ys ?_
  refine Fl 2 ?_
  refine Ys ?_
  refine Am 0 2 S6 qV_2 ?_
  refine Ys ?_
  iterate 3 refine Pv ?_
  refine Tp 13 (fun h8' => ?_) (fun h8' => ?_)
  ·have h8 := of_decide_eq_true h8'
   refine Ys ?_
   refine Fl 2 ?_
   refine Ys ?_
   refine Am 0 2 S6 qV_2 ?_
   refine Ys ?_
   iterate 3 refine Pv ?_
   refine Tp 18 (fun h9' => ?_) (fun h9' => ?_)
   ·have h9 := of_decide_eq_true h9'
    refine Ys ?_
    refine Fl 3 ?_
    refine Ys ?_
    refine Am 0 3 S6 qV_3 ?_
    refine Ys ?_
    iterate 3 refine Pv ?_
    refine T_nil (W_ret ?_)
    refine ⟨_, ⟨_, _, rfl, rfl, rfl⟩, ?_⟩
    exact ⟨congrArg (fun z => Ending.returned (Value.bool z)) (by first | (exact (decide_eq_true (by omega)).symm) | (exact (decide_eq_false (by omega)).symm) | exact decide_eq_decide.2 (by omega)), S6.below⟩
   have h9 := of_decide_eq_false h9'
   iterate 3 refine No ?_
   iterate 2 refine Pv ?_
   refine T_nil (W_ret ?_)
   refine ⟨_, ⟨_, _, rfl, rfl, rfl⟩, ?_⟩
   exact ⟨congrArg (fun z => Ending.returned (Value.bool z)) (by first | (exact (decide_eq_true (by omega)).symm) | (exact (decide_eq_false (by omega)).symm) | exact decide_eq_decide.2 (by omega)), S6.below⟩
  have h8 := of_decide_eq_false h8'
  iterate 2 (refine No ?_; refine No ?_; refine No ?_; refine Pv ?_; refine Pv ?_)
  refine T_nil (W_ret ?_)
  refine ⟨_, ⟨_, _, rfl, rfl, rfl⟩, ?_⟩
  exact ⟨congrArg (fun z => Ending.returned (Value.bool z)) (by first | (exact (decide_eq_true (by omega)).symm) | (exact (decide_eq_false (by omega)).symm) | exact decide_eq_decide.2 (by omega)), S6.below⟩
 have h7 := of_decide_eq_false h7'
 iterate 3 (refine No ?_; refine No ?_; refine No ?_; refine Pv ?_; refine Pv ?_)
 refine T_nil (W_ret ?_)
 refine ⟨_, ⟨_, _, rfl, rfl, rfl⟩, ?_⟩
 exact ⟨congrArg (fun z => Ending.returned (Value.bool z)) (by first | (exact (decide_eq_true (by omega)).symm) | (exact (decide_eq_false (by omega)).symm) | exact decide_eq_decide.2 (by omega)), S6.below⟩


theorem unpackU_ok {H : Hp} {w : World} (hH : H.le (hw w)) (hT : Tabs H) {b : List UInt8} {aa0 : Option Addr} {nn0 cc0 : Nat} (hv : Rd H (.slice aa0 nn0 cc0) nn0 1 (b.map bV)) (hb : b.length ≤ 10000) :
  Calls Tryz.prog 24 #[.slice aa0 nn0 cc0] w fun e w' => e = .returned (.tuple #[qV (uN b 0) (uN b 1) (uN b 2) (uN b 3) (uH b 4) (uH b 5), .bool (decide (UebOk b))]) ∧ Below w.heap.size w w' := by
 obtain rfl : nn0 = b.length := hv.lenB
 have hvcap : b.length ≤ cc0 := hv.capOf
 refine enter1 _ Tryz.func24 rfl Tryz.ntmps24 Tryz.results24 rfl ?_
 have S0 := St.start w hH
 refine Wr (Ad S0 fun b1 w2 S3 => ?_)
 refine Pv (Nr ?_)
 refine Pv ?_
 refine Cs g_aumbry_code_TakeNets ((takeNets_ok S3.le hv 6 (by omega) (by omega)).mono ?_)
 rintro e w8 ⟨a4, c5, rfl, r6, hB7⟩
 obtain ⟨G10, eG12⟩ : ∃ G, G = F.ext H w2.heap.size w8 := ⟨_, rfl⟩
 obtain ⟨hl11, S9⟩ := S3.ext hB7
 rw [← eG12] at hl11 S9 r6
 refine ⟨_, rfl, trivial, ?_⟩
 iterate 5 refine Pv ?_
 refine T_nil (W_seq (Wr ?_))
 iterate 3 refine Pv ?_
 refine Tp 15 (fun h13' => ?_) (fun h13' => ?_)
 ·have h13 := of_ndec_t h13'
  iterate 5 refine No ?_
  iterate 2 refine Pv ?_
  iterate 5 refine No ?_
  refine Pv (T_nil ?_)
  refine W_cond_true rfl (Wr (T_buildS (cells := (qz32 : Value).cells) rfl rfl rfl rfl rfl rfl rfl rfl rfl rfl (Ah (hl := by exact qV_sz (q_len lr32 lr32 rfl)) (hl2 := by exact qV_sz (q_len lr32 lr32 rfl)) (h1 := by exact qV_one) 0 S9 fun w14 S15 => ?_)))
  refine Pv (T_nil (W_ret ?_))
  refine ⟨_, ⟨_, _, _, rfl, rfl, run_loadVarA rfl rfl (qV_sz (q_len lr32 lr32 rfl)) (S15.cells 0 rfl), ⟨_, _, rfl, rfl, rfl⟩⟩, ?_⟩
  have HNO : ¬ UebOk b := by
   intro hq
   obtain ⟨q0, q1, q2, q3, q4, q5, q6, q7, q8, q9, q10, q11, q12⟩ := hq
   obtain ⟨e0, e1, e2, e3, e4, e5⟩ := six_len q1 q2 q3 q4 q5 q6
   first | exact h13 q0 | omega | exact h13 (numU q1 q2 q3 q4) | exact h13 (packU_six q0 q1 q2 q3 q4)
  exact ⟨u_no HNO, S15.below⟩
 have h13 := of_ndec_f h13'
 refine Ys ?_
 have HA := h13
 have hn6 := ntAll_len HA
 refine Pv ?_
 refine Ys ?_
 obtain ⟨hs19, r20, r21⟩ := (id r6)
 refine Ag 4 r20 fun b16 o17 hc18 => ?_
 obtain ⟨a24, c25, hc27, hv23, r26⟩ := r21.at 4 (by omega)
 have hc28 := hc18 0 (.slice a24 ((ntAll 6 b).getD 4 []).length c25) (by simpa using hv23)
 simp only [Nat.add_zero] at hc28
 refine Ys ?_
 refine Ac S9 hc28 ?_
 iterate 2 (refine Ys ?_; refine Pv ?_)
 iterate 2 refine Pv ?_
 refine Tp 22 (fun h29' => ?_) (fun h29' => ?_)
 ·have h29 := of_ndec_t h29'
  iterate 5 refine No ?_
  refine Pv (T_nil ?_)
  refine W_cond_true rfl (Wr (T_buildS (cells := (qz32 : Value).cells) rfl rfl rfl rfl rfl rfl rfl rfl rfl rfl (Ah (hl := by exact qV_sz (q_len lr32 lr32 rfl)) (hl2 := by exact qV_sz (q_len lr32 lr32 rfl)) (h1 := by exact qV_one) 0 S9 fun w30 S31 => ?_)))
  refine Pv (T_nil (W_ret ?_))
  refine ⟨_, ⟨_, _, _, rfl, rfl, run_loadVarA rfl rfl (qV_sz (q_len lr32 lr32 rfl)) (S31.cells 0 rfl), ⟨_, _, rfl, rfl, rfl⟩⟩, ?_⟩
  have HNO : ¬ UebOk b := by
   intro hq
   obtain ⟨q0, q1, q2, q3, q4, q5, q6, q7, q8, q9, q10, q11, q12⟩ := hq
   obtain ⟨e0, e1, e2, e3, e4, e5⟩ := six_len q1 q2 q3 q4 q5 q6
   first | exact h29 q0 | omega | exact h29 (numU q1 q2 q3 q4) | exact h29 (packU_six q0 q1 q2 q3 q4)
  exact ⟨u_no HNO, S31.below⟩
 have h29 := of_ndec_f h29'
 refine Ys ?_
 refine Pv ?_
 refine Ys ?_
 obtain ⟨hs35, r36, r37⟩ := (id r6)
 refine Ag 5 r36 fun b32 o33 hc34 => ?_
 obtain ⟨a40, c41, hc43, hv39, r42⟩ := r37.at 5 (by omega)
 have hc44 := hc34 0 (.slice a40 ((ntAll 6 b).getD 5 []).length c41) (by simpa using hv39)
 simp only [Nat.add_zero] at hc44
 refine Ys ?_
 refine Ac S9 hc44 ?_
 iterate 2 (refine Ys ?_; refine Pv ?_)
 refine Pv (T_nil ?_)
 refine W_cond_not rfl (fun h45 => ?_) (fun h45 => ?_)
 ·refine Wr (T_buildS (cells := (qz32 : Value).cells) rfl rfl rfl rfl rfl rfl rfl rfl rfl rfl (Ah (hl := by exact qV_sz (q_len lr32 lr32 rfl)) (hl2 := by exact qV_sz (q_len lr32 lr32 rfl)) (h1 := by exact qV_one) 0 S9 fun w46 S47 => ?_))
  refine Pv (T_nil (W_ret ?_))
  refine ⟨_, ⟨_, _, _, rfl, rfl, run_loadVarA rfl rfl (qV_sz (q_len lr32 lr32 rfl)) (S47.cells 0 rfl), ⟨_, _, rfl, rfl, rfl⟩⟩, ?_⟩
  have HNO : ¬ UebOk b := by
   intro hq
   obtain ⟨q0, q1, q2, q3, q4, q5, q6, q7, q8, q9, q10, q11, q12⟩ := hq
   obtain ⟨e0, e1, e2, e3, e4, e5⟩ := six_len q1 q2 q3 q4 q5 q6
   first | exact h45 q0 | omega | exact h45 (numU q1 q2 q3 q4) | exact h45 (packU_six q0 q1 q2 q3 q4)
  exact ⟨u_no HNO, S47.below⟩
 refine W_skip (Wr (Pv ?_))
 refine Ae (hone := by simp [Value.cells]; rfl) ([(1 : Int), (1 : Int), (4 : Int), (4 : Int)].map iV) fun a48 w49 hB50 ho51 => ?_
 have S52 := S9.own hB50 ho51
 refine ⟨trivial, ?_⟩
 obtain ⟨G54, hl55, S53, r56⟩ := S52.stillRow 0 rfl
 refine Cs g_aumbry_layout_nums ((nums_ok S53.le (l := (ntAll 6 b)) (m := ([(1 : Int), (1 : Int), (4 : Int), (4 : Int)])) (r6.mono hl55) r56 (by show 4 ≤ _; omega) (by show 4 ≤ 10; omega) w7u (fun x hx => by have := ntAll_el 6 b x hx; omega)).mono ?_)
 rintro e w61 ⟨a57, c58, rfl, r59, hB60⟩
 obtain ⟨G63, eG65⟩ : ∃ G, G = F.ext G54 w49.heap.size w61 := ⟨_, rfl⟩
 obtain ⟨hl64, S62⟩ := S53.ext hB60
 rw [← eG65] at hl64 S62 r59
 refine ⟨_, rfl, trivial, ?_⟩
 iterate 5 refine Pv ?_
 refine T_nil (W_seq (Wr ?_))
 iterate 2 refine Pv ?_
 refine T_nil (W_cond_not rfl (fun h66 => ?_) (fun h66 => ?_))
 ·refine Wr (T_buildS (cells := (qz32 : Value).cells) rfl rfl rfl rfl rfl rfl rfl rfl rfl rfl (Ah (hl := by exact qV_sz (q_len lr32 lr32 rfl)) (hl2 := by exact qV_sz (q_len lr32 lr32 rfl)) (h1 := by exact qV_one) 0 S62 fun w67 S68 => ?_))
  refine Pv (T_nil (W_ret ?_))
  refine ⟨_, ⟨_, _, _, rfl, rfl, run_loadVarA rfl rfl (qV_sz (q_len lr32 lr32 rfl)) (S68.cells 0 rfl), ⟨_, _, rfl, rfl, rfl⟩⟩, ?_⟩
  have HNO : ¬ UebOk b := by
   intro hq
   obtain ⟨q0, q1, q2, q3, q4, q5, q6, q7, q8, q9, q10, q11, q12⟩ := hq
   obtain ⟨e0, e1, e2, e3, e4, e5⟩ := six_len q1 q2 q3 q4 q5 q6
   first | exact h66 q0 | omega | exact h66 (numU q1 q2 q3 q4) | exact h66 (packU_six q0 q1 q2 q3 q4)
  exact ⟨u_no HNO, S68.below⟩
 refine W_skip (W_seq (W_plan (planF Tryz.prog G63 [41, 44, 47, 50, 53, 54, 55, 58, 59, 60]) rfl (by kernel_rfl) S62.le ?_))
 have S69 := S62.drew
 refine Pv ?_
 have HN := h66
 have hn4 : (numA (ntAll 6 b) [(1 : Int), (1 : Int), (4 : Int), (4 : Int)]).length = 4 := by rw [numA_yes HN, numL_len]; rfl
 have HQ0 : (Go.Au.six b 0).length = 1 := by have h : (((ntAll 6 b).getD 0 []).length : Int) = 1 := HN 0 (by decide); show ((ntAll 6 b).getD 0 []).length = _; omega
 have HQ1 : (Go.Au.six b 1).length = 1 := by have h : (((ntAll 6 b).getD 1 []).length : Int) = 1 := HN 1 (by decide); show ((ntAll 6 b).getD 1 []).length = _; omega
 have HQ2 : (Go.Au.six b 2).length = 4 := by have h : (((ntAll 6 b).getD 2 []).length : Int) = 4 := HN 2 (by decide); show ((ntAll 6 b).getD 2 []).length = _; omega
 have HQ3 : (Go.Au.six b 3).length = 4 := by have h : (((ntAll 6 b).getD 3 []).length : Int) = 4 := HN 3 (by decide); show ((ntAll 6 b).getD 3 []).length = _; omega
 have HB0 := be_w HQ0
 have HB1 := be_w HQ1
 have HB2 := be_w HQ2
 have HB3 := be_w HQ3
 have HL4 : (Go.Au.six b 4).length = 32 := by show ((ntAll 6 b).getD 4 []).length = _; omega
 have HL5 : (Go.Au.six b 5).length = 32 := by show ((ntAll 6 b).getD 5 []).length = _; omega
 refine Ag 0 r59 fun b70 o71 hc72 => ?_
 have hc73 := hc72 0 (.int .i64 ((numA (ntAll 6 b) ([(1 : Int), (1 : Int), (4 : Int), (4 : Int)])).getD 0 0)) (at_i (numA (ntAll 6 b) ([(1 : Int), (1 : Int), (4 : Int), (4 : Int)])) 0 (by omega))
 simp only [Nat.add_zero] at hc73
 refine Aj hc73 ?_
 refine T_re (v' := .int .i64 ((Go.Au.be (Go.Au.six b 0) : Nat) : Int)) (congrArg (Value.int .i64) (by rw [numA_yes HN]; exact numL_get (by decide))) ?_
 refine Pv ?_
 refine Ag 1 r59 fun b74 o75 hc76 => ?_
 have hc77 := hc76 0 (.int .i64 ((numA (ntAll 6 b) ([(1 : Int), (1 : Int), (4 : Int), (4 : Int)])).getD 1 0)) (at_i (numA (ntAll 6 b) ([(1 : Int), (1 : Int), (4 : Int), (4 : Int)])) 1 (by omega))
 simp only [Nat.add_zero] at hc77
 refine Aj hc77 ?_
 refine T_re (v' := .int .i64 ((Go.Au.be (Go.Au.six b 1) : Nat) : Int)) (congrArg (Value.int .i64) (by rw [numA_yes HN]; exact numL_get (by decide))) ?_
 refine Pv ?_
 refine Ag 2 r59 fun b78 o79 hc80 => ?_
 have hc81 := hc80 0 (.int .i64 ((numA (ntAll 6 b) ([(1 : Int), (1 : Int), (4 : Int), (4 : Int)])).getD 2 0)) (at_i (numA (ntAll 6 b) ([(1 : Int), (1 : Int), (4 : Int), (4 : Int)])) 2 (by omega))
 simp only [Nat.add_zero] at hc81
 refine Aj hc81 ?_
 refine T_re (v' := .int .i64 ((Go.Au.be (Go.Au.six b 2) : Nat) : Int)) (congrArg (Value.int .i64) (by rw [numA_yes HN]; exact numL_get (by decide))) ?_
 refine Pv ?_
 refine Ag 3 r59 fun b82 o83 hc84 => ?_
 have hc85 := hc84 0 (.int .i64 ((numA (ntAll 6 b) ([(1 : Int), (1 : Int), (4 : Int), (4 : Int)])).getD 3 0)) (at_i (numA (ntAll 6 b) ([(1 : Int), (1 : Int), (4 : Int), (4 : Int)])) 3 (by omega))
 simp only [Nat.add_zero] at hc85
 refine Aj hc85 ?_
 refine T_re (v' := .int .i64 ((Go.Au.be (Go.Au.six b 3) : Nat) : Int)) (congrArg (Value.int .i64) (by rw [numA_yes HN]; exact numL_get (by decide))) ?_
 refine Pv ?_
 obtain ⟨hs89, r90, r91⟩ := (r6.mono (hl55.trans hl64))
 refine Ag 4 r90 fun b86 o87 hc88 => ?_
 obtain ⟨a94, c95, hc97, hv93, r96⟩ := r91.at 4 (by omega)
 have hc98 := hc88 0 (.slice a94 ((ntAll 6 b).getD 4 []).length c95) (by simpa using hv93)
 simp only [Nat.add_zero] at hc98
 refine Aj hc98 ?_
 have hb102 := (r96).lenB
 have hl103 := take_len32 (l := ((ntAll 6 b).getD 4 [])) (by omega)
 refine T_s2apR r96 rfl rfl rfl rfl rfl rfl (by decide) (by omega) fun b99 o100 hc101 => ?_
 refine T_loadGAP _ (fun _ h => h) hc101 rfl rfl rfl rfl rfl rfl rfl rfl (hVs hl103) (T_re (v' := hV (Go.Au.six b 4)) (congrArg hV (List.take_of_length_le (by omega))) ?_)
 refine Pv ?_
 obtain ⟨hs107, r108, r109⟩ := (r6.mono (hl55.trans hl64))
 refine Ag 5 r108 fun b104 o105 hc106 => ?_
 obtain ⟨a112, c113, hc115, hv111, r114⟩ := r109.at 5 (by omega)
 have hc116 := hc106 0 (.slice a112 ((ntAll 6 b).getD 5 []).length c113) (by simpa using hv111)
 simp only [Nat.add_zero] at hc116
 refine Aj hc116 ?_
 have hb120 := (r114).lenB
 have hl121 := take_len32 (l := ((ntAll 6 b).getD 5 [])) (by omega)
 refine T_s2apR r114 rfl rfl rfl rfl rfl rfl (by decide) (by omega) fun b117 o118 hc119 => ?_
 refine T_loadGAP _ (fun _ h => h) hc119 rfl rfl rfl rfl rfl rfl rfl rfl (hVs hl121) (T_re (v' := hV (Go.Au.six b 5)) (congrArg hV (List.take_of_length_le (by omega))) ?_)
 refine T_buildS (cells := (qV ((Go.Au.be (Go.Au.six b 0) : Nat) : Int) ((Go.Au.be (Go.Au.six b 1) : Nat) : Int) ((Go.Au.be (Go.Au.six b 2) : Nat) : Int) ((Go.Au.be (Go.Au.six b 3) : Nat) : Int) (Go.Au.six b 4) (Go.Au.six b 5) : Value).cells) rfl rfl rfl rfl rfl rfl (fill_q32 HL4 HL5) rfl rfl rfl (Ad (hC := fun _ h => ((Hp.le.refl _)).trans h) S69 fun b122 w123 S124 => ?_)
 refine Ah (hC := fun _ h => ((Hp.le.refl _)).trans h) (hl := by exact qV_sz (q_len HL4 HL5 rfl)) (hl2 := by exact qV_sz (q_len HL4 HL5 rfl)) (h1 := by exact qV_one) 0 S124 fun w125 S126 => (T_nil (W_seq (Wr ?_)))
 refine Ak (hl := by exact qV_sz (q_len HL4 HL5 rfl)) 0 S126 ?_
 refine Cs g_aumbry_layout_May ((may_ok S126.le ((Go.Au.be (Go.Au.six b 0) : Nat) : Int) ((Go.Au.be (Go.Au.six b 1) : Nat) : Int) ((Go.Au.be (Go.Au.six b 2) : Nat) : Int) ((Go.Au.be (Go.Au.six b 3) : Nat) : Int) HL4 HL5).mono ?_)
 rintro e w128 ⟨rfl, hB127⟩
 have S129 := S126.call hB127
 refine ⟨_, rfl, trivial, ?_⟩
 iterate 2 refine Pv ?_
 refine Tp 65 (fun h130' => ?_) (fun h130' => ?_)
 ·have h130 := of_ndec_t h130'
  iterate 5 refine No ?_
  refine Pv (T_nil ?_)
  refine W_cond_true rfl (Wr (T_buildS (cells := (qz32 : Value).cells) rfl rfl rfl rfl rfl rfl rfl rfl rfl rfl (Ah (hl := by exact qV_sz (q_len lr32 lr32 rfl)) (hl2 := by exact qV_sz (q_len lr32 lr32 rfl)) (h1 := by exact qV_one) 1 S129 fun w131 S132 => ?_)))
  refine Pv (T_nil (W_ret ?_))
  refine ⟨_, ⟨_, _, _, rfl, rfl, run_loadVarA rfl rfl (qV_sz (q_len lr32 lr32 rfl)) (S132.cells 1 rfl), ⟨_, _, rfl, rfl, rfl⟩⟩, ?_⟩
  have HNO : ¬ UebOk b := by
   intro hq
   obtain ⟨q0, q1, q2, q3, q4, q5, q6, q7, q8, q9, q10, q11, q12⟩ := hq
   obtain ⟨e0, e1, e2, e3, e4, e5⟩ := six_len q1 q2 q3 q4 q5 q6
   first | exact h130 q0 | omega | exact h130 (numU q1 q2 q3 q4) | exact h130 (packU_six q0 q1 q2 q3 q4)
  exact ⟨u_no HNO, S132.below⟩
 have h130 := of_ndec_f h130'
 refine Ys ?_
 refine Ak (hl := by exact qV_sz (q_len HL4 HL5 rfl)) 0 S129 ?_
 refine Ys ?_
 refine Cs g_aumbry_layout_Pack ((packU_ok S129.le (hT.mono (hl11.trans (hl55.trans hl64))) ((Go.Au.be (Go.Au.six b 0) : Nat) : Int) ((Go.Au.be (Go.Au.six b 1) : Nat) : Int) ((Go.Au.be (Go.Au.six b 2) : Nat) : Int) ((Go.Au.be (Go.Au.six b 3) : Nat) : Int) (s := (Go.Au.six b 4)) (t := (Go.Au.six b 5)) HL4 HL5 (by omega) (by omega) (by omega) (by omega)).mono ?_)
 rintro e w138 ⟨a133, c134, hc135, rfl, ho136, hB137⟩
 have hl139 := packU_len ((Go.Au.be (Go.Au.six b 0) : Nat) : Int) ((Go.Au.be (Go.Au.six b 1) : Nat) : Int) ((Go.Au.be (Go.Au.six b 2) : Nat) : Int) ((Go.Au.be (Go.Au.six b 3) : Nat) : Int) (s := (Go.Au.six b 4)) (t := (Go.Au.six b 5)) (by have : (Go.Au.six b 4).length = _ := HL4; omega) (by have : (Go.Au.six b 5).length = _ := HL5; omega)
 have S140 := S129.own hB137 ho136
 refine ⟨_, rfl, trivial, ?_⟩
 refine Ys ?_
 refine Pv ?_
 refine Ys ?_
 obtain ⟨G142, hl143, S141, r144⟩ := S140.stillRow 0 rfl
 refine Cs g_bytes_Equal ((bytesEqual_ok S141.le r144 (hv.mono (hl11.trans (hl55.trans (hl64.trans hl143))))).mono ?_)
 rintro e w146 ⟨rfl, hB145⟩
 have S147 := S141.call hB145
 refine ⟨_, rfl, trivial, ?_⟩
 refine Ys ?_
 iterate 2 refine Pv ?_
 refine T_nil (W_cond_not rfl (fun h148 => ?_) (fun h148 => ?_))
 ·refine Wr (T_buildS (cells := (qz32 : Value).cells) rfl rfl rfl rfl rfl rfl rfl rfl rfl rfl (Ah (hl := by exact qV_sz (q_len lr32 lr32 rfl)) (hl2 := by exact qV_sz (q_len lr32 lr32 rfl)) (h1 := by exact qV_one) 1 S147 fun w149 S150 => ?_))
  refine Pv (T_nil (W_ret ?_))
  refine ⟨_, ⟨_, _, _, rfl, rfl, run_loadVarA rfl rfl (qV_sz (q_len lr32 lr32 rfl)) (S150.cells 1 rfl), ⟨_, _, rfl, rfl, rfl⟩⟩, ?_⟩
  have HNO : ¬ UebOk b := by
   intro hq
   obtain ⟨q0, q1, q2, q3, q4, q5, q6, q7, q8, q9, q10, q11, q12⟩ := hq
   obtain ⟨e0, e1, e2, e3, e4, e5⟩ := six_len q1 q2 q3 q4 q5 q6
   first | exact h148 q0 | omega | exact h148 (numU q1 q2 q3 q4) | exact h148 (packU_six q0 q1 q2 q3 q4)
  exact ⟨u_no HNO, S150.below⟩
 refine W_skip (Wr (Ak (hl := by exact qV_sz (q_len HL4 HL5 rfl)) 0 S147 ?_))
 refine Ah (hl := by exact qV_sz (q_len HL4 HL5 rfl)) (hl2 := by exact qV_sz (q_len HL4 HL5 rfl)) (h1 := by exact qV_one) 1 S147 fun w151 S152 => ?_
 refine Pv (T_nil (W_ret ?_))
 refine ⟨_, ⟨_, _, _, rfl, rfl, run_loadVarA rfl rfl (qV_sz (q_len HL4 HL5 rfl)) (S152.cells 1 rfl), ⟨_, _, rfl, rfl, rfl⟩⟩, ?_⟩
 exact ⟨u_yes ⟨HA, HQ0, HQ1, HQ2, HQ3, HL4, HL5, by omega, by omega, by omega, by omega, by omega, by omega⟩, S152.below⟩




theorem unpackUR_ok {H : Hp} {w : World} (hH : H.le (hw w)) {b : List UInt8} {aa0 : Option Addr} {nn0 cc0 : Nat} (hv : Rd H (.slice aa0 nn0 cc0) nn0 1 (b.map bV)) (hb : b.length ≤ 10000) :
  Calls Tryz.prog 32 #[.slice aa0 nn0 cc0] w fun e w' => e = .returned (.tuple #[qV (uN b 0) (uN b 1) (uN b 2) (uN b 3) (uH b 4) (uH b 5), .bool (decide (UebOk b))]) ∧ Below w.heap.size w w' := by
 obtain rfl : nn0 = b.length := hv.lenB
 have hvcap : b.length ≤ cc0 := hv.capOf
 refine enter1 _ Tryz.func32 rfl Tryz.ntmps32 Tryz.results32 rfl ?_
 have S0 := St.start w hH
 refine Wr (Ad S0 fun b1 w2 S3 => ?_)
 refine Pv (Nr ?_)
 refine Pv ?_
 refine Cs g_aumbry_aumbryref01_TakeNets ((takeNetsR_ok S3.le hv 6 (by omega) (by omega)).mono ?_)
 rintro e w8 ⟨a4, c5, rfl, r6, hB7⟩
 obtain ⟨G10, eG12⟩ : ∃ G, G = F.ext H w2.heap.size w8 := ⟨_, rfl⟩
 obtain ⟨hl11, S9⟩ := S3.ext hB7
 rw [← eG12] at hl11 S9 r6
 refine ⟨_, rfl, trivial, ?_⟩
 iterate 5 refine Pv ?_
 refine T_nil (W_seq (Wr ?_))
 iterate 3 refine Pv ?_
 refine Tp 14 (fun h13' => ?_) (fun h13' => ?_)
 ·have h13 := of_ndec_t h13'
  iterate 5 refine No ?_
  iterate 2 refine Pv ?_
  iterate 5 refine No ?_
  iterate 2 refine Pv ?_
  iterate 5 refine No ?_
  iterate 2 refine Pv ?_
  iterate 5 refine No ?_
  iterate 2 refine Pv ?_
  iterate 5 refine No ?_
  iterate 2 refine Pv ?_
  iterate 5 refine No ?_
  refine Pv (T_nil ?_)
  refine W_cond_true rfl (Wr (T_buildS (cells := (qz32 : Value).cells) rfl rfl rfl rfl rfl rfl rfl rfl rfl rfl (Ah (hl := by exact qV_sz (q_len lr32 lr32 rfl)) (hl2 := by exact qV_sz (q_len lr32 lr32 rfl)) (h1 := by exact qV_one) 0 S9 fun w14 S15 => ?_)))
  refine Pv (T_nil (W_ret ?_))
  refine ⟨_, ⟨_, _, _, rfl, rfl, run_loadVarA rfl rfl (qV_sz (q_len lr32 lr32 rfl)) (S15.cells 0 rfl), ⟨_, _, rfl, rfl, rfl⟩⟩, ?_⟩
  have HNO : ¬ UebOk b := by
   intro hq
   obtain ⟨q0, q1, q2, q3, q4, q5, q6, q7, q8, q9, q10, q11, q12⟩ := hq
   obtain ⟨e0, e1, e2, e3, e4, e5⟩ := six_len q1 q2 q3 q4 q5 q6
   first | exact h13 q0 | omega | exact h13 (numU q1 q2 q3 q4) | exact h13 (packU_six q0 q1 q2 q3 q4)
  exact ⟨u_no HNO, S15.below⟩
 have h13 := of_ndec_f h13'
 refine Ys ?_
 have HA := h13
 have hn6 := ntAll_len HA
 refine Pv ?_
 refine Ys ?_
 obtain ⟨hs19, r20, r21⟩ := (id r6)
 refine Ag 0 r20 fun b16 o17 hc18 => ?_
 obtain ⟨a24, c25, hc27, hv23, r26⟩ := r21.at 0 (by omega)
 have hc28 := hc18 0 (.slice a24 ((ntAll 6 b).getD 0 []).length c25) (by simpa using hv23)
 simp only [Nat.add_zero] at hc28
 refine Ys ?_
 refine Ac S9 hc28 ?_
 iterate 2 (refine Ys ?_; refine Pv ?_)
 iterate 2 refine Pv ?_
 refine Tp 21 (fun h29' => ?_) (fun h29' => ?_)
 ·have h29 := of_ndec_t h29'
  iterate 5 refine No ?_
  iterate 2 refine Pv ?_
  iterate 5 refine No ?_
  iterate 2 refine Pv ?_
  iterate 5 refine No ?_
  iterate 2 refine Pv ?_
  iterate 5 refine No ?_
  iterate 2 refine Pv ?_
  iterate 5 refine No ?_
  refine Pv (T_nil ?_)
  refine W_cond_true rfl (Wr (T_buildS (cells := (qz32 : Value).cells) rfl rfl rfl rfl rfl rfl rfl rfl rfl rfl (Ah (hl := by exact qV_sz (q_len lr32 lr32 rfl)) (hl2 := by exact qV_sz (q_len lr32 lr32 rfl)) (h1 := by exact qV_one) 0 S9 fun w30 S31 => ?_)))
  refine Pv (T_nil (W_ret ?_))
  refine ⟨_, ⟨_, _, _, rfl, rfl, run_loadVarA rfl rfl (qV_sz (q_len lr32 lr32 rfl)) (S31.cells 0 rfl), ⟨_, _, rfl, rfl, rfl⟩⟩, ?_⟩
  have HNO : ¬ UebOk b := by
   intro hq
   obtain ⟨q0, q1, q2, q3, q4, q5, q6, q7, q8, q9, q10, q11, q12⟩ := hq
   obtain ⟨e0, e1, e2, e3, e4, e5⟩ := six_len q1 q2 q3 q4 q5 q6
   first | exact h29 q0 | omega | exact h29 (numU q1 q2 q3 q4) | exact h29 (packU_six q0 q1 q2 q3 q4)
  exact ⟨u_no HNO, S31.below⟩
 have h29 := of_ndec_f h29'
 refine Ys ?_
 refine Pv ?_
 refine Ys ?_
 obtain ⟨hs35, r36, r37⟩ := (id r6)
 refine Ag 1 r36 fun b32 o33 hc34 => ?_
 obtain ⟨a40, c41, hc43, hv39, r42⟩ := r37.at 1 (by omega)
 have hc44 := hc34 0 (.slice a40 ((ntAll 6 b).getD 1 []).length c41) (by simpa using hv39)
 simp only [Nat.add_zero] at hc44
 refine Ys ?_
 refine Ac S9 hc44 ?_
 iterate 2 (refine Ys ?_; refine Pv ?_)
 iterate 2 refine Pv ?_
 refine Tp 28 (fun h45' => ?_) (fun h45' => ?_)
 ·have h45 := of_ndec_t h45'
  iterate 5 refine No ?_
  iterate 2 refine Pv ?_
  iterate 5 refine No ?_
  iterate 2 refine Pv ?_
  iterate 5 refine No ?_
  iterate 2 refine Pv ?_
  iterate 5 refine No ?_
  refine Pv (T_nil ?_)
  refine W_cond_true rfl (Wr (T_buildS (cells := (qz32 : Value).cells) rfl rfl rfl rfl rfl rfl rfl rfl rfl rfl (Ah (hl := by exact qV_sz (q_len lr32 lr32 rfl)) (hl2 := by exact qV_sz (q_len lr32 lr32 rfl)) (h1 := by exact qV_one) 0 S9 fun w46 S47 => ?_)))
  refine Pv (T_nil (W_ret ?_))
  refine ⟨_, ⟨_, _, _, rfl, rfl, run_loadVarA rfl rfl (qV_sz (q_len lr32 lr32 rfl)) (S47.cells 0 rfl), ⟨_, _, rfl, rfl, rfl⟩⟩, ?_⟩
  have HNO : ¬ UebOk b := by
   intro hq
   obtain ⟨q0, q1, q2, q3, q4, q5, q6, q7, q8, q9, q10, q11, q12⟩ := hq
   obtain ⟨e0, e1, e2, e3, e4, e5⟩ := six_len q1 q2 q3 q4 q5 q6
   first | exact h45 q0 | omega | exact h45 (numU q1 q2 q3 q4) | exact h45 (packU_six q0 q1 q2 q3 q4)
  exact ⟨u_no HNO, S47.below⟩
 have h45 := of_ndec_f h45'
 refine Ys ?_
 refine Pv ?_
 refine Ys ?_
 obtain ⟨hs51, r52, r53⟩ := (id r6)
 refine Ag 2 r52 fun b48 o49 hc50 => ?_
 obtain ⟨a56, c57, hc59, hv55, r58⟩ := r53.at 2 (by omega)
 have hc60 := hc50 0 (.slice a56 ((ntAll 6 b).getD 2 []).length c57) (by simpa using hv55)
 simp only [Nat.add_zero] at hc60
 refine Ys ?_
 refine Ac S9 hc60 ?_
 iterate 2 (refine Ys ?_; refine Pv ?_)
 iterate 2 refine Pv ?_
 refine Tp 35 (fun h61' => ?_) (fun h61' => ?_)
 ·have h61 := of_ndec_t h61'
  iterate 5 refine No ?_
  iterate 2 refine Pv ?_
  iterate 5 refine No ?_
  iterate 2 refine Pv ?_
  iterate 5 refine No ?_
  refine Pv (T_nil ?_)
  refine W_cond_true rfl (Wr (T_buildS (cells := (qz32 : Value).cells) rfl rfl rfl rfl rfl rfl rfl rfl rfl rfl (Ah (hl := by exact qV_sz (q_len lr32 lr32 rfl)) (hl2 := by exact qV_sz (q_len lr32 lr32 rfl)) (h1 := by exact qV_one) 0 S9 fun w62 S63 => ?_)))
  refine Pv (T_nil (W_ret ?_))
  refine ⟨_, ⟨_, _, _, rfl, rfl, run_loadVarA rfl rfl (qV_sz (q_len lr32 lr32 rfl)) (S63.cells 0 rfl), ⟨_, _, rfl, rfl, rfl⟩⟩, ?_⟩
  have HNO : ¬ UebOk b := by
   intro hq
   obtain ⟨q0, q1, q2, q3, q4, q5, q6, q7, q8, q9, q10, q11, q12⟩ := hq
   obtain ⟨e0, e1, e2, e3, e4, e5⟩ := six_len q1 q2 q3 q4 q5 q6
   first | exact h61 q0 | omega | exact h61 (numU q1 q2 q3 q4) | exact h61 (packU_six q0 q1 q2 q3 q4)
  exact ⟨u_no HNO, S63.below⟩
 have h61 := of_ndec_f h61'
 refine Ys ?_
 refine Pv ?_
 refine Ys ?_
 obtain ⟨hs67, r68, r69⟩ := (id r6)
 refine Ag 3 r68 fun b64 o65 hc66 => ?_
 obtain ⟨a72, c73, hc75, hv71, r74⟩ := r69.at 3 (by omega)
 have hc76 := hc66 0 (.slice a72 ((ntAll 6 b).getD 3 []).length c73) (by simpa using hv71)
 simp only [Nat.add_zero] at hc76
 refine Ys ?_
 refine Ac S9 hc76 ?_
 iterate 2 (refine Ys ?_; refine Pv ?_)
 iterate 2 refine Pv ?_
 refine Tp 42 (fun h77' => ?_) (fun h77' => ?_)
 ·have h77 := of_ndec_t h77'
  iterate 5 refine No ?_
  iterate 2 refine Pv ?_
  iterate 5 refine No ?_
  refine Pv (T_nil ?_)
  refine W_cond_true rfl (Wr (T_buildS (cells := (qz32 : Value).cells) rfl rfl rfl rfl rfl rfl rfl rfl rfl rfl (Ah (hl := by exact qV_sz (q_len lr32 lr32 rfl)) (hl2 := by exact qV_sz (q_len lr32 lr32 rfl)) (h1 := by exact qV_one) 0 S9 fun w78 S79 => ?_)))
  refine Pv (T_nil (W_ret ?_))
  refine ⟨_, ⟨_, _, _, rfl, rfl, run_loadVarA rfl rfl (qV_sz (q_len lr32 lr32 rfl)) (S79.cells 0 rfl), ⟨_, _, rfl, rfl, rfl⟩⟩, ?_⟩
  have HNO : ¬ UebOk b := by
   intro hq
   obtain ⟨q0, q1, q2, q3, q4, q5, q6, q7, q8, q9, q10, q11, q12⟩ := hq
   obtain ⟨e0, e1, e2, e3, e4, e5⟩ := six_len q1 q2 q3 q4 q5 q6
   first | exact h77 q0 | omega | exact h77 (numU q1 q2 q3 q4) | exact h77 (packU_six q0 q1 q2 q3 q4)
  exact ⟨u_no HNO, S79.below⟩
 have h77 := of_ndec_f h77'
 refine Ys ?_
 refine Pv ?_
 refine Ys ?_
 obtain ⟨hs83, r84, r85⟩ := (id r6)
 refine Ag 4 r84 fun b80 o81 hc82 => ?_
 obtain ⟨a88, c89, hc91, hv87, r90⟩ := r85.at 4 (by omega)
 have hc92 := hc82 0 (.slice a88 ((ntAll 6 b).getD 4 []).length c89) (by simpa using hv87)
 simp only [Nat.add_zero] at hc92
 refine Ys ?_
 refine Ac S9 hc92 ?_
 iterate 2 (refine Ys ?_; refine Pv ?_)
 iterate 2 refine Pv ?_
 refine Tp 49 (fun h93' => ?_) (fun h93' => ?_)
 ·have h93 := of_ndec_t h93'
  iterate 5 refine No ?_
  refine Pv (T_nil ?_)
  refine W_cond_true rfl (Wr (T_buildS (cells := (qz32 : Value).cells) rfl rfl rfl rfl rfl rfl rfl rfl rfl rfl (Ah (hl := by exact qV_sz (q_len lr32 lr32 rfl)) (hl2 := by exact qV_sz (q_len lr32 lr32 rfl)) (h1 := by exact qV_one) 0 S9 fun w94 S95 => ?_)))
  refine Pv (T_nil (W_ret ?_))
  refine ⟨_, ⟨_, _, _, rfl, rfl, run_loadVarA rfl rfl (qV_sz (q_len lr32 lr32 rfl)) (S95.cells 0 rfl), ⟨_, _, rfl, rfl, rfl⟩⟩, ?_⟩
  have HNO : ¬ UebOk b := by
   intro hq
   obtain ⟨q0, q1, q2, q3, q4, q5, q6, q7, q8, q9, q10, q11, q12⟩ := hq
   obtain ⟨e0, e1, e2, e3, e4, e5⟩ := six_len q1 q2 q3 q4 q5 q6
   first | exact h93 q0 | omega | exact h93 (numU q1 q2 q3 q4) | exact h93 (packU_six q0 q1 q2 q3 q4)
  exact ⟨u_no HNO, S95.below⟩
 have h93 := of_ndec_f h93'
 refine Ys ?_
 refine Pv ?_
 refine Ys ?_
 obtain ⟨hs99, r100, r101⟩ := (id r6)
 refine Ag 5 r100 fun b96 o97 hc98 => ?_
 obtain ⟨a104, c105, hc107, hv103, r106⟩ := r101.at 5 (by omega)
 have hc108 := hc98 0 (.slice a104 ((ntAll 6 b).getD 5 []).length c105) (by simpa using hv103)
 simp only [Nat.add_zero] at hc108
 refine Ys ?_
 refine Ac S9 hc108 ?_
 iterate 2 (refine Ys ?_; refine Pv ?_)
 refine Pv (T_nil ?_)
 refine W_cond_not rfl (fun h109 => ?_) (fun h109 => ?_)
 ·refine Wr (T_buildS (cells := (qz32 : Value).cells) rfl rfl rfl rfl rfl rfl rfl rfl rfl rfl (Ah (hl := by exact qV_sz (q_len lr32 lr32 rfl)) (hl2 := by exact qV_sz (q_len lr32 lr32 rfl)) (h1 := by exact qV_one) 0 S9 fun w110 S111 => ?_))
  refine Pv (T_nil (W_ret ?_))
  refine ⟨_, ⟨_, _, _, rfl, rfl, run_loadVarA rfl rfl (qV_sz (q_len lr32 lr32 rfl)) (S111.cells 0 rfl), ⟨_, _, rfl, rfl, rfl⟩⟩, ?_⟩
  have HNO : ¬ UebOk b := by
   intro hq
   obtain ⟨q0, q1, q2, q3, q4, q5, q6, q7, q8, q9, q10, q11, q12⟩ := hq
   obtain ⟨e0, e1, e2, e3, e4, e5⟩ := six_len q1 q2 q3 q4 q5 q6
   first | exact h109 q0 | omega | exact h109 (numU q1 q2 q3 q4) | exact h109 (packU_six q0 q1 q2 q3 q4)
  exact ⟨u_no HNO, S111.below⟩
 refine W_skip (W_seq (W_tree (planF Tryz.prog G10 [59, 61, 65, 67, 71, 75]) (.step 0 (.step 1 (.step 2 (.step 3 (.step 4 (.step 5 (.step 6 (.step 7 (.step 8 (.step 9 (.step 10 (.step 11 (.step 12 (.step 13 (.step 14 (.step 16 (.step 17 (.step 18 (.fork 15 21 (.fork 19 21 (.step 20 (.step 21 (.step 22 .done))) (.step 19 (.step 20 (.step 22 .done)))) (.step 15 (.step 19 (.step 20 (.step 22 .done))))))))))))))))))))))) rfl (by kernel_rfl) S9.le ?_))
 have S112 := S9.drew
 refine TT_step rfl ?_
 have HQ0 : (Go.Au.six b 0).length = 1 := by show ((ntAll 6 b).getD 0 []).length = _; omega
 have HQ1 : (Go.Au.six b 1).length = 1 := by show ((ntAll 6 b).getD 1 []).length = _; omega
 have HQ2 : (Go.Au.six b 2).length = 4 := by show ((ntAll 6 b).getD 2 []).length = _; omega
 have HQ3 : (Go.Au.six b 3).length = 4 := by show ((ntAll 6 b).getD 3 []).length = _; omega
 have HB0 := be_w HQ0
 have HB1 := be_w HQ1
 have HB2 := be_w HQ2
 have HB3 := be_w HQ3
 have HL4 : (Go.Au.six b 4).length = 32 := by show ((ntAll 6 b).getD 4 []).length = _; omega
 have HL5 : (Go.Au.six b 5).length = 32 := by show ((ntAll 6 b).getD 5 []).length = _; omega
 refine Pv ?_
 refine Nt rfl ?_
 obtain ⟨hs116, r117, r118⟩ := (id r6)
 refine Ag 0 r117 fun b113 o114 hc115 => ?_
 obtain ⟨a121, c122, hc124, hv120, r123⟩ := r118.at 0 (by omega)
 have hc125 := hc115 0 (.slice a121 ((ntAll 6 b).getD 0 []).length c122) (by simpa using hv120)
 simp only [Nat.add_zero] at hc125
 refine Nt rfl (Aj hc125 ?_)
 refine Nt rfl (Ag 0 r123 fun b126 o127 hc128 => ?_)
 have hc129 := hc128 0 (bV (((ntAll 6 b).getD 0 []).getD 0 0)) (at_b ((ntAll 6 b).getD 0 []) 0 (by omega))
 simp only [Nat.add_zero] at hc129
 refine Nt rfl (Aj hc129 ?_)
 refine Nt rfl (T_b2i rfl rfl rfl rfl rfl rfl rfl (T_re (v' := .int .i64 ((Go.Au.be (Go.Au.six b 0) : Nat) : Int)) (congrArg (fun q : Nat => Value.int .i64 (q : Int)) (be_one _ (by omega)).symm) ?_))
 refine Nt rfl (Pv ?_)
 refine Nt rfl ?_
 obtain ⟨hs133, r134, r135⟩ := (id r6)
 refine Ag 1 r134 fun b130 o131 hc132 => ?_
 obtain ⟨a138, c139, hc141, hv137, r140⟩ := r135.at 1 (by omega)
 have hc142 := hc132 0 (.slice a138 ((ntAll 6 b).getD 1 []).length c139) (by simpa using hv137)
 simp only [Nat.add_zero] at hc142
 refine Nt rfl (Aj hc142 ?_)
 refine Nt rfl (Ag 0 r140 fun b143 o144 hc145 => ?_)
 have hc146 := hc145 0 (bV (((ntAll 6 b).getD 1 []).getD 0 0)) (at_b ((ntAll 6 b).getD 1 []) 0 (by omega))
 simp only [Nat.add_zero] at hc146
 refine Nt rfl (Aj hc146 ?_)
 refine Nt rfl (T_b2i rfl rfl rfl rfl rfl rfl rfl (T_re (v' := .int .i64 ((Go.Au.be (Go.Au.six b 1) : Nat) : Int)) (congrArg (fun q : Nat => Value.int .i64 (q : Int)) (be_one _ (by omega)).symm) ?_))
 refine Nt rfl (Pv ?_)
 refine Nt rfl ?_
 obtain ⟨hs150, r151, r152⟩ := (id r6)
 refine Ag 4 r151 fun b147 o148 hc149 => ?_
 obtain ⟨a155, c156, hc158, hv154, r157⟩ := r152.at 4 (by omega)
 have hc159 := hc149 0 (.slice a155 ((ntAll 6 b).getD 4 []).length c156) (by simpa using hv154)
 simp only [Nat.add_zero] at hc159
 refine Nt rfl (Aj hc159 ?_)
 refine Nt rfl (Pv ?_)
 refine Nt rfl ?_
 obtain ⟨hs163, r164, r165⟩ := (id r6)
 refine Ag 5 r164 fun b160 o161 hc162 => ?_
 obtain ⟨a168, c169, hc171, hv167, r170⟩ := r165.at 5 (by omega)
 have hc172 := hc162 0 (.slice a168 ((ntAll 6 b).getD 5 []).length c169) (by simpa using hv167)
 simp only [Nat.add_zero] at hc172
 refine Nt rfl (Aj hc172 (T_nil ?_))
 refine TT_fork rfl rfl ?_ ?_
 ·refine Cs g_aumbry_aumbryref13_hash ((hash_ok S112.le r157 (by omega)).mono ?_)
  rintro e w174 ⟨rfl, hB173⟩
  have S175 := S112.call hB173
  refine ⟨_, rfl, (((Hp.le.refl _)).trans S175.le), ?_⟩
  refine T_re (v' := hV (Go.Au.six b 4)) rfl (T_nil (TT_fork rfl rfl ?_ ?_))
  ·refine Cs g_aumbry_aumbryref13_hash ((hash_ok S175.le r170 (by omega)).mono ?_)
   rintro e w177 ⟨rfl, hB176⟩
   have S178 := S175.call hB176
   refine ⟨_, rfl, (((Hp.le.refl _)).trans S178.le), ?_⟩
   refine T_re (v' := hV (Go.Au.six b 5)) rfl (Nt rfl (T_buildS (cells := (qV ((Go.Au.be (Go.Au.six b 0) : Nat) : Int) ((Go.Au.be (Go.Au.six b 1) : Nat) : Int) 0 0 (Go.Au.six b 4) (Go.Au.six b 5) : Value).cells) rfl rfl rfl rfl rfl rfl (fill_q32r HL4 HL5) rfl rfl rfl (Nt rfl (Ad (hC := fun _ h => ((Hp.le.refl _)).trans h) S178 fun b179 w180 S181 => ?_))))
   refine Nt rfl (Ah (hC := fun _ h => ((Hp.le.refl _)).trans h) (hl := by exact qV_sz (q_len HL4 HL5 rfl)) (hl2 := by exact qV_sz (q_len HL4 HL5 rfl)) (h1 := by exact qV_one) 0 S181 fun w182 S183 => (T_nil (TT_done (Wr ?_))))
   refine Pv ?_
   obtain ⟨hs187, r188, r189⟩ := (id r6)
   refine Ag 2 r188 fun b184 o185 hc186 => ?_
   obtain ⟨a192, c193, hc195, hv191, r194⟩ := r189.at 2 (by omega)
   have hc196 := hc186 0 (.slice a192 ((ntAll 6 b).getD 2 []).length c193) (by simpa using hv191)
   simp only [Nat.add_zero] at hc196
   refine Ac S183 hc196 ?_
   refine Cs g_aumbry_aumbryref01_Get ((getR_ok S183.le r194 (by omega)).mono ?_)
   rintro e w198 ⟨rfl, hB197⟩
   have S199 := S183.call hB197
   refine ⟨_, rfl, trivial, ?_⟩
   iterate 2 refine Pv ?_
   refine T_re (v' := .int .i64 ((Go.Au.be (Go.Au.six b 2) : Nat) : Int)) (congrArg (fun q : Nat => Value.int .i64 (q : Int)) (getV_yes (by omega))) ?_
   refine Pv ?_
   refine Fl 2 ?_
   refine T_store1S 0 2 S199 (fun _ _ => trivial) rfl rfl rfl rfl rfl rfl rfl rfl rfl rfl rfl rfl (Nat.lt_of_lt_of_eq (show 2 < 68 by decide) (show (qV ((Go.Au.be (Go.Au.six b 0) : Nat) : Int) ((Go.Au.be (Go.Au.six b 1) : Nat) : Int) 0 0 (Go.Au.six b 4) (Go.Au.six b 5) : Value).cells.size = 68 from qV_sz (q_len HL4 HL5 rfl)).symm) fun w200 S201 => ?_
   have S202 := S201.re 0 rfl (show (qV ((Go.Au.be (Go.Au.six b 0) : Nat) : Int) ((Go.Au.be (Go.Au.six b 1) : Nat) : Int) 0 0 (Go.Au.six b 4) (Go.Au.six b 5) : Value).cells.setIfInBounds 2 (.int .i64 ((Go.Au.be (Go.Au.six b 2) : Nat) : Int)) = (qV ((Go.Au.be (Go.Au.six b 0) : Nat) : Int) ((Go.Au.be (Go.Au.six b 1) : Nat) : Int) ((Go.Au.be (Go.Au.six b 2) : Nat) : Int) 0 (Go.Au.six b 4) (Go.Au.six b 5) : Value).cells from qV_set2 _)
   refine Nr (Pv ?_)
   obtain ⟨hs206, r207, r208⟩ := (id r6)
   refine Ag 3 r207 fun b203 o204 hc205 => ?_
   obtain ⟨a211, c212, hc214, hv210, r213⟩ := r208.at 3 (by omega)
   have hc215 := hc205 0 (.slice a211 ((ntAll 6 b).getD 3 []).length c212) (by simpa using hv210)
   simp only [Nat.add_zero] at hc215
   refine Ac S202 hc215 ?_
   refine Cs g_aumbry_aumbryref01_Get ((getR_ok S202.le r213 (by omega)).mono ?_)
   rintro e w217 ⟨rfl, hB216⟩
   have S218 := S202.call hB216
   refine ⟨_, rfl, trivial, ?_⟩
   iterate 2 refine Pv ?_
   refine T_re (v' := .int .i64 ((Go.Au.be (Go.Au.six b 3) : Nat) : Int)) (congrArg (fun q : Nat => Value.int .i64 (q : Int)) (getV_yes (by omega))) ?_
   refine Pv ?_
   refine Fl 3 ?_
   refine T_store1S 0 3 S218 (fun _ _ => trivial) rfl rfl rfl rfl rfl rfl rfl rfl rfl rfl rfl rfl (Nat.lt_of_lt_of_eq (show 3 < 68 by decide) (show (qV ((Go.Au.be (Go.Au.six b 0) : Nat) : Int) ((Go.Au.be (Go.Au.six b 1) : Nat) : Int) ((Go.Au.be (Go.Au.six b 2) : Nat) : Int) 0 (Go.Au.six b 4) (Go.Au.six b 5) : Value).cells.size = 68 from qV_sz (q_len HL4 HL5 rfl)).symm) fun w219 S220 => ?_
   have S221 := S220.re 0 rfl (show (qV ((Go.Au.be (Go.Au.six b 0) : Nat) : Int) ((Go.Au.be (Go.Au.six b 1) : Nat) : Int) ((Go.Au.be (Go.Au.six b 2) : Nat) : Int) 0 (Go.Au.six b 4) (Go.Au.six b 5) : Value).cells.setIfInBounds 3 (.int .i64 ((Go.Au.be (Go.Au.six b 3) : Nat) : Int)) = (qV ((Go.Au.be (Go.Au.six b 0) : Nat) : Int) ((Go.Au.be (Go.Au.six b 1) : Nat) : Int) ((Go.Au.be (Go.Au.six b 2) : Nat) : Int) ((Go.Au.be (Go.Au.six b 3) : Nat) : Int) (Go.Au.six b 4) (Go.Au.six b 5) : Value).cells from qV_set3 _)
   refine T_nil (W_seq (Wr (Fl 0 ?_)))
   refine Am 0 0 S221 qV_0 ?_
   iterate 2 refine Pv ?_
   refine Tp 97 (fun h222' => ?_) (fun h222' => ?_)
   ·have h222 := of_decide_eq_true h222'
    iterate 5 refine No ?_
    iterate 4 (refine Pv ?_; refine Pv ?_; refine No ?_; refine No ?_; refine No ?_)
    refine Pv (T_nil ?_)
    refine W_cond_true rfl (Wr (T_buildS (cells := (qz32 : Value).cells) rfl rfl rfl rfl rfl rfl rfl rfl rfl rfl (Ah (hl := by exact qV_sz (q_len lr32 lr32 rfl)) (hl2 := by exact qV_sz (q_len lr32 lr32 rfl)) (h1 := by exact qV_one) 1 S221 fun w223 S224 => ?_)))
    refine Pv (T_nil (W_ret ?_))
    refine ⟨_, ⟨_, _, _, rfl, rfl, run_loadVarA rfl rfl (qV_sz (q_len lr32 lr32 rfl)) (S224.cells 1 rfl), ⟨_, _, rfl, rfl, rfl⟩⟩, ?_⟩
    have HNO : ¬ UebOk b := by
     intro hq
     obtain ⟨q0, q1, q2, q3, q4, q5, q6, q7, q8, q9, q10, q11, q12⟩ := hq
     obtain ⟨e0, e1, e2, e3, e4, e5⟩ := six_len q1 q2 q3 q4 q5 q6
     first | exact h222 q0 | omega | exact h222 (numU q1 q2 q3 q4) | exact h222 (packU_six q0 q1 q2 q3 q4)
    exact ⟨u_no HNO, S224.below⟩
   have h222 := of_decide_eq_false h222'
   refine Ys ?_
   refine Fl 0 ?_
   refine Ys ?_
   refine Am 0 0 S221 qV_0 ?_
   refine Ys ?_
   refine Fl 1 ?_
   refine Ys ?_
   refine Am 0 1 S221 qV_1 ?_
   refine Ys ?_
   iterate 3 refine Pv ?_
   refine Tp 104 (fun h225' => ?_) (fun h225' => ?_)
   ·have h225 := of_decide_eq_true h225'
    iterate 3 (refine No ?_; refine No ?_; refine No ?_; refine Pv ?_; refine Pv ?_)
    iterate 3 refine No ?_
    refine Pv (T_nil ?_)
    refine W_cond_true rfl (Wr (T_buildS (cells := (qz32 : Value).cells) rfl rfl rfl rfl rfl rfl rfl rfl rfl rfl (Ah (hl := by exact qV_sz (q_len lr32 lr32 rfl)) (hl2 := by exact qV_sz (q_len lr32 lr32 rfl)) (h1 := by exact qV_one) 1 S221 fun w226 S227 => ?_)))
    refine Pv (T_nil (W_ret ?_))
    refine ⟨_, ⟨_, _, _, rfl, rfl, run_loadVarA rfl rfl (qV_sz (q_len lr32 lr32 rfl)) (S227.cells 1 rfl), ⟨_, _, rfl, rfl, rfl⟩⟩, ?_⟩
    have HNO : ¬ UebOk b := by
     intro hq
     obtain ⟨q0, q1, q2, q3, q4, q5, q6, q7, q8, q9, q10, q11, q12⟩ := hq
     obtain ⟨e0, e1, e2, e3, e4, e5⟩ := six_len q1 q2 q3 q4 q5 q6
     first | exact h225 q0 | omega | exact h225 (numU q1 q2 q3 q4) | exact h225 (packU_six q0 q1 q2 q3 q4)
    exact ⟨u_no HNO, S227.below⟩
   have h225 := of_decide_eq_false h225'
   refine Ys ?_
   refine Fl 1 ?_
   refine Ys ?_
   refine Am 0 1 S221 qV_1 ?_
   refine Ys ?_
   iterate 3 refine Pv ?_
   refine Tp 109 (fun h228' => ?_) (fun h228' => ?_)
   ·have h228 := of_decide_eq_true h228'
    iterate 2 (refine No ?_; refine No ?_; refine No ?_; refine Pv ?_; refine Pv ?_)
    iterate 3 refine No ?_
    refine Pv (T_nil ?_)
    refine W_cond_true rfl (Wr (T_buildS (cells := (qz32 : Value).cells) rfl rfl rfl rfl rfl rfl rfl rfl rfl rfl (Ah (hl := by exact qV_sz (q_len lr32 lr32 rfl)) (hl2 := by exact qV_sz (q_len lr32 lr32 rfl)) (h1 := by exact qV_one) 1 S221 fun w229 S230 => ?_)))
    refine Pv (T_nil (W_ret ?_))
    refine ⟨_, ⟨_, _, _, rfl, rfl, run_loadVarA rfl rfl (qV_sz (q_len lr32 lr32 rfl)) (S230.cells 1 rfl), ⟨_, _, rfl, rfl, rfl⟩⟩, ?_⟩
    have HNO : ¬ UebOk b := by
     intro hq
     obtain ⟨q0, q1, q2, q3, q4, q5, q6, q7, q8, q9, q10, q11, q12⟩ := hq
     obtain ⟨e0, e1, e2, e3, e4, e5⟩ := six_len q1 q2 q3 q4 q5 q6
     first | exact h228 q0 | omega | exact h228 (numU q1 q2 q3 q4) | exact h228 (packU_six q0 q1 q2 q3 q4)
    exact ⟨u_no HNO, S230.below⟩
   have h228 := of_decide_eq_false h228'
   refine Ys ?_
   refine Fl 2 ?_
   refine Ys ?_
   refine Am 0 2 S221 qV_2 ?_
   refine Ys ?_
   iterate 3 refine Pv ?_
   refine Tp 114 (fun h231' => ?_) (fun h231' => ?_)
   ·have h231 := of_decide_eq_true h231'
    iterate 3 refine No ?_
    iterate 2 refine Pv ?_
    iterate 3 refine No ?_
    refine Pv (T_nil ?_)
    refine W_cond_true rfl (Wr (T_buildS (cells := (qz32 : Value).cells) rfl rfl rfl rfl rfl rfl rfl rfl rfl rfl (Ah (hl := by exact qV_sz (q_len lr32 lr32 rfl)) (hl2 := by exact qV_sz (q_len lr32 lr32 rfl)) (h1 := by exact qV_one) 1 S221 fun w232 S233 => ?_)))
    refine Pv (T_nil (W_ret ?_))
    refine ⟨_, ⟨_, _, _, rfl, rfl, run_loadVarA rfl rfl (qV_sz (q_len lr32 lr32 rfl)) (S233.cells 1 rfl), ⟨_, _, rfl, rfl, rfl⟩⟩, ?_⟩
    have HNO : ¬ UebOk b := by
     intro hq
     obtain ⟨q0, q1, q2, q3, q4, q5, q6, q7, q8, q9, q10, q11, q12⟩ := hq
     obtain ⟨e0, e1, e2, e3, e4, e5⟩ := six_len q1 q2 q3 q4 q5 q6
     first | exact h231 q0 | omega | exact h231 (numU q1 q2 q3 q4) | exact h231 (packU_six q0 q1 q2 q3 q4)
    exact ⟨u_no HNO, S233.below⟩
   have h231 := of_decide_eq_false h231'
   refine Ys ?_
   refine Fl 2 ?_
   refine Ys ?_
   refine Am 0 2 S221 qV_2 ?_
   refine Ys ?_
   iterate 3 refine Pv ?_
   refine Tp 119 (fun h234' => ?_) (fun h234' => ?_)
   ·have h234 := of_decide_eq_true h234'
    iterate 3 refine No ?_
    refine Pv (T_nil ?_)
    refine W_cond_true rfl (Wr (T_buildS (cells := (qz32 : Value).cells) rfl rfl rfl rfl rfl rfl rfl rfl rfl rfl (Ah (hl := by exact qV_sz (q_len lr32 lr32 rfl)) (hl2 := by exact qV_sz (q_len lr32 lr32 rfl)) (h1 := by exact qV_one) 1 S221 fun w235 S236 => ?_)))
    refine Pv (T_nil (W_ret ?_))
    refine ⟨_, ⟨_, _, _, rfl, rfl, run_loadVarA rfl rfl (qV_sz (q_len lr32 lr32 rfl)) (S236.cells 1 rfl), ⟨_, _, rfl, rfl, rfl⟩⟩, ?_⟩
    have HNO : ¬ UebOk b := by
     intro hq
     obtain ⟨q0, q1, q2, q3, q4, q5, q6, q7, q8, q9, q10, q11, q12⟩ := hq
     obtain ⟨e0, e1, e2, e3, e4, e5⟩ := six_len q1 q2 q3 q4 q5 q6
     first | exact h234 q0 | omega | exact h234 (numU q1 q2 q3 q4) | exact h234 (packU_six q0 q1 q2 q3 q4)
    exact ⟨u_no HNO, S236.below⟩
   have h234 := of_decide_eq_false h234'
   refine Ys ?_
   refine Fl 3 ?_
   refine Ys ?_
   refine Am 0 3 S221 qV_3 ?_
   refine Ys ?_
   iterate 2 refine Pv ?_
   refine T_nil (W_cond_not rfl (fun h237 => ?_) (fun h237 => ?_))
   ·refine Wr (T_buildS (cells := (qz32 : Value).cells) rfl rfl rfl rfl rfl rfl rfl rfl rfl rfl (Ah (hl := by exact qV_sz (q_len lr32 lr32 rfl)) (hl2 := by exact qV_sz (q_len lr32 lr32 rfl)) (h1 := by exact qV_one) 1 S221 fun w238 S239 => ?_))
    refine Pv (T_nil (W_ret ?_))
    refine ⟨_, ⟨_, _, _, rfl, rfl, run_loadVarA rfl rfl (qV_sz (q_len lr32 lr32 rfl)) (S239.cells 1 rfl), ⟨_, _, rfl, rfl, rfl⟩⟩, ?_⟩
    have HNO : ¬ UebOk b := by
     intro hq
     obtain ⟨q0, q1, q2, q3, q4, q5, q6, q7, q8, q9, q10, q11, q12⟩ := hq
     obtain ⟨e0, e1, e2, e3, e4, e5⟩ := six_len q1 q2 q3 q4 q5 q6
     first | exact h237 q0 | omega | exact h237 (numU q1 q2 q3 q4) | exact h237 (packU_six q0 q1 q2 q3 q4)
    exact ⟨u_no HNO, S239.below⟩
   refine W_skip (Wr (Ak (hl := by exact qV_sz (q_len HL4 HL5 rfl)) 0 S221 ?_))
   refine Ah (hl := by exact qV_sz (q_len HL4 HL5 rfl)) (hl2 := by exact qV_sz (q_len HL4 HL5 rfl)) (h1 := by exact qV_one) 1 S221 fun w240 S241 => ?_
   refine Pv (T_nil (W_ret ?_))
   refine ⟨_, ⟨_, _, _, rfl, rfl, run_loadVarA rfl rfl (qV_sz (q_len HL4 HL5 rfl)) (S241.cells 1 rfl), ⟨_, _, rfl, rfl, rfl⟩⟩, ?_⟩
   exact ⟨u_yes ⟨HA, HQ0, HQ1, HQ2, HQ3, HL4, HL5, by omega, by omega, by omega, by omega, by omega, by omega⟩, S241.below⟩
  refine Ad (hC := fun _ h => ((Hp.le.refl _)).trans h) S175 fun b242 w243 S244 => ?_
  refine Nt rfl (Cs g_aumbry_aumbryref13_hash ((hash_ok S244.le r170 (by omega)).mono ?_))
  rintro e w246 ⟨rfl, hB245⟩
  have S247 := S244.call hB245
  refine ⟨_, rfl, (((Hp.le.refl _)).trans S247.le), ?_⟩
  refine T_re (v' := hV (Go.Au.six b 5)) rfl (Nt rfl (T_buildS (cells := (qV ((Go.Au.be (Go.Au.six b 0) : Nat) : Int) ((Go.Au.be (Go.Au.six b 1) : Nat) : Int) 0 0 (Go.Au.six b 4) (Go.Au.six b 5) : Value).cells) rfl rfl rfl rfl rfl rfl (fill_q32r HL4 HL5) rfl rfl rfl (Nt rfl (Ah (hC := fun _ h => ((Hp.le.refl _)).trans h) (hl := by exact qV_sz (q_len HL4 HL5 rfl)) (hl2 := by exact qV_sz (q_len HL4 HL5 rfl)) (h1 := by exact qV_one) 0 S247 fun w248 S249 => (T_nil (TT_done (Wr ?_)))))))
  refine Pv ?_
  obtain ⟨hs253, r254, r255⟩ := (id r6)
  refine Ag 2 r254 fun b250 o251 hc252 => ?_
  obtain ⟨a258, c259, hc261, hv257, r260⟩ := r255.at 2 (by omega)
  have hc262 := hc252 0 (.slice a258 ((ntAll 6 b).getD 2 []).length c259) (by simpa using hv257)
  simp only [Nat.add_zero] at hc262
  refine Ac S249 hc262 ?_
  refine Cs g_aumbry_aumbryref01_Get ((getR_ok S249.le r260 (by omega)).mono ?_)
  rintro e w264 ⟨rfl, hB263⟩
  have S265 := S249.call hB263
  refine ⟨_, rfl, trivial, ?_⟩
  iterate 2 refine Pv ?_
  refine T_re (v' := .int .i64 ((Go.Au.be (Go.Au.six b 2) : Nat) : Int)) (congrArg (fun q : Nat => Value.int .i64 (q : Int)) (getV_yes (by omega))) ?_
  refine Pv ?_
  refine Fl 2 ?_
  refine T_store1S 0 2 S265 (fun _ _ => trivial) rfl rfl rfl rfl rfl rfl rfl rfl rfl rfl rfl rfl (Nat.lt_of_lt_of_eq (show 2 < 68 by decide) (show (qV ((Go.Au.be (Go.Au.six b 0) : Nat) : Int) ((Go.Au.be (Go.Au.six b 1) : Nat) : Int) 0 0 (Go.Au.six b 4) (Go.Au.six b 5) : Value).cells.size = 68 from qV_sz (q_len HL4 HL5 rfl)).symm) fun w266 S267 => ?_
  have S268 := S267.re 0 rfl (show (qV ((Go.Au.be (Go.Au.six b 0) : Nat) : Int) ((Go.Au.be (Go.Au.six b 1) : Nat) : Int) 0 0 (Go.Au.six b 4) (Go.Au.six b 5) : Value).cells.setIfInBounds 2 (.int .i64 ((Go.Au.be (Go.Au.six b 2) : Nat) : Int)) = (qV ((Go.Au.be (Go.Au.six b 0) : Nat) : Int) ((Go.Au.be (Go.Au.six b 1) : Nat) : Int) ((Go.Au.be (Go.Au.six b 2) : Nat) : Int) 0 (Go.Au.six b 4) (Go.Au.six b 5) : Value).cells from qV_set2 _)
  refine Nr (Pv ?_)
  obtain ⟨hs272, r273, r274⟩ := (id r6)
  refine Ag 3 r273 fun b269 o270 hc271 => ?_
  obtain ⟨a277, c278, hc280, hv276, r279⟩ := r274.at 3 (by omega)
  have hc281 := hc271 0 (.slice a277 ((ntAll 6 b).getD 3 []).length c278) (by simpa using hv276)
  simp only [Nat.add_zero] at hc281
  refine Ac S268 hc281 ?_
  refine Cs g_aumbry_aumbryref01_Get ((getR_ok S268.le r279 (by omega)).mono ?_)
  rintro e w283 ⟨rfl, hB282⟩
  have S284 := S268.call hB282
  refine ⟨_, rfl, trivial, ?_⟩
  iterate 2 refine Pv ?_
  refine T_re (v' := .int .i64 ((Go.Au.be (Go.Au.six b 3) : Nat) : Int)) (congrArg (fun q : Nat => Value.int .i64 (q : Int)) (getV_yes (by omega))) ?_
  refine Pv ?_
  refine Fl 3 ?_
  refine T_store1S 0 3 S284 (fun _ _ => trivial) rfl rfl rfl rfl rfl rfl rfl rfl rfl rfl rfl rfl (Nat.lt_of_lt_of_eq (show 3 < 68 by decide) (show (qV ((Go.Au.be (Go.Au.six b 0) : Nat) : Int) ((Go.Au.be (Go.Au.six b 1) : Nat) : Int) ((Go.Au.be (Go.Au.six b 2) : Nat) : Int) 0 (Go.Au.six b 4) (Go.Au.six b 5) : Value).cells.size = 68 from qV_sz (q_len HL4 HL5 rfl)).symm) fun w285 S286 => ?_
  have S287 := S286.re 0 rfl (show (qV ((Go.Au.be (Go.Au.six b 0) : Nat) : Int) ((Go.Au.be (Go.Au.six b 1) : Nat) : Int) ((Go.Au.be (Go.Au.six b 2) : Nat) : Int) 0 (Go.Au.six b 4) (Go.Au.six b 5) : Value).cells.setIfInBounds 3 (.int .i64 ((Go.Au.be (Go.Au.six b 3) : Nat) : Int)) = (qV ((Go.Au.be (Go.Au.six b 0) : Nat) : Int) ((Go.Au.be (Go.Au.six b 1) : Nat) : Int) ((Go.Au.be (Go.Au.six b 2) : Nat) : Int) ((Go.Au.be (Go.Au.six b 3) : Nat) : Int) (Go.Au.six b 4) (Go.Au.six b 5) : Value).cells from qV_set3 _)
  refine T_nil (W_seq (Wr (Fl 0 ?_)))
  refine Am 0 0 S287 qV_0 ?_
  iterate 2 refine Pv ?_
  refine Tp 97 (fun h288' => ?_) (fun h288' => ?_)
  ·have h288 := of_decide_eq_true h288'
   iterate 5 refine No ?_
   iterate 4 (refine Pv ?_; refine Pv ?_; refine No ?_; refine No ?_; refine No ?_)
   refine Pv (T_nil ?_)
   refine W_cond_true rfl (Wr (T_buildS (cells := (qz32 : Value).cells) rfl rfl rfl rfl rfl rfl rfl rfl rfl rfl (Ah (hl := by exact qV_sz (q_len lr32 lr32 rfl)) (hl2 := by exact qV_sz (q_len lr32 lr32 rfl)) (h1 := by exact qV_one) 1 S287 fun w289 S290 => ?_)))
   refine Pv (T_nil (W_ret ?_))
   refine ⟨_, ⟨_, _, _, rfl, rfl, run_loadVarA rfl rfl (qV_sz (q_len lr32 lr32 rfl)) (S290.cells 1 rfl), ⟨_, _, rfl, rfl, rfl⟩⟩, ?_⟩
   have HNO : ¬ UebOk b := by
    intro hq
    obtain ⟨q0, q1, q2, q3, q4, q5, q6, q7, q8, q9, q10, q11, q12⟩ := hq
    obtain ⟨e0, e1, e2, e3, e4, e5⟩ := six_len q1 q2 q3 q4 q5 q6
    first | exact h288 q0 | omega | exact h288 (numU q1 q2 q3 q4) | exact h288 (packU_six q0 q1 q2 q3 q4)
   exact ⟨u_no HNO, S290.below⟩
  have h288 := of_decide_eq_false h288'
  refine Ys ?_
  refine Fl 0 ?_
  refine Ys ?_
  refine Am 0 0 S287 qV_0 ?_
  refine Ys ?_
  refine Fl 1 ?_
  refine Ys ?_
  refine Am 0 1 S287 qV_1 ?_
  refine Ys ?_
  iterate 3 refine Pv ?_
  refine Tp 104 (fun h291' => ?_) (fun h291' => ?_)
  ·have h291 := of_decide_eq_true h291'
   iterate 3 (refine No ?_; refine No ?_; refine No ?_; refine Pv ?_; refine Pv ?_)
   iterate 3 refine No ?_
   refine Pv (T_nil ?_)
   refine W_cond_true rfl (Wr (T_buildS (cells := (qz32 : Value).cells) rfl rfl rfl rfl rfl rfl rfl rfl rfl rfl (Ah (hl := by exact qV_sz (q_len lr32 lr32 rfl)) (hl2 := by exact qV_sz (q_len lr32 lr32 rfl)) (h1 := by exact qV_one) 1 S287 fun w292 S293 => ?_)))
   refine Pv (T_nil (W_ret ?_))
   refine ⟨_, ⟨_, _, _, rfl, rfl, run_loadVarA rfl rfl (qV_sz (q_len lr32 lr32 rfl)) (S293.cells 1 rfl), ⟨_, _, rfl, rfl, rfl⟩⟩, ?_⟩
   have HNO : ¬ UebOk b := by
    intro hq
    obtain ⟨q0, q1, q2, q3, q4, q5, q6, q7, q8, q9, q10, q11, q12⟩ := hq
    obtain ⟨e0, e1, e2, e3, e4, e5⟩ := six_len q1 q2 q3 q4 q5 q6
    first | exact h291 q0 | omega | exact h291 (numU q1 q2 q3 q4) | exact h291 (packU_six q0 q1 q2 q3 q4)
   exact ⟨u_no HNO, S293.below⟩
  have h291 := of_decide_eq_false h291'
  refine Ys ?_
  refine Fl 1 ?_
  refine Ys ?_
  refine Am 0 1 S287 qV_1 ?_
  refine Ys ?_
  iterate 3 refine Pv ?_
  refine Tp 109 (fun h294' => ?_) (fun h294' => ?_)
  ·have h294 := of_decide_eq_true h294'
   iterate 2 (refine No ?_; refine No ?_; refine No ?_; refine Pv ?_; refine Pv ?_)
   iterate 3 refine No ?_
   refine Pv (T_nil ?_)
   refine W_cond_true rfl (Wr (T_buildS (cells := (qz32 : Value).cells) rfl rfl rfl rfl rfl rfl rfl rfl rfl rfl (Ah (hl := by exact qV_sz (q_len lr32 lr32 rfl)) (hl2 := by exact qV_sz (q_len lr32 lr32 rfl)) (h1 := by exact qV_one) 1 S287 fun w295 S296 => ?_)))
   refine Pv (T_nil (W_ret ?_))
   refine ⟨_, ⟨_, _, _, rfl, rfl, run_loadVarA rfl rfl (qV_sz (q_len lr32 lr32 rfl)) (S296.cells 1 rfl), ⟨_, _, rfl, rfl, rfl⟩⟩, ?_⟩
   have HNO : ¬ UebOk b := by
    intro hq
    obtain ⟨q0, q1, q2, q3, q4, q5, q6, q7, q8, q9, q10, q11, q12⟩ := hq
    obtain ⟨e0, e1, e2, e3, e4, e5⟩ := six_len q1 q2 q3 q4 q5 q6
    first | exact h294 q0 | omega | exact h294 (numU q1 q2 q3 q4) | exact h294 (packU_six q0 q1 q2 q3 q4)
   exact ⟨u_no HNO, S296.below⟩
  have h294 := of_decide_eq_false h294'
  refine Ys ?_
  refine Fl 2 ?_
  refine Ys ?_
  refine Am 0 2 S287 qV_2 ?_
  refine Ys ?_
  iterate 3 refine Pv ?_
  refine Tp 114 (fun h297' => ?_) (fun h297' => ?_)
  ·have h297 := of_decide_eq_true h297'
   iterate 3 refine No ?_
   iterate 2 refine Pv ?_
   iterate 3 refine No ?_
   refine Pv (T_nil ?_)
   refine W_cond_true rfl (Wr (T_buildS (cells := (qz32 : Value).cells) rfl rfl rfl rfl rfl rfl rfl rfl rfl rfl (Ah (hl := by exact qV_sz (q_len lr32 lr32 rfl)) (hl2 := by exact qV_sz (q_len lr32 lr32 rfl)) (h1 := by exact qV_one) 1 S287 fun w298 S299 => ?_)))
   refine Pv (T_nil (W_ret ?_))
   refine ⟨_, ⟨_, _, _, rfl, rfl, run_loadVarA rfl rfl (qV_sz (q_len lr32 lr32 rfl)) (S299.cells 1 rfl), ⟨_, _, rfl, rfl, rfl⟩⟩, ?_⟩
   have HNO : ¬ UebOk b := by
    intro hq
    obtain ⟨q0, q1, q2, q3, q4, q5, q6, q7, q8, q9, q10, q11, q12⟩ := hq
    obtain ⟨e0, e1, e2, e3, e4, e5⟩ := six_len q1 q2 q3 q4 q5 q6
    first | exact h297 q0 | omega | exact h297 (numU q1 q2 q3 q4) | exact h297 (packU_six q0 q1 q2 q3 q4)
   exact ⟨u_no HNO, S299.below⟩
  have h297 := of_decide_eq_false h297'
  refine Ys ?_
  refine Fl 2 ?_
  refine Ys ?_
  refine Am 0 2 S287 qV_2 ?_
  refine Ys ?_
  iterate 3 refine Pv ?_
  refine Tp 119 (fun h300' => ?_) (fun h300' => ?_)
  ·have h300 := of_decide_eq_true h300'
   iterate 3 refine No ?_
   refine Pv (T_nil ?_)
   refine W_cond_true rfl (Wr (T_buildS (cells := (qz32 : Value).cells) rfl rfl rfl rfl rfl rfl rfl rfl rfl rfl (Ah (hl := by exact qV_sz (q_len lr32 lr32 rfl)) (hl2 := by exact qV_sz (q_len lr32 lr32 rfl)) (h1 := by exact qV_one) 1 S287 fun w301 S302 => ?_)))
   refine Pv (T_nil (W_ret ?_))
   refine ⟨_, ⟨_, _, _, rfl, rfl, run_loadVarA rfl rfl (qV_sz (q_len lr32 lr32 rfl)) (S302.cells 1 rfl), ⟨_, _, rfl, rfl, rfl⟩⟩, ?_⟩
   have HNO : ¬ UebOk b := by
    intro hq
    obtain ⟨q0, q1, q2, q3, q4, q5, q6, q7, q8, q9, q10, q11, q12⟩ := hq
    obtain ⟨e0, e1, e2, e3, e4, e5⟩ := six_len q1 q2 q3 q4 q5 q6
    first | exact h300 q0 | omega | exact h300 (numU q1 q2 q3 q4) | exact h300 (packU_six q0 q1 q2 q3 q4)
   exact ⟨u_no HNO, S302.below⟩
  have h300 := of_decide_eq_false h300'
  refine Ys ?_
  refine Fl 3 ?_
  refine Ys ?_
  refine Am 0 3 S287 qV_3 ?_
  refine Ys ?_
  iterate 2 refine Pv ?_
  refine T_nil (W_cond_not rfl (fun h303 => ?_) (fun h303 => ?_))
  ·refine Wr (T_buildS (cells := (qz32 : Value).cells) rfl rfl rfl rfl rfl rfl rfl rfl rfl rfl (Ah (hl := by exact qV_sz (q_len lr32 lr32 rfl)) (hl2 := by exact qV_sz (q_len lr32 lr32 rfl)) (h1 := by exact qV_one) 1 S287 fun w304 S305 => ?_))
   refine Pv (T_nil (W_ret ?_))
   refine ⟨_, ⟨_, _, _, rfl, rfl, run_loadVarA rfl rfl (qV_sz (q_len lr32 lr32 rfl)) (S305.cells 1 rfl), ⟨_, _, rfl, rfl, rfl⟩⟩, ?_⟩
   have HNO : ¬ UebOk b := by
    intro hq
    obtain ⟨q0, q1, q2, q3, q4, q5, q6, q7, q8, q9, q10, q11, q12⟩ := hq
    obtain ⟨e0, e1, e2, e3, e4, e5⟩ := six_len q1 q2 q3 q4 q5 q6
    first | exact h303 q0 | omega | exact h303 (numU q1 q2 q3 q4) | exact h303 (packU_six q0 q1 q2 q3 q4)
   exact ⟨u_no HNO, S305.below⟩
  refine W_skip (Wr (Ak (hl := by exact qV_sz (q_len HL4 HL5 rfl)) 0 S287 ?_))
  refine Ah (hl := by exact qV_sz (q_len HL4 HL5 rfl)) (hl2 := by exact qV_sz (q_len HL4 HL5 rfl)) (h1 := by exact qV_one) 1 S287 fun w306 S307 => ?_
  refine Pv (T_nil (W_ret ?_))
  refine ⟨_, ⟨_, _, _, rfl, rfl, run_loadVarA rfl rfl (qV_sz (q_len HL4 HL5 rfl)) (S307.cells 1 rfl), ⟨_, _, rfl, rfl, rfl⟩⟩, ?_⟩
  exact ⟨u_yes ⟨HA, HQ0, HQ1, HQ2, HQ3, HL4, HL5, by omega, by omega, by omega, by omega, by omega, by omega⟩, S307.below⟩
 refine Ad (hC := fun _ h => ((Hp.le.refl _)).trans h) S112 fun b308 w309 S310 => ?_
 refine Nt rfl (Cs g_aumbry_aumbryref13_hash ((hash_ok S310.le r157 (by omega)).mono ?_))
 rintro e w312 ⟨rfl, hB311⟩
 have S313 := S310.call hB311
 refine ⟨_, rfl, (((Hp.le.refl _)).trans S313.le), ?_⟩
 refine T_re (v' := hV (Go.Au.six b 4)) rfl (Nt rfl (Cs g_aumbry_aumbryref13_hash ((hash_ok S313.le r170 (by omega)).mono ?_)))
 rintro e w315 ⟨rfl, hB314⟩
 have S316 := S313.call hB314
 refine ⟨_, rfl, (((Hp.le.refl _)).trans S316.le), ?_⟩
 refine T_re (v' := hV (Go.Au.six b 5)) rfl (Nt rfl (T_buildS (cells := (qV ((Go.Au.be (Go.Au.six b 0) : Nat) : Int) ((Go.Au.be (Go.Au.six b 1) : Nat) : Int) 0 0 (Go.Au.six b 4) (Go.Au.six b 5) : Value).cells) rfl rfl rfl rfl rfl rfl (fill_q32r HL4 HL5) rfl rfl rfl (Nt rfl (Ah (hC := fun _ h => ((Hp.le.refl _)).trans h) (hl := by exact qV_sz (q_len HL4 HL5 rfl)) (hl2 := by exact qV_sz (q_len HL4 HL5 rfl)) (h1 := by exact qV_one) 0 S316 fun w317 S318 => (T_nil (TT_done (Wr ?_)))))))
 refine Pv ?_
 obtain ⟨hs322, r323, r324⟩ := (id r6)
 refine Ag 2 r323 fun b319 o320 hc321 => ?_
 obtain ⟨a327, c328, hc330, hv326, r329⟩ := r324.at 2 (by omega)
 have hc331 := hc321 0 (.slice a327 ((ntAll 6 b).getD 2 []).length c328) (by simpa using hv326)
 simp only [Nat.add_zero] at hc331
 refine Ac S318 hc331 ?_
 refine Cs g_aumbry_aumbryref01_Get ((getR_ok S318.le r329 (by omega)).mono ?_)
 rintro e w333 ⟨rfl, hB332⟩
 have S334 := S318.call hB332
 refine ⟨_, rfl, trivial, ?_⟩
 iterate 2 refine Pv ?_
 refine T_re (v' := .int .i64 ((Go.Au.be (Go.Au.six b 2) : Nat) : Int)) (congrArg (fun q : Nat => Value.int .i64 (q : Int)) (getV_yes (by omega))) ?_
 refine Pv ?_
 refine Fl 2 ?_
 refine T_store1S 0 2 S334 (fun _ _ => trivial) rfl rfl rfl rfl rfl rfl rfl rfl rfl rfl rfl rfl (Nat.lt_of_lt_of_eq (show 2 < 68 by decide) (show (qV ((Go.Au.be (Go.Au.six b 0) : Nat) : Int) ((Go.Au.be (Go.Au.six b 1) : Nat) : Int) 0 0 (Go.Au.six b 4) (Go.Au.six b 5) : Value).cells.size = 68 from qV_sz (q_len HL4 HL5 rfl)).symm) fun w335 S336 => ?_
 have S337 := S336.re 0 rfl (show (qV ((Go.Au.be (Go.Au.six b 0) : Nat) : Int) ((Go.Au.be (Go.Au.six b 1) : Nat) : Int) 0 0 (Go.Au.six b 4) (Go.Au.six b 5) : Value).cells.setIfInBounds 2 (.int .i64 ((Go.Au.be (Go.Au.six b 2) : Nat) : Int)) = (qV ((Go.Au.be (Go.Au.six b 0) : Nat) : Int) ((Go.Au.be (Go.Au.six b 1) : Nat) : Int) ((Go.Au.be (Go.Au.six b 2) : Nat) : Int) 0 (Go.Au.six b 4) (Go.Au.six b 5) : Value).cells from qV_set2 _)
 refine Nr (Pv ?_)
 obtain ⟨hs341, r342, r343⟩ := (id r6)
 refine Ag 3 r342 fun b338 o339 hc340 => ?_
 obtain ⟨a346, c347, hc349, hv345, r348⟩ := r343.at 3 (by omega)
 have hc350 := hc340 0 (.slice a346 ((ntAll 6 b).getD 3 []).length c347) (by simpa using hv345)
 simp only [Nat.add_zero] at hc350
 refine Ac S337 hc350 ?_
 refine Cs g_aumbry_aumbryref01_Get ((getR_ok S337.le r348 (by omega)).mono ?_)
 rintro e w352 ⟨rfl, hB351⟩
 have S353 := S337.call hB351
 refine ⟨_, rfl, trivial, ?_⟩
 iterate 2 refine Pv ?_
 refine T_re (v' := .int .i64 ((Go.Au.be (Go.Au.six b 3) : Nat) : Int)) (congrArg (fun q : Nat => Value.int .i64 (q : Int)) (getV_yes (by omega))) ?_
 refine Pv ?_
 refine Fl 3 ?_
 refine T_store1S 0 3 S353 (fun _ _ => trivial) rfl rfl rfl rfl rfl rfl rfl rfl rfl rfl rfl rfl (Nat.lt_of_lt_of_eq (show 3 < 68 by decide) (show (qV ((Go.Au.be (Go.Au.six b 0) : Nat) : Int) ((Go.Au.be (Go.Au.six b 1) : Nat) : Int) ((Go.Au.be (Go.Au.six b 2) : Nat) : Int) 0 (Go.Au.six b 4) (Go.Au.six b 5) : Value).cells.size = 68 from qV_sz (q_len HL4 HL5 rfl)).symm) fun w354 S355 => ?_
 have S356 := S355.re 0 rfl (show (qV ((Go.Au.be (Go.Au.six b 0) : Nat) : Int) ((Go.Au.be (Go.Au.six b 1) : Nat) : Int) ((Go.Au.be (Go.Au.six b 2) : Nat) : Int) 0 (Go.Au.six b 4) (Go.Au.six b 5) : Value).cells.setIfInBounds 3 (.int .i64 ((Go.Au.be (Go.Au.six b 3) : Nat) : Int)) = (qV ((Go.Au.be (Go.Au.six b 0) : Nat) : Int) ((Go.Au.be (Go.Au.six b 1) : Nat) : Int) ((Go.Au.be (Go.Au.six b 2) : Nat) : Int) ((Go.Au.be (Go.Au.six b 3) : Nat) : Int) (Go.Au.six b 4) (Go.Au.six b 5) : Value).cells from qV_set3 _)
 refine T_nil (W_seq (Wr (Fl 0 ?_)))
 refine Am 0 0 S356 qV_0 ?_
 iterate 2 refine Pv ?_
 refine Tp 97 (fun h357' => ?_) (fun h357' => ?_)
 ·have h357 := of_decide_eq_true h357'
  iterate 5 refine No ?_
  iterate 4 (refine Pv ?_; refine Pv ?_; refine No ?_; refine No ?_; refine No ?_)
  refine Pv (T_nil ?_)
  refine W_cond_true rfl (Wr (T_buildS (cells := (qz32 : Value).cells) rfl rfl rfl rfl rfl rfl rfl rfl rfl rfl (Ah (hl := by exact qV_sz (q_len lr32 lr32 rfl)) (hl2 := by exact qV_sz (q_len lr32 lr32 rfl)) (h1 := by exact qV_one) 1 S356 fun w358 S359 => ?_)))
  refine Pv (T_nil (W_ret ?_))
  refine ⟨_, ⟨_, _, _, rfl, rfl, run_loadVarA rfl rfl (qV_sz (q_len lr32 lr32 rfl)) (S359.cells 1 rfl), ⟨_, _, rfl, rfl, rfl⟩⟩, ?_⟩
  have HNO : ¬ UebOk b := by
   intro hq
   obtain ⟨q0, q1, q2, q3, q4, q5, q6, q7, q8, q9, q10, q11, q12⟩ := hq
   obtain ⟨e0, e1, e2, e3, e4, e5⟩ := six_len q1 q2 q3 q4 q5 q6
   first | exact h357 q0 | omega | exact h357 (numU q1 q2 q3 q4) | exact h357 (packU_six q0 q1 q2 q3 q4)
  exact ⟨u_no HNO, S359.below⟩
 have h357 := of_decide_eq_false h357'
 refine Ys ?_
 refine Fl 0 ?_
 refine Ys ?_
 refine Am 0 0 S356 qV_0 ?_
 refine Ys ?_
 refine Fl 1 ?_
 refine Ys ?_
 refine Am 0 1 S356 qV_1 ?_
 refine Ys ?_
 iterate 3 refine Pv ?_
 refine Tp 104 (fun h360' => ?_) (fun h360' => ?_)
 ·have h360 := of_decide_eq_true h360'
  iterate 3 (refine No ?_; refine No ?_; refine No ?_; refine Pv ?_; refine Pv ?_)
  iterate 3 refine No ?_
  refine Pv (T_nil ?_)
  refine W_cond_true rfl (Wr (T_buildS (cells := (qz32 : Value).cells) rfl rfl rfl rfl rfl rfl rfl rfl rfl rfl (Ah (hl := by exact qV_sz (q_len lr32 lr32 rfl)) (hl2 := by exact qV_sz (q_len lr32 lr32 rfl)) (h1 := by exact qV_one) 1 S356 fun w361 S362 => ?_)))
  refine Pv (T_nil (W_ret ?_))
  refine ⟨_, ⟨_, _, _, rfl, rfl, run_loadVarA rfl rfl (qV_sz (q_len lr32 lr32 rfl)) (S362.cells 1 rfl), ⟨_, _, rfl, rfl, rfl⟩⟩, ?_⟩
  have HNO : ¬ UebOk b := by
   intro hq
   obtain ⟨q0, q1, q2, q3, q4, q5, q6, q7, q8, q9, q10, q11, q12⟩ := hq
   obtain ⟨e0, e1, e2, e3, e4, e5⟩ := six_len q1 q2 q3 q4 q5 q6
   first | exact h360 q0 | omega | exact h360 (numU q1 q2 q3 q4) | exact h360 (packU_six q0 q1 q2 q3 q4)
  exact ⟨u_no HNO, S362.below⟩
 have h360 := of_decide_eq_false h360'
 refine Ys ?_
 refine Fl 1 ?_
 refine Ys ?_
 refine Am 0 1 S356 qV_1 ?_
 refine Ys ?_
 iterate 3 refine Pv ?_
 refine Tp 109 (fun h363' => ?_) (fun h363' => ?_)
 ·have h363 := of_decide_eq_true h363'
  iterate 2 (refine No ?_; refine No ?_; refine No ?_; refine Pv ?_; refine Pv ?_)
  iterate 3 refine No ?_
  refine Pv (T_nil ?_)
  refine W_cond_true rfl (Wr (T_buildS (cells := (qz32 : Value).cells) rfl rfl rfl rfl rfl rfl rfl rfl rfl rfl (Ah (hl := by exact qV_sz (q_len lr32 lr32 rfl)) (hl2 := by exact qV_sz (q_len lr32 lr32 rfl)) (h1 := by exact qV_one) 1 S356 fun w364 S365 => ?_)))
  refine Pv (T_nil (W_ret ?_))
  refine ⟨_, ⟨_, _, _, rfl, rfl, run_loadVarA rfl rfl (qV_sz (q_len lr32 lr32 rfl)) (S365.cells 1 rfl), ⟨_, _, rfl, rfl, rfl⟩⟩, ?_⟩
  have HNO : ¬ UebOk b := by
   intro hq
   obtain ⟨q0, q1, q2, q3, q4, q5, q6, q7, q8, q9, q10, q11, q12⟩ := hq
   obtain ⟨e0, e1, e2, e3, e4, e5⟩ := six_len q1 q2 q3 q4 q5 q6
   first | exact h363 q0 | omega | exact h363 (numU q1 q2 q3 q4) | exact h363 (packU_six q0 q1 q2 q3 q4)
  exact ⟨u_no HNO, S365.below⟩
 have h363 := of_decide_eq_false h363'
 refine Ys ?_
 refine Fl 2 ?_
 refine Ys ?_
 refine Am 0 2 S356 qV_2 ?_
 refine Ys ?_
 iterate 3 refine Pv ?_
 refine Tp 114 (fun h366' => ?_) (fun h366' => ?_)
 ·have h366 := of_decide_eq_true h366'
  iterate 3 refine No ?_
  iterate 2 refine Pv ?_
  iterate 3 refine No ?_
  refine Pv (T_nil ?_)
  refine W_cond_true rfl (Wr (T_buildS (cells := (qz32 : Value).cells) rfl rfl rfl rfl rfl rfl rfl rfl rfl rfl (Ah (hl := by exact qV_sz (q_len lr32 lr32 rfl)) (hl2 := by exact qV_sz (q_len lr32 lr32 rfl)) (h1 := by exact qV_one) 1 S356 fun w367 S368 => ?_)))
  refine Pv (T_nil (W_ret ?_))
  refine ⟨_, ⟨_, _, _, rfl, rfl, run_loadVarA rfl rfl (qV_sz (q_len lr32 lr32 rfl)) (S368.cells 1 rfl), ⟨_, _, rfl, rfl, rfl⟩⟩, ?_⟩
  have HNO : ¬ UebOk b := by
   intro hq
   obtain ⟨q0, q1, q2, q3, q4, q5, q6, q7, q8, q9, q10, q11, q12⟩ := hq
   obtain ⟨e0, e1, e2, e3, e4, e5⟩ := six_len q1 q2 q3 q4 q5 q6
   first | exact h366 q0 | omega | exact h366 (numU q1 q2 q3 q4) | exact h366 (packU_six q0 q1 q2 q3 q4)
  exact ⟨u_no HNO, S368.below⟩
 have h366 := of_decide_eq_false h366'
 refine Ys ?_
 refine Fl 2 ?_
 refine Ys ?_
 refine Am 0 2 S356 qV_2 ?_
 refine Ys ?_
 iterate 3 refine Pv ?_
 refine Tp 119 (fun h369' => ?_) (fun h369' => ?_)
 ·have h369 := of_decide_eq_true h369'
  iterate 3 refine No ?_
  refine Pv (T_nil ?_)
  refine W_cond_true rfl (Wr (T_buildS (cells := (qz32 : Value).cells) rfl rfl rfl rfl rfl rfl rfl rfl rfl rfl (Ah (hl := by exact qV_sz (q_len lr32 lr32 rfl)) (hl2 := by exact qV_sz (q_len lr32 lr32 rfl)) (h1 := by exact qV_one) 1 S356 fun w370 S371 => ?_)))
  refine Pv (T_nil (W_ret ?_))
  refine ⟨_, ⟨_, _, _, rfl, rfl, run_loadVarA rfl rfl (qV_sz (q_len lr32 lr32 rfl)) (S371.cells 1 rfl), ⟨_, _, rfl, rfl, rfl⟩⟩, ?_⟩
  have HNO : ¬ UebOk b := by
   intro hq
   obtain ⟨q0, q1, q2, q3, q4, q5, q6, q7, q8, q9, q10, q11, q12⟩ := hq
   obtain ⟨e0, e1, e2, e3, e4, e5⟩ := six_len q1 q2 q3 q4 q5 q6
   first | exact h369 q0 | omega | exact h369 (numU q1 q2 q3 q4) | exact h369 (packU_six q0 q1 q2 q3 q4)
  exact ⟨u_no HNO, S371.below⟩
 have h369 := of_decide_eq_false h369'
 refine Ys ?_
 refine Fl 3 ?_
 refine Ys ?_
 refine Am 0 3 S356 qV_3 ?_
 refine Ys ?_
 iterate 2 refine Pv ?_
 refine T_nil (W_cond_not rfl (fun h372 => ?_) (fun h372 => ?_))
 ·refine Wr (T_buildS (cells := (qz32 : Value).cells) rfl rfl rfl rfl rfl rfl rfl rfl rfl rfl (Ah (hl := by exact qV_sz (q_len lr32 lr32 rfl)) (hl2 := by exact qV_sz (q_len lr32 lr32 rfl)) (h1 := by exact qV_one) 1 S356 fun w373 S374 => ?_))
  refine Pv (T_nil (W_ret ?_))
  refine ⟨_, ⟨_, _, _, rfl, rfl, run_loadVarA rfl rfl (qV_sz (q_len lr32 lr32 rfl)) (S374.cells 1 rfl), ⟨_, _, rfl, rfl, rfl⟩⟩, ?_⟩
  have HNO : ¬ UebOk b := by
   intro hq
   obtain ⟨q0, q1, q2, q3, q4, q5, q6, q7, q8, q9, q10, q11, q12⟩ := hq
   obtain ⟨e0, e1, e2, e3, e4, e5⟩ := six_len q1 q2 q3 q4 q5 q6
   first | exact h372 q0 | omega | exact h372 (numU q1 q2 q3 q4) | exact h372 (packU_six q0 q1 q2 q3 q4)
  exact ⟨u_no HNO, S374.below⟩
 refine W_skip (Wr (Ak (hl := by exact qV_sz (q_len HL4 HL5 rfl)) 0 S356 ?_))
 refine Ah (hl := by exact qV_sz (q_len HL4 HL5 rfl)) (hl2 := by exact qV_sz (q_len HL4 HL5 rfl)) (h1 := by exact qV_one) 1 S356 fun w375 S376 => ?_
 refine Pv (T_nil (W_ret ?_))
 refine ⟨_, ⟨_, _, _, rfl, rfl, run_loadVarA rfl rfl (qV_sz (q_len HL4 HL5 rfl)) (S376.cells 1 rfl), ⟨_, _, rfl, rfl, rfl⟩⟩, ?_⟩
 exact ⟨u_yes ⟨HA, HQ0, HQ1, HQ2, HQ3, HL4, HL5, by omega, by omega, by omega, by omega, by omega, by omega⟩, S376.below⟩



end Go.Proofs.YtmjmjjkigblbgaaGreatDoor
