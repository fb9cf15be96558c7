/- Layouts and versions as bytes, and back. -/
import Derived.Test.YtmjmjjkigblbgaaDoorLayB
set_option linter.unusedVariables false
set_option linter.unusedSimpArgs false
set_option maxRecDepth 8192
namespace Go.Proofs.YtmjmjjkigblbgaaDoor
open Go Go.F Go.RowKit
open Go.Au
theorem six_len {b : List UInt8} {m0 m1 m2 m3 m4 m5 : Nat} (h0 : (Go.Au.six b 0).length = m0) (h1 : (Go.Au.six b 1).length = m1) (h2 : (Go.Au.six b 2).length = m2) (h3 : (Go.Au.six b 3).length = m3) (h4 : (Go.Au.six b 4).length = m4) (h5 : (Go.Au.six b 5).length = m5) : ((ntAll 6 b).getD 0 []).length = m0 ∧ ((ntAll 6 b).getD 1 []).length = m1 ∧ ((ntAll 6 b).getD 2 []).length = m2 ∧ ((ntAll 6 b).getD 3 []).length = m3 ∧ ((ntAll 6 b).getD 4 []).length = m4 ∧ ((ntAll 6 b).getD 5 []).length = m5 := ⟨h0, h1, h2, h3, h4, h5⟩

theorem ueb_text {b : List UInt8} (hb : b.length ≤ 1000) : (Go.Au.text [117, 101, 98] [b]).length < 10000 := by
 have h1 := net_le (b := [117, 101, 98]) (by decide)
 have h2 := net_le (b := b) (by omega)
 show (net [117, 101, 98] ++ nets [b]).length < _
 rw [List.length_append, nets_cons, List.length_append, nets_nil]
 simp only [List.length_nil, List.length_cons] at *
 omega
theorem u_no {b : List UInt8} (h : ¬ UebOk b) : Ending.returned (.tuple #[qV 0 0 0 0 (List.replicate 32 0) (List.replicate 32 0), .bool false]) = .returned (.tuple #[qV (uN b 0) (uN b 1) (uN b 2) (uN b 3) (uH b 4) (uH b 5), .bool (decide (UebOk b))]) := by
 rw [decide_eq_false h, uN_no h, uN_no h, uN_no h, uN_no h, uH_no h, uH_no h]
theorem u_yes {b : List UInt8} (h : UebOk b) : Ending.returned (.tuple #[qV ((Go.Au.be (Go.Au.six b 0) : Nat) : Int) ((Go.Au.be (Go.Au.six b 1) : Nat) : Int) ((Go.Au.be (Go.Au.six b 2) : Nat) : Int) ((Go.Au.be (Go.Au.six b 3) : Nat) : Int) (Go.Au.six b 4) (Go.Au.six b 5), .bool true]) = .returned (.tuple #[qV (uN b 0) (uN b 1) (uN b 2) (uN b 3) (uH b 4) (uH b 5), .bool (decide (UebOk b))]) := by
 rw [decide_eq_true h, uN_yes h, uN_yes h, uN_yes h, uN_yes h, uH_yes h, uH_yes h]
theorem num4 {L : List (List UInt8)} {w0 w1 w2 w3 : Nat} (h0 : (L.getD 0 []).length = w0) (h1 : (L.getD 1 []).length = w1) (h2 : (L.getD 2 []).length = w2) (h3 : (L.getD 3 []).length = w3) : numOk L [(w0 : Int), (w1 : Int), (w2 : Int), (w3 : Int)] 4 := by
 intro i hi
 match i, hi with
 | 0, _ => exact congrArg Int.ofNat h0
 | 1, _ => exact congrArg Int.ofNat h1
 | 2, _ => exact congrArg Int.ofNat h2
 | 3, _ => exact congrArg Int.ofNat h3
theorem numU {b : List UInt8} (h0 : (Go.Au.six b 0).length = 1) (h1 : (Go.Au.six b 1).length = 1) (h2 : (Go.Au.six b 2).length = 4) (h3 : (Go.Au.six b 3).length = 4) : numOk (ntAll 6 b) [(1 : Int), (1 : Int), (4 : Int), (4 : Int)] [(1 : Int), (1 : Int), (4 : Int), (4 : Int)].length := num4 h0 h1 h2 h3
theorem w7u : ∀ i, ([(1 : Int), (1 : Int), (4 : Int), (4 : Int)] : List Int).getD i 0 ≤ 7 := by
 intro i
 match i with
 | 0 => decide
 | 1 => decide
 | 2 => decide
 | 3 => decide
 | i + 4 => simp
theorem bytesEqual_ok {H : Hp} {w : World} (hH : H.le (hw w)) {b : List UInt8} {aa0 : Option Addr} {nn0 cc0 : Nat} (hv : Rd H (.slice aa0 nn0 cc0) nn0 1 (b.map bV)) {c : List UInt8} {aa1 : Option Addr} {nn1 cc1 : Nat} (hu : Rd H (.slice aa1 nn1 cc1) nn1 1 (c.map bV)) :
  Calls Tryd.prog 43 #[.slice aa0 nn0 cc0, .slice aa1 nn1 cc1] w fun e w' => e = .returned (.bool (decide (b = c))) ∧ Below w.heap.size w w' := by
 obtain rfl : nn0 = b.length := hv.lenB
 have hvcap : b.length ≤ cc0 := hv.capOf
 obtain rfl : nn1 = c.length := hu.lenB
 have hucap : c.length ≤ cc1 := hu.capOf
 refine enter2 _ Tryd.func43 rfl Tryd.ntmps43 Tryd.results43 rfl ?_
 have S0 := St.start w hH
 refine Wr (Pv (Nr ?_))
 refine Pv ?_
 refine T_convG S0 hv rfl rfl rfl rfl rfl rfl rfl rfl rfl (Pv ?_)
 refine T_convG S0 hu rfl rfl rfl rfl rfl rfl rfl rfl rfl (T_streq rfl rfl rfl rfl rfl rfl (Pv (T_nil (W_ret ?_))))
 refine ⟨_, ⟨_, _, rfl, rfl, rfl⟩, ?_⟩
 exact ⟨rfl, S0.below⟩


theorem print_ok {H : Hp} {w : World} (hH : H.le (hw w)) (hT : Tabs H) {b : List UInt8} {aa0 : Option Addr} {nn0 cc0 : Nat} (hv : Rd H (.slice aa0 nn0 cc0) nn0 1 (b.map bV)) (hb : b.length ≤ 1000) :
  Calls Tryd.prog 15 #[.slice aa0 nn0 cc0] w fun e w' => e = .returned (hV (tagged [117, 101, 98] [b])) ∧ Below w.heap.size w w' := by
 obtain rfl : nn0 = b.length := hv.lenB
 have hvcap : b.length ≤ cc0 := hv.capOf
 have htx := ueb_text hb
 refine enter1 _ Tryd.func15 rfl Tryd.ntmps15 Tryd.results15 rfl ?_
 have S0 := St.start w hH
 refine Wr (Ae S0 fun b1 w2 S3 => (Nr ?_))
 refine Pv ?_
 have rs8 : Rds H [.slice aa0 b.length cc0] [b] := Rds.cons (Rd.canonB hv) (Rds.nil _)
 refine Af (hone := by simp [Value.cells]; rfl) [.slice aa0 b.length cc0] fun a4 w5 hB6 ho7 => ?_
 have S9 := S3.own hB6 ho7
 refine ⟨trivial, ?_⟩
 obtain ⟨G11, hl12, S10, r13⟩ := S9.stillRow 0 rfl
 have r14 := RdL.mk r13 (rs8.mono hl12)
 refine Cs g_aumbry_sha_Tagged ((tagged_ok S10.le (hT.mono hl12) r14 (by omega)).mono ?_)
 rintro e w16 ⟨rfl, hB15⟩
 have S17 := S10.call hB15
 refine ⟨_, rfl, trivial, ?_⟩
 refine T_storeFS 0 S17 (fun _ _ => trivial) rfl rfl rfl rfl rfl rfl rfl rfl rfl (hVs (tagged_len _ _)) (hVs (tagged_len _ _)) (one_hA _) fun w18 S19 => (T_nil (W_ret ?_))
 refine ⟨_, ⟨_, _, _, rfl, rfl, run_loadVarA rfl rfl (hVs (tagged_len _ _)) (S19.cells 0 rfl), rfl⟩, ?_⟩
 exact ⟨rfl, S19.below⟩


theorem printR_ok {H : Hp} {w : World} (hH : H.le (hw w)) {b : List UInt8} {aa0 : Option Addr} {nn0 cc0 : Nat} (hv : Rd H (.slice aa0 nn0 cc0) nn0 1 (b.map bV)) (hb : b.length ≤ 1000) :
  Calls Tryd.prog 16 #[.slice aa0 nn0 cc0] w fun e w' => e = .returned (hV (tagged [117, 101, 98] [b])) ∧ Below w.heap.size w w' := by
 obtain rfl : nn0 = b.length := hv.lenB
 have hvcap : b.length ≤ cc0 := hv.capOf
 have htx := ueb_text hb
 refine enter1 _ Tryd.func16 rfl Tryd.ntmps16 Tryd.results16 rfl ?_
 have S0 := St.start w hH
 refine Wr (Ae S0 fun b1 w2 S3 => (Nr ?_))
 refine Pv ?_
 have rs8 : Rds H [.slice aa0 b.length cc0] [b] := Rds.cons (Rd.canonB hv) (Rds.nil _)
 refine Af (hone := by simp [Value.cells]; rfl) [.slice aa0 b.length cc0] fun a4 w5 hB6 ho7 => ?_
 have S9 := S3.own hB6 ho7
 refine ⟨trivial, ?_⟩
 obtain ⟨G11, hl12, S10, r13⟩ := S9.stillRow 0 rfl
 have r14 := RdL.mk r13 (rs8.mono hl12)
 refine Cs g_aumbry_aumbryref01_Tagged ((taggedR_ok S10.le r14 (by omega)).mono ?_)
 rintro e w16 ⟨rfl, hB15⟩
 have S17 := S10.call hB15
 refine ⟨_, rfl, trivial, ?_⟩
 refine T_storeFS 0 S17 (fun _ _ => trivial) rfl rfl rfl rfl rfl rfl rfl rfl rfl (hVs (tagged_len _ _)) (hVs (tagged_len _ _)) (one_hA _) fun w18 S19 => (T_nil (W_ret ?_))
 refine ⟨_, ⟨_, _, _, rfl, rfl, run_loadVarA rfl rfl (hVs (tagged_len _ _)) (S19.cells 0 rfl), rfl⟩, ?_⟩
 exact ⟨rfl, S19.below⟩


theorem packU_ok {H : Hp} {w : World} (hH : H.le (hw w)) (hT : Tabs H) (p q r u : Int) {s t : List UInt8} (hs : s.length = 32) (ht : t.length = 32) (ha : p ≤ 9223372036854775807) (hb : q ≤ 9223372036854775807) (hc : r ≤ 9223372036854775807) (hd : u ≤ 9223372036854775807) :
  Calls Tryd.prog 12 #[qV p q r u s t] w fun e w' => ∃ a c, (packU p q r u s t).length ≤ c ∧ e = .returned (.slice a (packU p q r u s t).length c) ∧ rowZ w' w.heap.size 5 1 (.slice a (packU p q r u s t).length c) (packU p q r u s t).length ((packU p q r u s t).map bV) ∧ Below w.heap.size w w' := by
 have hlen := packU_len p q r u (s := s) (t := t) (by omega) (by omega)
 unfold packU at hlen
 refine enter1 _ Tryd.func12 rfl Tryd.ntmps12 Tryd.results12 rfl ?_
 have S0 := St.start w hH
 refine Wr (T_boxS S0 (fun _ _ => trivial) rfl rfl rfl rfl rfl rfl fun b1 w2 S3 => (Pv (T_nil (W_seq ?_))))
 obtain ⟨G5, hl6, S4, r7⟩ := S3.stillBlk 0 rfl
 refine W_plan (planF Tryd.prog G5 [7, 10, 13]) rfl (by kernel_rfl) S4.le ?_
 have S8 := S4.drew
 refine Fl 0 ?_
 refine Ac S8 (still_cell r7 qV_0) ?_
 refine Cs g_aumbry_code_Put ((putN_ok S8.le p 1 (by omega) (by omega)).mono ?_)
 rintro e w14 ⟨a9, c10, hc11, rfl, ho12, hB13⟩
 have S15 := S8.own hB13 ho12
 refine ⟨_, rfl, (((Hp.le.refl _)).trans S15.le), ?_⟩
 refine Fl 1 ?_
 refine Aj (still_cell r7 qV_1) ?_
 refine Cs g_aumbry_code_Put ((putN_ok S15.le q 1 (by omega) (by omega)).mono ?_)
 rintro e w21 ⟨a16, c17, hc18, rfl, ho19, hB20⟩
 have S22 := S15.own hB20 ho19
 refine ⟨_, rfl, (((Hp.le.refl _)).trans S22.le), ?_⟩
 refine Fl 2 ?_
 refine Aj (still_cell r7 qV_2) ?_
 refine Cs g_aumbry_code_Put ((putN_ok S22.le r 4 (by omega) (by omega)).mono ?_)
 rintro e w28 ⟨a23, c24, hc25, rfl, ho26, hB27⟩
 have S29 := S22.own hB27 ho26
 refine ⟨_, rfl, (((Hp.le.refl _)).trans S29.le), ?_⟩
 refine Fl 3 ?_
 refine Aj (still_cell r7 qV_3) ?_
 refine Cs g_aumbry_code_Put ((putN_ok S29.le u 4 (by omega) (by omega)).mono ?_)
 rintro e w35 ⟨a30, c31, hc32, rfl, ho33, hB34⟩
 have S36 := S29.own hB34 ho33
 refine ⟨_, rfl, (((Hp.le.refl _)).trans S36.le), ?_⟩
 refine Fl 4 ?_
 refine T_sliceAll rfl rfl rfl rfl rfl rfl rfl rfl ?_
 have r37 := Rd.of_blk_at (off := 4) (m := 32) (c0 := 32) (size := 1) (xs := s.map bV) r7 (by rw [List.length_map, hs]) (Nat.le_refl _) (fun j u hu => qV_s j u (by simpa using hu))
 refine Fl 36 ?_
 refine T_sliceAll rfl rfl rfl rfl rfl rfl rfl rfl ?_
 have r38 := Rd.of_blk_at (off := 36) (m := 32) (c0 := 32) (size := 1) (xs := t.map bV) r7 (by rw [List.length_map, ht]) (Nat.le_refl _) (fun j u hu => (qV_t (by rw [hs])) j u (by simpa using hu))
 obtain ⟨G44, hl45, S43, r46⟩ := S36.stillRow 3 rfl
 obtain ⟨G48, hl49, S47, r50⟩ := S43.stillRow 2 rfl
 obtain ⟨G52, hl53, S51, r54⟩ := S47.stillRow 1 rfl
 obtain ⟨G56, hl57, S55, r58⟩ := S51.stillRow 0 rfl
 have rs59 : Rds G56 [.slice a9 ((Go.Sha.put (max 0 p).toNat 1).length) c10, .slice a16 ((Go.Sha.put (max 0 q).toNat 1).length) c17, .slice a23 ((Go.Sha.put (max 0 r).toNat 4).length) c24, .slice a30 ((Go.Sha.put (max 0 u).toNat 4).length) c31, .slice (some ⟨b1, 4, none⟩) 32 32, .slice (some ⟨b1, 36, none⟩) 32 32] [Go.Sha.put (max 0 p).toNat 1, Go.Sha.put (max 0 q).toNat 1, Go.Sha.put (max 0 r).toNat 4, Go.Sha.put (max 0 u).toNat 4, s, t] := Rds.cons (Rd.canonB (r46.mono (hl49.trans (hl53.trans hl57)))) (Rds.cons (Rd.canonB (r50.mono (hl53.trans hl57))) (Rds.cons (Rd.canonB (r54.mono hl57)) (Rds.cons (Rd.canonB r58) (Rds.cons (Rd.canonB (r37.mono (hl45.trans (hl49.trans (hl53.trans hl57))))) (Rds.cons (Rd.canonB (r38.mono (hl45.trans (hl49.trans (hl53.trans hl57))))) (Rds.nil _))))))
 refine Af (hone := by simp [Value.cells]; rfl) [.slice a9 ((Go.Sha.put (max 0 p).toNat 1).length) c10, .slice a16 ((Go.Sha.put (max 0 q).toNat 1).length) c17, .slice a23 ((Go.Sha.put (max 0 r).toNat 4).length) c24, .slice a30 ((Go.Sha.put (max 0 u).toNat 4).length) c31, .slice (some ⟨b1, 4, none⟩) 32 32, .slice (some ⟨b1, 36, none⟩) 32 32] fun a39 w40 hB41 ho42 => ?_
 have S60 := S55.own hB41 ho42
 refine ⟨(((hl45.trans (hl49.trans (hl53.trans hl57)))).trans S60.le), ?_⟩
 obtain ⟨G62, hl63, S61, r64⟩ := S60.stillRow 0 rfl
 have r65 := RdL.mk r64 (rs59.mono hl63)
 refine Cs g_aumbry_code_Nets ((nets_ok S61.le (hT.mono (hl6.trans (hl45.trans (hl49.trans (hl53.trans (hl57.trans hl63)))))) r65 (by omega)).mono ?_)
 rintro e w71 ⟨a66, c67, hc68, rfl, ho69, hB70⟩
 have S72 := S61.own hB70 ho69
 refine ⟨_, rfl, (((hl45.trans (hl49.trans (hl53.trans (hl57.trans hl63))))).trans S72.le), ?_⟩
 refine Pv (T_nil (W_ret ?_))
 refine ⟨_, ⟨_, _, rfl, rfl, rfl⟩, ?_⟩
 exact ⟨_, _, hc68, rfl, S72.row 0 rfl, S72.below⟩


theorem packUR_ok {H : Hp} {w : World} (hH : H.le (hw w)) (p q r u : Int) {s t : List UInt8} (hs : s.length = 32) (ht : t.length = 32) (ha : p ≤ 9223372036854775807) (hb : q ≤ 9223372036854775807) (hc : r ≤ 9223372036854775807) (hd : u ≤ 9223372036854775807) :
  Calls Tryd.prog 14 #[qV p q r u s t] w fun e w' => ∃ a c, (packU p q r u s t).length ≤ c ∧ e = .returned (.slice a (packU p q r u s t).length c) ∧ rowZ w' w.heap.size 5 1 (.slice a (packU p q r u s t).length c) (packU p q r u s t).length ((packU p q r u s t).map bV) ∧ Below w.heap.size w w' := by
 have hlen := packU_len p q r u (s := s) (t := t) (by omega) (by omega)
 unfold packU at hlen
 refine enter1 _ Tryd.func14 rfl Tryd.ntmps14 Tryd.results14 rfl ?_
 have S0 := St.start w hH
 refine Wr (T_boxS S0 (fun _ _ => trivial) rfl rfl rfl rfl rfl rfl fun b1 w2 S3 => (Pv (T_nil (W_seq ?_))))
 obtain ⟨G5, hl6, S4, r7⟩ := S3.stillBlk 0 rfl
 refine W_plan (planF Tryd.prog G5 [7, 10, 13]) rfl (by kernel_rfl) S4.le ?_
 have S8 := S4.drew
 refine Fl 0 ?_
 refine Ac S8 (still_cell r7 qV_0) ?_
 refine Cs g_aumbry_aumbryref01_Put ((putR_ok S8.le p 1 (by omega) (by omega)).mono ?_)
 rintro e w14 ⟨a9, c10, hc11, rfl, ho12, hB13⟩
 have S15 := S8.own hB13 ho12
 refine ⟨_, rfl, (((Hp.le.refl _)).trans S15.le), ?_⟩
 refine Fl 1 ?_
 refine Aj (still_cell r7 qV_1) ?_
 refine Cs g_aumbry_aumbryref01_Put ((putR_ok S15.le q 1 (by omega) (by omega)).mono ?_)
 rintro e w21 ⟨a16, c17, hc18, rfl, ho19, hB20⟩
 have S22 := S15.own hB20 ho19
 refine ⟨_, rfl, (((Hp.le.refl _)).trans S22.le), ?_⟩
 refine Fl 2 ?_
 refine Aj (still_cell r7 qV_2) ?_
 refine Cs g_aumbry_aumbryref01_Put ((putR_ok S22.le r 4 (by omega) (by omega)).mono ?_)
 rintro e w28 ⟨a23, c24, hc25, rfl, ho26, hB27⟩
 have S29 := S22.own hB27 ho26
 refine ⟨_, rfl, (((Hp.le.refl _)).trans S29.le), ?_⟩
 refine Fl 3 ?_
 refine Aj (still_cell r7 qV_3) ?_
 refine Cs g_aumbry_aumbryref01_Put ((putR_ok S29.le u 4 (by omega) (by omega)).mono ?_)
 rintro e w35 ⟨a30, c31, hc32, rfl, ho33, hB34⟩
 have S36 := S29.own hB34 ho33
 refine ⟨_, rfl, (((Hp.le.refl _)).trans S36.le), ?_⟩
 refine Fl 4 ?_
 refine T_sliceAll rfl rfl rfl rfl rfl rfl rfl rfl ?_
 have r37 := Rd.of_blk_at (off := 4) (m := 32) (c0 := 32) (size := 1) (xs := s.map bV) r7 (by rw [List.length_map, hs]) (Nat.le_refl _) (fun j u hu => qV_s j u (by simpa using hu))
 refine Fl 36 ?_
 refine T_sliceAll rfl rfl rfl rfl rfl rfl rfl rfl ?_
 have r38 := Rd.of_blk_at (off := 36) (m := 32) (c0 := 32) (size := 1) (xs := t.map bV) r7 (by rw [List.length_map, ht]) (Nat.le_refl _) (fun j u hu => (qV_t (by rw [hs])) j u (by simpa using hu))
 obtain ⟨G44, hl45, S43, r46⟩ := S36.stillRow 3 rfl
 obtain ⟨G48, hl49, S47, r50⟩ := S43.stillRow 2 rfl
 obtain ⟨G52, hl53, S51, r54⟩ := S47.stillRow 1 rfl
 obtain ⟨G56, hl57, S55, r58⟩ := S51.stillRow 0 rfl
 have rs59 : Rds G56 [.slice a9 ((Go.Sha.put (max 0 p).toNat 1).length) c10, .slice a16 ((Go.Sha.put (max 0 q).toNat 1).length) c17, .slice a23 ((Go.Sha.put (max 0 r).toNat 4).length) c24, .slice a30 ((Go.Sha.put (max 0 u).toNat 4).length) c31, .slice (some ⟨b1, 4, none⟩) 32 32, .slice (some ⟨b1, 36, none⟩) 32 32] [Go.Sha.put (max 0 p).toNat 1, Go.Sha.put (max 0 q).toNat 1, Go.Sha.put (max 0 r).toNat 4, Go.Sha.put (max 0 u).toNat 4, s, t] := Rds.cons (Rd.canonB (r46.mono (hl49.trans (hl53.trans hl57)))) (Rds.cons (Rd.canonB (r50.mono (hl53.trans hl57))) (Rds.cons (Rd.canonB (r54.mono hl57)) (Rds.cons (Rd.canonB r58) (Rds.cons (Rd.canonB (r37.mono (hl45.trans (hl49.trans (hl53.trans hl57))))) (Rds.cons (Rd.canonB (r38.mono (hl45.trans (hl49.trans (hl53.trans hl57))))) (Rds.nil _))))))
 refine Af (hone := by simp [Value.cells]; rfl) [.slice a9 ((Go.Sha.put (max 0 p).toNat 1).length) c10, .slice a16 ((Go.Sha.put (max 0 q).toNat 1).length) c17, .slice a23 ((Go.Sha.put (max 0 r).toNat 4).length) c24, .slice a30 ((Go.Sha.put (max 0 u).toNat 4).length) c31, .slice (some ⟨b1, 4, none⟩) 32 32, .slice (some ⟨b1, 36, none⟩) 32 32] fun a39 w40 hB41 ho42 => ?_
 have S60 := S55.own hB41 ho42
 refine ⟨(((hl45.trans (hl49.trans (hl53.trans hl57)))).trans S60.le), ?_⟩
 obtain ⟨G62, hl63, S61, r64⟩ := S60.stillRow 0 rfl
 have r65 := RdL.mk r64 (rs59.mono hl63)
 refine Cs g_aumbry_aumbryref01_Nets ((netsR_ok S61.le r65 (by omega)).mono ?_)
 rintro e w71 ⟨a66, c67, hc68, rfl, ho69, hB70⟩
 have S72 := S61.own hB70 ho69
 refine ⟨_, rfl, (((hl45.trans (hl49.trans (hl53.trans (hl57.trans hl63))))).trans S72.le), ?_⟩
 refine Pv (T_nil (W_ret ?_))
 refine ⟨_, ⟨_, _, rfl, rfl, rfl⟩, ?_⟩
 exact ⟨_, _, hc68, rfl, S72.row 0 rfl, S72.below⟩


theorem may_ok {H : Hp} {w : World} (hH : H.le (hw w)) (p q r u : Int) {s t : List UInt8} (hs : s.length = 32) (ht : t.length = 32) :
  Calls Tryd.prog 42 #[qV p q r u s t] w fun e w' => e = .returned (.bool (decide ((1 ≤ p ∧ p ≤ q ∧ q ≤ 16) ∧ 1 ≤ r ∧ r ≤ 1024 ∧ u = 64))) ∧ Below w.heap.size w w' := by
 refine enter1 _ Tryd.func42 rfl Tryd.ntmps42 Tryd.results42 rfl ?_
 have S0 := St.start w hH
 refine Wr (T_boxS S0 (fun _ _ => trivial) rfl rfl rfl rfl rfl rfl fun b1 w2 S3 => (Pv (Nr ?_)))
 refine Fl 0 ?_
 refine Ak (hv := qV_0) 0 0 S3 ?_
 refine Fl 1 ?_
 refine Ak (hv := qV_1) 0 1 S3 ?_
 refine Cs g_aumbry_layout_kn ((kn_ok S3.le p q).mono ?_)
 rintro e w5 ⟨rfl, hB4⟩
 have S6 := S3.call hB4
 refine ⟨_, rfl, trivial, ?_⟩
 refine Pv ?_
 refine Tp 8 (fun h7' => ?_) (fun h7' => ?_)
 ·have h7 := of_decide_eq_true h7'
  refine Ys ?_
  refine Fl 2 ?_
  refine Ys ?_
  refine Ak (hv := qV_2) 0 2 S6 ?_
  refine Ys ?_
  iterate 3 refine Pv ?_
  refine Tp 13 (fun h8' => ?_) (fun h8' => ?_)
  ·have h8 := of_decide_eq_true h8'
   refine Ys ?_
   refine Fl 2 ?_
   refine Ys ?_
   refine Ak (hv := qV_2) 0 2 S6 ?_
   refine Ys ?_
   iterate 3 refine Pv ?_
   refine Tp 18 (fun h9' => ?_) (fun h9' => ?_)
   ·have h9 := of_decide_eq_true h9'
    refine Ys ?_
    refine Fl 3 ?_
    refine Ys ?_
    refine Ak (hv := qV_3) 0 3 S6 ?_
    refine Ys ?_
    iterate 3 refine Pv ?_
    refine T_nil (W_ret ?_)
    refine ⟨_, ⟨_, _, rfl, rfl, rfl⟩, ?_⟩
    exact ⟨congrArg (fun z => Ending.returned (Value.bool z)) (by first | (exact (decide_eq_true (by omega)).symm) | (exact (decide_eq_false (by omega)).symm) | exact decide_eq_decide.2 (by omega)), S6.below⟩
   have h9 := of_decide_eq_false h9'
   iterate 3 refine No ?_
   iterate 2 refine Pv ?_
   refine T_nil (W_ret ?_)
   refine ⟨_, ⟨_, _, rfl, rfl, rfl⟩, ?_⟩
   exact ⟨congrArg (fun z => Ending.returned (Value.bool z)) (by first | (exact (decide_eq_true (by omega)).symm) | (exact (decide_eq_false (by omega)).symm) | exact decide_eq_decide.2 (by omega)), S6.below⟩
  have h8 := of_decide_eq_false h8'
  iterate 2 (refine No ?_; refine No ?_; refine No ?_; refine Pv ?_; refine Pv ?_)
  refine T_nil (W_ret ?_)
  refine ⟨_, ⟨_, _, rfl, rfl, rfl⟩, ?_⟩
  exact ⟨congrArg (fun z => Ending.returned (Value.bool z)) (by first | (exact (decide_eq_true (by omega)).symm) | (exact (decide_eq_false (by omega)).symm) | exact decide_eq_decide.2 (by omega)), S6.below⟩
 have h7 := of_decide_eq_false h7'
 iterate 3 (refine No ?_; refine No ?_; refine No ?_; refine Pv ?_; refine Pv ?_)
 refine T_nil (W_ret ?_)
 refine ⟨_, ⟨_, _, rfl, rfl, rfl⟩, ?_⟩
 exact ⟨congrArg (fun z => Ending.returned (Value.bool z)) (by first | (exact (decide_eq_true (by omega)).symm) | (exact (decide_eq_false (by omega)).symm) | exact decide_eq_decide.2 (by omega)), S6.below⟩


theorem unpackU_ok {H : Hp} {w : World} (hH : H.le (hw w)) (hT : Tabs H) {b : List UInt8} {aa0 : Option Addr} {nn0 cc0 : Nat} (hv : Rd H (.slice aa0 nn0 cc0) nn0 1 (b.map bV)) (hb : b.length ≤ 10000) :
  Calls Tryd.prog 10 #[.slice aa0 nn0 cc0] w fun e w' => e = .returned (.tuple #[qV (uN b 0) (uN b 1) (uN b 2) (uN b 3) (uH b 4) (uH b 5), .bool (decide (UebOk b))]) ∧ Below w.heap.size w w' := by
 obtain rfl : nn0 = b.length := hv.lenB
 have hvcap : b.length ≤ cc0 := hv.capOf
 refine enter1 _ Tryd.func10 rfl Tryd.ntmps10 Tryd.results10 rfl ?_
 have S0 := St.start w hH
 refine Wr (Ae S0 fun b1 w2 S3 => ?_)
 refine Pv (Nr ?_)
 refine Pv ?_
 refine Cs g_aumbry_code_TakeNets ((takeNets_ok S3.le hv 6 (by omega) (by omega)).mono ?_)
 rintro e w8 ⟨a4, c5, rfl, r6, hB7⟩
 obtain ⟨G10, eG12⟩ : ∃ G, G = F.ext H w2.heap.size w8 := ⟨_, rfl⟩
 obtain ⟨hl11, S9⟩ := S3.ext hB7
 rw [← eG12] at hl11 S9 r6
 refine ⟨_, rfl, trivial, ?_⟩
 iterate 5 refine Pv ?_
 refine T_nil (W_seq (Wr ?_))
 iterate 3 refine Pv ?_
 refine Tp 15 (fun h13' => ?_) (fun h13' => ?_)
 ·have h13 := of_ndec_t h13'
  iterate 5 refine No ?_
  iterate 2 refine Pv ?_
  iterate 5 refine No ?_
  refine Pv (T_nil ?_)
  refine W_cond_true rfl (Wr (T_buildS (cells := (qz32 : Value).cells) rfl rfl rfl rfl rfl rfl rfl rfl rfl rfl (T_storeFS 0 S9 (fun _ _ => trivial) rfl rfl rfl rfl rfl rfl rfl rfl rfl (qV_sz (q_len lr32 lr32 rfl)) (qV_sz (q_len lr32 lr32 rfl)) (qV_one) fun w14 S15 => (Pv (T_nil (W_ret ?_))))))
  refine ⟨_, ⟨_, _, _, rfl, rfl, run_loadVarA rfl rfl (qV_sz (q_len lr32 lr32 rfl)) (S15.cells 0 rfl), ⟨_, _, rfl, rfl, rfl⟩⟩, ?_⟩
  have HNO : ¬ UebOk b := by
   intro hq
   obtain ⟨q0, q1, q2, q3, q4, q5, q6, q7, q8, q9, q10, q11, q12⟩ := hq
   obtain ⟨e0, e1, e2, e3, e4, e5⟩ := six_len q1 q2 q3 q4 q5 q6
   first | exact h13 q0 | omega | exact h13 (numU q1 q2 q3 q4) | exact h13 (packU_six q0 q1 q2 q3 q4)
  exact ⟨u_no HNO, S15.below⟩
 have h13 := of_ndec_f h13'
 refine Ys ?_
 have HA := h13
 have hn6 := ntAll_len HA
 refine Pv ?_
 refine Ys ?_
 obtain ⟨hs19, r20, r21⟩ := (id r6)
 refine Ah 4 r20 fun b16 o17 hc18 => ?_
 obtain ⟨a24, c25, hc27, hv23, r26⟩ := r21.at 4 (by omega)
 have hc28 := hc18 0 (.slice a24 ((ntAll 6 b).getD 4 []).length c25) (by simpa using hv23)
 simp only [Nat.add_zero] at hc28
 refine Ys ?_
 refine Ac S9 hc28 ?_
 iterate 2 (refine Ys ?_; refine Pv ?_)
 iterate 2 refine Pv ?_
 refine Tp 22 (fun h29' => ?_) (fun h29' => ?_)
 ·have h29 := of_ndec_t h29'
  iterate 5 refine No ?_
  refine Pv (T_nil ?_)
  refine W_cond_true rfl (Wr (T_buildS (cells := (qz32 : Value).cells) rfl rfl rfl rfl rfl rfl rfl rfl rfl rfl (T_storeFS 0 S9 (fun _ _ => trivial) rfl rfl rfl rfl rfl rfl rfl rfl rfl (qV_sz (q_len lr32 lr32 rfl)) (qV_sz (q_len lr32 lr32 rfl)) (qV_one) fun w30 S31 => (Pv (T_nil (W_ret ?_))))))
  refine ⟨_, ⟨_, _, _, rfl, rfl, run_loadVarA rfl rfl (qV_sz (q_len lr32 lr32 rfl)) (S31.cells 0 rfl), ⟨_, _, rfl, rfl, rfl⟩⟩, ?_⟩
  have HNO : ¬ UebOk b := by
   intro hq
   obtain ⟨q0, q1, q2, q3, q4, q5, q6, q7, q8, q9, q10, q11, q12⟩ := hq
   obtain ⟨e0, e1, e2, e3, e4, e5⟩ := six_len q1 q2 q3 q4 q5 q6
   first | exact h29 q0 | omega | exact h29 (numU q1 q2 q3 q4) | exact h29 (packU_six q0 q1 q2 q3 q4)
  exact ⟨u_no HNO, S31.below⟩
 have h29 := of_ndec_f h29'
 refine Ys ?_
 refine Pv ?_
 refine Ys ?_
 obtain ⟨hs35, r36, r37⟩ := (id r6)
 refine Ah 5 r36 fun b32 o33 hc34 => ?_
 obtain ⟨a40, c41, hc43, hv39, r42⟩ := r37.at 5 (by omega)
 have hc44 := hc34 0 (.slice a40 ((ntAll 6 b).getD 5 []).length c41) (by simpa using hv39)
 simp only [Nat.add_zero] at hc44
 refine Ys ?_
 refine Ac S9 hc44 ?_
 iterate 2 (refine Ys ?_; refine Pv ?_)
 refine Pv (T_nil ?_)
 refine W_cond_not rfl (fun h45 => ?_) (fun h45 => ?_)
 ·refine Wr (T_buildS (cells := (qz32 : Value).cells) rfl rfl rfl rfl rfl rfl rfl rfl rfl rfl (T_storeFS 0 S9 (fun _ _ => trivial) rfl rfl rfl rfl rfl rfl rfl rfl rfl (qV_sz (q_len lr32 lr32 rfl)) (qV_sz (q_len lr32 lr32 rfl)) (qV_one) fun w46 S47 => (Pv (T_nil (W_ret ?_)))))
  refine ⟨_, ⟨_, _, _, rfl, rfl, run_loadVarA rfl rfl (qV_sz (q_len lr32 lr32 rfl)) (S47.cells 0 rfl), ⟨_, _, rfl, rfl, rfl⟩⟩, ?_⟩
  have HNO : ¬ UebOk b := by
   intro hq
   obtain ⟨q0, q1, q2, q3, q4, q5, q6, q7, q8, q9, q10, q11, q12⟩ := hq
   obtain ⟨e0, e1, e2, e3, e4, e5⟩ := six_len q1 q2 q3 q4 q5 q6
   first | exact h45 q0 | omega | exact h45 (numU q1 q2 q3 q4) | exact h45 (packU_six q0 q1 q2 q3 q4)
  exact ⟨u_no HNO, S47.below⟩
 refine W_skip (Wr (Pv ?_))
 refine Af (hone := by simp [Value.cells]; rfl) ([(1 : Int), (1 : Int), (4 : Int), (4 : Int)].map iV) fun a48 w49 hB50 ho51 => ?_
 have S52 := S9.own hB50 ho51
 refine ⟨trivial, ?_⟩
 obtain ⟨G54, hl55, S53, r56⟩ := S52.stillRow 0 rfl
 refine Cs g_aumbry_layout_nums ((nums_ok S53.le (l := (ntAll 6 b)) (m := ([(1 : Int), (1 : Int), (4 : Int), (4 : Int)])) (r6.mono hl55) r56 (by show 4 ≤ _; omega) (by show 4 ≤ 10; omega) w7u (fun x hx => by have := ntAll_el 6 b x hx; omega)).mono ?_)
 rintro e w61 ⟨a57, c58, rfl, r59, hB60⟩
 obtain ⟨G63, eG65⟩ : ∃ G, G = F.ext G54 w49.heap.size w61 := ⟨_, rfl⟩
 obtain ⟨hl64, S62⟩ := S53.ext hB60
 rw [← eG65] at hl64 S62 r59
 refine ⟨_, rfl, trivial, ?_⟩
 iterate 5 refine Pv ?_
 refine T_nil (W_seq (Wr ?_))
 iterate 2 refine Pv ?_
 refine T_nil (W_cond_not rfl (fun h66 => ?_) (fun h66 => ?_))
 ·refine Wr (T_buildS (cells := (qz32 : Value).cells) rfl rfl rfl rfl rfl rfl rfl rfl rfl rfl (T_storeFS 0 S62 (fun _ _ => trivial) rfl rfl rfl rfl rfl rfl rfl rfl rfl (qV_sz (q_len lr32 lr32 rfl)) (qV_sz (q_len lr32 lr32 rfl)) (qV_one) fun w67 S68 => (Pv (T_nil (W_ret ?_)))))
  refine ⟨_, ⟨_, _, _, rfl, rfl, run_loadVarA rfl rfl (qV_sz (q_len lr32 lr32 rfl)) (S68.cells 0 rfl), ⟨_, _, rfl, rfl, rfl⟩⟩, ?_⟩
  have HNO : ¬ UebOk b := by
   intro hq
   obtain ⟨q0, q1, q2, q3, q4, q5, q6, q7, q8, q9, q10, q11, q12⟩ := hq
   obtain ⟨e0, e1, e2, e3, e4, e5⟩ := six_len q1 q2 q3 q4 q5 q6
   first | exact h66 q0 | omega | exact h66 (numU q1 q2 q3 q4) | exact h66 (packU_six q0 q1 q2 q3 q4)
  exact ⟨u_no HNO, S68.below⟩
 refine W_skip (W_seq (W_plan (planF Tryd.prog G63 [41, 44, 47, 50, 53, 54, 55, 58, 59, 60]) rfl (by kernel_rfl) S62.le ?_))
 have S69 := S62.drew
 refine Pv ?_
 have HN := h66
 have hn4 : (numA (ntAll 6 b) [(1 : Int), (1 : Int), (4 : Int), (4 : Int)]).length = 4 := by rw [numA_yes HN, numL_len]; rfl
 have HQ0 : (Go.Au.six b 0).length = 1 := by have h : (((ntAll 6 b).getD 0 []).length : Int) = 1 := HN 0 (by decide); show ((ntAll 6 b).getD 0 []).length = _; omega
 have HQ1 : (Go.Au.six b 1).length = 1 := by have h : (((ntAll 6 b).getD 1 []).length : Int) = 1 := HN 1 (by decide); show ((ntAll 6 b).getD 1 []).length = _; omega
 have HQ2 : (Go.Au.six b 2).length = 4 := by have h : (((ntAll 6 b).getD 2 []).length : Int) = 4 := HN 2 (by decide); show ((ntAll 6 b).getD 2 []).length = _; omega
 have HQ3 : (Go.Au.six b 3).length = 4 := by have h : (((ntAll 6 b).getD 3 []).length : Int) = 4 := HN 3 (by decide); show ((ntAll 6 b).getD 3 []).length = _; omega
 have HB0 := be_w HQ0
 have HB1 := be_w HQ1
 have HB2 := be_w HQ2
 have HB3 := be_w HQ3
 have HL4 : (Go.Au.six b 4).length = 32 := by show ((ntAll 6 b).getD 4 []).length = _; omega
 have HL5 : (Go.Au.six b 5).length = 32 := by show ((ntAll 6 b).getD 5 []).length = _; omega
 refine Ah 0 r59 fun b70 o71 hc72 => ?_
 have hc73 := hc72 0 (.int .i64 ((numA (ntAll 6 b) ([(1 : Int), (1 : Int), (4 : Int), (4 : Int)])).getD 0 0)) (at_i (numA (ntAll 6 b) ([(1 : Int), (1 : Int), (4 : Int), (4 : Int)])) 0 (by omega))
 simp only [Nat.add_zero] at hc73
 refine Aj hc73 ?_
 refine T_re (v' := .int .i64 ((Go.Au.be (Go.Au.six b 0) : Nat) : Int)) (congrArg (Value.int .i64) (by rw [numA_yes HN]; exact numL_get (by decide))) ?_
 refine Pv ?_
 refine Ah 1 r59 fun b74 o75 hc76 => ?_
 have hc77 := hc76 0 (.int .i64 ((numA (ntAll 6 b) ([(1 : Int), (1 : Int), (4 : Int), (4 : Int)])).getD 1 0)) (at_i (numA (ntAll 6 b) ([(1 : Int), (1 : Int), (4 : Int), (4 : Int)])) 1 (by omega))
 simp only [Nat.add_zero] at hc77
 refine Aj hc77 ?_
 refine T_re (v' := .int .i64 ((Go.Au.be (Go.Au.six b 1) : Nat) : Int)) (congrArg (Value.int .i64) (by rw [numA_yes HN]; exact numL_get (by decide))) ?_
 refine Pv ?_
 refine Ah 2 r59 fun b78 o79 hc80 => ?_
 have hc81 := hc80 0 (.int .i64 ((numA (ntAll 6 b) ([(1 : Int), (1 : Int), (4 : Int), (4 : Int)])).getD 2 0)) (at_i (numA (ntAll 6 b) ([(1 : Int), (1 : Int), (4 : Int), (4 : Int)])) 2 (by omega))
 simp only [Nat.add_zero] at hc81
 refine Aj hc81 ?_
 refine T_re (v' := .int .i64 ((Go.Au.be (Go.Au.six b 2) : Nat) : Int)) (congrArg (Value.int .i64) (by rw [numA_yes HN]; exact numL_get (by decide))) ?_
 refine Pv ?_
 refine Ah 3 r59 fun b82 o83 hc84 => ?_
 have hc85 := hc84 0 (.int .i64 ((numA (ntAll 6 b) ([(1 : Int), (1 : Int), (4 : Int), (4 : Int)])).getD 3 0)) (at_i (numA (ntAll 6 b) ([(1 : Int), (1 : Int), (4 : Int), (4 : Int)])) 3 (by omega))
 simp only [Nat.add_zero] at hc85
 refine Aj hc85 ?_
 refine T_re (v' := .int .i64 ((Go.Au.be (Go.Au.six b 3) : Nat) : Int)) (congrArg (Value.int .i64) (by rw [numA_yes HN]; exact numL_get (by decide))) ?_
 refine Pv ?_
 obtain ⟨hs89, r90, r91⟩ := (r6.mono (hl55.trans hl64))
 refine Ah 4 r90 fun b86 o87 hc88 => ?_
 obtain ⟨a94, c95, hc97, hv93, r96⟩ := r91.at 4 (by omega)
 have hc98 := hc88 0 (.slice a94 ((ntAll 6 b).getD 4 []).length c95) (by simpa using hv93)
 simp only [Nat.add_zero] at hc98
 refine Aj hc98 ?_
 have hb102 := (r96).lenB
 have hl103 := take_len32 (l := ((ntAll 6 b).getD 4 [])) (by omega)
 refine T_s2apR r96 rfl rfl rfl rfl rfl rfl (by decide) (by omega) fun b99 o100 hc101 => ?_
 refine T_loadGAP _ (fun _ h => h) hc101 rfl rfl rfl rfl rfl rfl rfl rfl (hVs hl103) (T_re (v' := hV (Go.Au.six b 4)) (congrArg hV (List.take_of_length_le (by omega))) ?_)
 refine Pv ?_
 obtain ⟨hs107, r108, r109⟩ := (r6.mono (hl55.trans hl64))
 refine Ah 5 r108 fun b104 o105 hc106 => ?_
 obtain ⟨a112, c113, hc115, hv111, r114⟩ := r109.at 5 (by omega)
 have hc116 := hc106 0 (.slice a112 ((ntAll 6 b).getD 5 []).length c113) (by simpa using hv111)
 simp only [Nat.add_zero] at hc116
 refine Aj hc116 ?_
 have hb120 := (r114).lenB
 have hl121 := take_len32 (l := ((ntAll 6 b).getD 5 [])) (by omega)
 refine T_s2apR r114 rfl rfl rfl rfl rfl rfl (by decide) (by omega) fun b117 o118 hc119 => ?_
 refine T_loadGAP _ (fun _ h => h) hc119 rfl rfl rfl rfl rfl rfl rfl rfl (hVs hl121) (T_re (v' := hV (Go.Au.six b 5)) (congrArg hV (List.take_of_length_le (by omega))) ?_)
 refine T_buildS (cells := (qV ((Go.Au.be (Go.Au.six b 0) : Nat) : Int) ((Go.Au.be (Go.Au.six b 1) : Nat) : Int) ((Go.Au.be (Go.Au.six b 2) : Nat) : Int) ((Go.Au.be (Go.Au.six b 3) : Nat) : Int) (Go.Au.six b 4) (Go.Au.six b 5) : Value).cells) rfl rfl rfl rfl rfl rfl (fill_q32 HL4 HL5) rfl rfl rfl (Ae (hC := fun _ h => ((Hp.le.refl _)).trans h) S69 fun b122 w123 S124 => ?_)
 refine T_storeFS 0 S124 (fun _ h => ((Hp.le.refl _)).trans h) rfl rfl rfl rfl rfl rfl rfl rfl rfl (qV_sz (q_len HL4 HL5 rfl)) (qV_sz (q_len HL4 HL5 rfl)) (qV_one) fun w125 S126 => (T_nil (W_seq (Wr (T_loadFS 0 S126 rfl rfl rfl rfl rfl rfl rfl rfl rfl (qV_sz (q_len HL4 HL5 rfl)) (Cs g_aumbry_layout_May ((may_ok S126.le ((Go.Au.be (Go.Au.six b 0) : Nat) : Int) ((Go.Au.be (Go.Au.six b 1) : Nat) : Int) ((Go.Au.be (Go.Au.six b 2) : Nat) : Int) ((Go.Au.be (Go.Au.six b 3) : Nat) : Int) HL4 HL5).mono ?_))))))
 rintro e w128 ⟨rfl, hB127⟩
 have S129 := S126.call hB127
 refine ⟨_, rfl, trivial, ?_⟩
 iterate 2 refine Pv ?_
 refine Tp 65 (fun h130' => ?_) (fun h130' => ?_)
 ·have h130 := of_ndec_t h130'
  iterate 5 refine No ?_
  refine Pv (T_nil ?_)
  refine W_cond_true rfl (Wr (T_buildS (cells := (qz32 : Value).cells) rfl rfl rfl rfl rfl rfl rfl rfl rfl rfl (T_storeFS 1 S129 (fun _ _ => trivial) rfl rfl rfl rfl rfl rfl rfl rfl rfl (qV_sz (q_len lr32 lr32 rfl)) (qV_sz (q_len lr32 lr32 rfl)) (qV_one) fun w131 S132 => (Pv (T_nil (W_ret ?_))))))
  refine ⟨_, ⟨_, _, _, rfl, rfl, run_loadVarA rfl rfl (qV_sz (q_len lr32 lr32 rfl)) (S132.cells 1 rfl), ⟨_, _, rfl, rfl, rfl⟩⟩, ?_⟩
  have HNO : ¬ UebOk b := by
   intro hq
   obtain ⟨q0, q1, q2, q3, q4, q5, q6, q7, q8, q9, q10, q11, q12⟩ := hq
   obtain ⟨e0, e1, e2, e3, e4, e5⟩ := six_len q1 q2 q3 q4 q5 q6
   first | exact h130 q0 | omega | exact h130 (numU q1 q2 q3 q4) | exact h130 (packU_six q0 q1 q2 q3 q4)
  exact ⟨u_no HNO, S132.below⟩
 have h130 := of_ndec_f h130'
 refine Ys ?_
 refine T_loadFS 0 S129 rfl rfl rfl rfl rfl rfl rfl rfl rfl (qV_sz (q_len HL4 HL5 rfl)) (Ys ?_)
 refine Cs g_aumbry_layout_Pack ((packU_ok S129.le (hT.mono (hl11.trans (hl55.trans hl64))) ((Go.Au.be (Go.Au.six b 0) : Nat) : Int) ((Go.Au.be (Go.Au.six b 1) : Nat) : Int) ((Go.Au.be (Go.Au.six b 2) : Nat) : Int) ((Go.Au.be (Go.Au.six b 3) : Nat) : Int) (s := (Go.Au.six b 4)) (t := (Go.Au.six b 5)) HL4 HL5 (by omega) (by omega) (by omega) (by omega)).mono ?_)
 rintro e w138 ⟨a133, c134, hc135, rfl, ho136, hB137⟩
 have hl139 := packU_len ((Go.Au.be (Go.Au.six b 0) : Nat) : Int) ((Go.Au.be (Go.Au.six b 1) : Nat) : Int) ((Go.Au.be (Go.Au.six b 2) : Nat) : Int) ((Go.Au.be (Go.Au.six b 3) : Nat) : Int) (s := (Go.Au.six b 4)) (t := (Go.Au.six b 5)) (by have := HL4; omega) (by have := HL5; omega)
 have S140 := S129.own hB137 ho136
 refine ⟨_, rfl, trivial, ?_⟩
 refine Ys ?_
 refine Pv ?_
 refine Ys ?_
 obtain ⟨G142, hl143, S141, r144⟩ := S140.stillRow 0 rfl
 refine Cs g_bytes_Equal ((bytesEqual_ok S141.le r144 (hv.mono (hl11.trans (hl55.trans (hl64.trans hl143))))).mono ?_)
 rintro e w146 ⟨rfl, hB145⟩
 have S147 := S141.call hB145
 refine ⟨_, rfl, trivial, ?_⟩
 refine Ys ?_
 iterate 2 refine Pv ?_
 refine T_nil (W_cond_not rfl (fun h148 => ?_) (fun h148 => ?_))
 ·refine Wr (T_buildS (cells := (qz32 : Value).cells) rfl rfl rfl rfl rfl rfl rfl rfl rfl rfl (T_storeFS 1 S147 (fun _ _ => trivial) rfl rfl rfl rfl rfl rfl rfl rfl rfl (qV_sz (q_len lr32 lr32 rfl)) (qV_sz (q_len lr32 lr32 rfl)) (qV_one) fun w149 S150 => (Pv (T_nil (W_ret ?_)))))
  refine ⟨_, ⟨_, _, _, rfl, rfl, run_loadVarA rfl rfl (qV_sz (q_len lr32 lr32 rfl)) (S150.cells 1 rfl), ⟨_, _, rfl, rfl, rfl⟩⟩, ?_⟩
  have HNO : ¬ UebOk b := by
   intro hq
   obtain ⟨q0, q1, q2, q3, q4, q5, q6, q7, q8, q9, q10, q11, q12⟩ := hq
   obtain ⟨e0, e1, e2, e3, e4, e5⟩ := six_len q1 q2 q3 q4 q5 q6
   first | exact h148 q0 | omega | exact h148 (numU q1 q2 q3 q4) | exact h148 (packU_six q0 q1 q2 q3 q4)
  exact ⟨u_no HNO, S150.below⟩
 refine W_skip (Wr (T_loadFS 0 S147 rfl rfl rfl rfl rfl rfl rfl rfl rfl (qV_sz (q_len HL4 HL5 rfl)) (T_storeFS 1 S147 (fun _ _ => trivial) rfl rfl rfl rfl rfl rfl rfl rfl rfl (qV_sz (q_len HL4 HL5 rfl)) (qV_sz (q_len HL4 HL5 rfl)) (qV_one) fun w151 S152 => (Pv (T_nil (W_ret ?_))))))
 refine ⟨_, ⟨_, _, _, rfl, rfl, run_loadVarA rfl rfl (qV_sz (q_len HL4 HL5 rfl)) (S152.cells 1 rfl), ⟨_, _, rfl, rfl, rfl⟩⟩, ?_⟩
 exact ⟨u_yes ⟨HA, HQ0, HQ1, HQ2, HQ3, HL4, HL5, by omega, by omega, by omega, by omega, by omega, by omega⟩, S152.below⟩


end Go.Proofs.YtmjmjjkigblbgaaDoor
