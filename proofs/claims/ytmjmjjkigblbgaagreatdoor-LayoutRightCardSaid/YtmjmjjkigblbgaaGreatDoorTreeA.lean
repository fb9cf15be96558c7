/- Walks of the program's functions. -/
import Derived.Test.YtmjmjjkigblbgaaGreatDoorRefB
import Derived.Test.YtmjmjjkigblbgaaGreatDoorLayB
import Derived.Test.YtmjmjjkigblbgaaGreatDoorAuAll
import Derived.Test.YtmjmjjkigblbgaaGreatDoorFRest
import Derived.Test.YtmjmjjkigblbgaaGreatDoorAuDoor
import Derived.Test.YtmjmjjkigblbgaaGreatDoorFDoor
import Derived.Test.YtmjmjjkigblbgaaGreatDoorGfC
set_option linter.unusedVariables false
set_option linter.unusedSimpArgs false
set_option maxRecDepth 8192
namespace Go.Proofs.YtmjmjjkigblbgaaGreatDoor
open Go Go.F Go.RowKit
open Go.Au

theorem leaf_ok {H : Hp} {w : World} (hH : H.le (hw w)) (hT : Tabs H) {b : List UInt8} {aa0 : Option Addr} {nn0 cc0 : Nat} (hv : Rd H (.slice aa0 nn0 cc0) nn0 1 (b.map bV)) (hb : b.length < 1000) :
  Calls Tryz.prog 54 #[.slice aa0 nn0 cc0] w fun e w' => e = .returned (hV (leafH b)) ∧ Below w.heap.size w w' := by
 obtain rfl : nn0 = b.length := hv.lenB
 have hvcap : b.length ≤ cc0 := hv.capOf
 have htx := text1 (tag := [108, 101, 97, 102]) (b := b) (by decide) (by omega)
 refine Aa Tryz.func54 Tryz.ntmps54 Tryz.results54 ?_
 have S0 := St.start w hH
 refine Wr (Af S0 fun b1 w2 S3 => (Nr ?_))
 refine Pv ?_
 have rs8 : Rds H [.slice aa0 b.length cc0] [b] := Rds.cons (Rd.canonB hv) (Rds.nil _)
 refine Ah (hone := by simp [Value.cells]; rfl) [.slice aa0 b.length cc0] fun a4 w5 hB6 ho7 => ?_
 have S9 := S3.own hB6 ho7
 refine ⟨trivial, ?_⟩
 obtain ⟨G11, hl12, S10, r13⟩ := S9.stillRow 0 rfl
 have r14 := RdL.mk r13 (rs8.mono hl12)
 refine Cs g_aumbry_sha_Tagged ((tagged_ok S10.le (hT.mono hl12) r14 (by omega)).mono ?_)
 rintro e w16 ⟨rfl, hB15⟩
 have S17 := S10.call hB15
 refine ⟨_, rfl, trivial, ?_⟩
 refine T_re (v' := hV (leafH b)) rfl (Ak (hl := by exact hVs (leafH_len _)) (hl2 := by exact hVs (leafH_len _)) (h1 := by exact one_hA _) 0 S17 fun w18 S19 => (T_nil (W_ret ?_)))
 refine ⟨_, ⟨_, _, _, rfl, rfl, run_loadVarA rfl rfl (hVs (leafH_len _)) (S19.cells 0 rfl), rfl⟩, ?_⟩
 exact ⟨rfl, S19.below⟩


theorem leafR_ok {H : Hp} {w : World} (hH : H.le (hw w)) {b : List UInt8} {aa0 : Option Addr} {nn0 cc0 : Nat} (hv : Rd H (.slice aa0 nn0 cc0) nn0 1 (b.map bV)) (hb : b.length < 1000) :
  Calls Tryz.prog 96 #[.slice aa0 nn0 cc0] w fun e w' => e = .returned (hV (leafH b)) ∧ Below w.heap.size w w' := by
 obtain rfl : nn0 = b.length := hv.lenB
 have hvcap : b.length ≤ cc0 := hv.capOf
 have htx := text1 (tag := [108, 101, 97, 102]) (b := b) (by decide) (by omega)
 refine Aa Tryz.func96 Tryz.ntmps96 Tryz.results96 ?_
 have S0 := St.start w hH
 refine Wr (Af S0 fun b1 w2 S3 => (Nr ?_))
 refine Pv ?_
 have rs8 : Rds H [.slice aa0 b.length cc0] [b] := Rds.cons (Rd.canonB hv) (Rds.nil _)
 refine Ah (hone := by simp [Value.cells]; rfl) [.slice aa0 b.length cc0] fun a4 w5 hB6 ho7 => ?_
 have S9 := S3.own hB6 ho7
 refine ⟨trivial, ?_⟩
 obtain ⟨G11, hl12, S10, r13⟩ := S9.stillRow 0 rfl
 have r14 := RdL.mk r13 (rs8.mono hl12)
 refine Cs g_aumbry_aumbryref01_Tagged ((taggedR_ok S10.le r14 (by omega)).mono ?_)
 rintro e w16 ⟨rfl, hB15⟩
 have S17 := S10.call hB15
 refine ⟨_, rfl, trivial, ?_⟩
 refine T_re (v' := hV (leafH b)) rfl (Ak (hl := by exact hVs (leafH_len _)) (hl2 := by exact hVs (leafH_len _)) (h1 := by exact one_hA _) 0 S17 fun w18 S19 => (T_nil (W_ret ?_)))
 refine ⟨_, ⟨_, _, _, rfl, rfl, run_loadVarA rfl rfl (hVs (leafH_len _)) (S19.cells 0 rfl), rfl⟩, ?_⟩
 exact ⟨rfl, S19.below⟩


theorem ntext_ok {H : Hp} {w : World} (hH : H.le (hw w)) (hT : Tabs H) {x y : List UInt8} (hx : x.length = 32) (hy : y.length = 32) :
  Calls Tryz.prog 167 #[hV x, hV y] w fun e w' => ∃ a c, (Go.Au.text [110, 111, 100, 101] [x, y]).length ≤ c ∧ e = .returned (.slice a (Go.Au.text [110, 111, 100, 101] [x, y]).length c) ∧ rowZ w' w.heap.size 5 1 (.slice a (Go.Au.text [110, 111, 100, 101] [x, y]).length c) (Go.Au.text [110, 111, 100, 101] [x, y]).length ((Go.Au.text [110, 111, 100, 101] [x, y]).map bV) ∧ Below w.heap.size w w' := by
 have htx := text2 (tag := [110, 111, 100, 101]) (a := x) (b := y) (by decide) (by omega) (by omega)
 refine enter2 _ Tryz.func167 rfl Tryz.ntmps167 Tryz.results167 rfl ?_
 have S0 := St.start w hH
 refine Wr (Ao S0 fun b1 w2 S3 => ?_)
 refine Ao S3 fun b4 w5 S6 => ?_
 refine Pv (T_nil (W_seq ?_))
 refine W_draw rfl (by kernel_rfl) ?_
 have S7 := S6.drew
 obtain ⟨G9, hl10, S8, r11⟩ := S7.stillBlk 1 rfl
 refine T_sliceAll rfl rfl rfl rfl rfl rfl rfl rfl ?_
 have r12 := Rd.of_blk (m := 32) (size := 1) (xs := x.map bV) r11 (hcell1 _) (by rw [List.length_map, hx])
 obtain ⟨G14, hl15, S13, r16⟩ := S8.stillBlk 0 rfl
 refine T_sliceAll rfl rfl rfl rfl rfl rfl rfl rfl ?_
 have r17 := Rd.of_blk (m := 32) (size := 1) (xs := y.map bV) r16 (hcell1 _) (by rw [List.length_map, hy])
 have rs22 : Rds G14 [.slice (some ⟨b1, 0, none⟩) 32 32, .slice (some ⟨b4, 0, none⟩) 32 32] [x, y] := Rds.cons (Rd.canonB (r12.mono hl15)) (Rds.cons (Rd.canonB r17) (Rds.nil _))
 refine Ah (hone := by simp [Value.cells]; rfl) [.slice (some ⟨b1, 0, none⟩) 32 32, .slice (some ⟨b4, 0, none⟩) 32 32] fun a18 w19 hB20 ho21 => ?_
 have S23 := S13.own hB20 ho21
 refine ⟨trivial, ?_⟩
 obtain ⟨G25, hl26, S24, r27⟩ := S23.stillRow 0 rfl
 have r28 := RdL.mk r27 (rs22.mono hl26)
 refine Cs g_aumbry_sha_Text ((text_ok S24.le (hT.mono (hl10.trans (hl15.trans hl26))) r28 (by omega)).mono ?_)
 rintro e w34 ⟨a29, c30, hc31, rfl, ho32, hB33⟩
 have S35 := S24.own hB33 ho32
 refine ⟨_, rfl, trivial, ?_⟩
 refine Pv (T_nil (W_ret ?_))
 refine ⟨_, ⟨_, _, rfl, rfl, rfl⟩, ?_⟩
 exact ⟨_, _, hc31, rfl, S35.row 0 rfl, S35.below⟩


theorem ntextR_ok {H : Hp} {w : World} (hH : H.le (hw w)) {x y : List UInt8} (hx : x.length = 32) (hy : y.length = 32) :
  Calls Tryz.prog 151 #[hV x, hV y] w fun e w' => ∃ a c, (Go.Au.text [110, 111, 100, 101] [x, y]).length ≤ c ∧ e = .returned (.slice a (Go.Au.text [110, 111, 100, 101] [x, y]).length c) ∧ rowZ w' w.heap.size 5 1 (.slice a (Go.Au.text [110, 111, 100, 101] [x, y]).length c) (Go.Au.text [110, 111, 100, 101] [x, y]).length ((Go.Au.text [110, 111, 100, 101] [x, y]).map bV) ∧ Below w.heap.size w w' := by
 have htx := text2 (tag := [110, 111, 100, 101]) (a := x) (b := y) (by decide) (by omega) (by omega)
 refine enter2 _ Tryz.func151 rfl Tryz.ntmps151 Tryz.results151 rfl ?_
 have S0 := St.start w hH
 refine Wr (Ao S0 fun b1 w2 S3 => ?_)
 refine Ao S3 fun b4 w5 S6 => ?_
 refine Pv (T_nil (W_seq ?_))
 refine W_draw rfl (by kernel_rfl) ?_
 have S7 := S6.drew
 obtain ⟨G9, hl10, S8, r11⟩ := S7.stillBlk 1 rfl
 refine T_sliceAll rfl rfl rfl rfl rfl rfl rfl rfl ?_
 have r12 := Rd.of_blk (m := 32) (size := 1) (xs := x.map bV) r11 (hcell1 _) (by rw [List.length_map, hx])
 obtain ⟨G14, hl15, S13, r16⟩ := S8.stillBlk 0 rfl
 refine T_sliceAll rfl rfl rfl rfl rfl rfl rfl rfl ?_
 have r17 := Rd.of_blk (m := 32) (size := 1) (xs := y.map bV) r16 (hcell1 _) (by rw [List.length_map, hy])
 have rs22 : Rds G14 [.slice (some ⟨b1, 0, none⟩) 32 32, .slice (some ⟨b4, 0, none⟩) 32 32] [x, y] := Rds.cons (Rd.canonB (r12.mono hl15)) (Rds.cons (Rd.canonB r17) (Rds.nil _))
 refine Ah (hone := by simp [Value.cells]; rfl) [.slice (some ⟨b1, 0, none⟩) 32 32, .slice (some ⟨b4, 0, none⟩) 32 32] fun a18 w19 hB20 ho21 => ?_
 have S23 := S13.own hB20 ho21
 refine ⟨trivial, ?_⟩
 obtain ⟨G25, hl26, S24, r27⟩ := S23.stillRow 0 rfl
 have r28 := RdL.mk r27 (rs22.mono hl26)
 refine Cs g_aumbry_aumbryref01_Text ((textR_ok S24.le r28 (by omega)).mono ?_)
 rintro e w34 ⟨a29, c30, hc31, rfl, ho32, hB33⟩
 have S35 := S24.own hB33 ho32
 refine ⟨_, rfl, trivial, ?_⟩
 refine Pv (T_nil (W_ret ?_))
 refine ⟨_, ⟨_, _, rfl, rfl, rfl⟩, ?_⟩
 exact ⟨_, _, hc31, rfl, S35.row 0 rfl, S35.below⟩


theorem node_ok {H : Hp} {w : World} (hH : H.le (hw w)) (hT : Tabs H) {x y : List UInt8} (hx : x.length = 32) (hy : y.length = 32) :
  Calls Tryz.prog 149 #[hV x, hV y] w fun e w' => e = .returned (hV (Go.Au.node x y)) ∧ Below w.heap.size w w' := by
 have htx := text2 (tag := [110, 111, 100, 101]) (a := x) (b := y) (by decide) (by omega) (by omega)
 refine enter2 _ Tryz.func149 rfl Tryz.ntmps149 Tryz.results149 rfl ?_
 have S0 := St.start w hH
 refine Wr (Ao S0 fun b1 w2 S3 => ?_)
 refine Ao S3 fun b4 w5 S6 => ?_
 refine Af S6 fun b7 w8 S9 => (Nr ?_)
 refine An (hl := by exact hVs hx) 2 S9 ?_
 refine An (hl := by exact hVs hy) 1 S9 ?_
 refine Cs g_aumbry_tree_text ((ntext_ok S9.le hT hx hy).mono ?_)
 rintro e w15 ⟨a10, c11, hc12, rfl, ho13, hB14⟩
 have S16 := S9.own hB14 ho13
 refine ⟨_, rfl, trivial, ?_⟩
 obtain ⟨G18, hl19, S17, r20⟩ := S16.stillRow 0 rfl
 refine Cs g_aumbry_sha_Sum ((sumN_ok S17.le r20 (by omega)).mono ?_)
 rintro e w22 ⟨rfl, hB21⟩
 have S23 := S17.call hB21
 refine ⟨_, rfl, trivial, ?_⟩
 refine T_re (v' := hV (Go.Au.node x y)) rfl (Ak (hl := by exact hVs (node_len _ _)) (hl2 := by exact hVs (node_len _ _)) (h1 := by exact one_hA _) 0 S23 fun w24 S25 => (T_nil (W_ret ?_)))
 refine ⟨_, ⟨_, _, _, rfl, rfl, run_loadVarA rfl rfl (hVs (node_len _ _)) (S25.cells 0 rfl), rfl⟩, ?_⟩
 exact ⟨rfl, S25.below⟩


theorem nodeR_ok {H : Hp} {w : World} (hH : H.le (hw w)) {x y : List UInt8} (hx : x.length = 32) (hy : y.length = 32) :
  Calls Tryz.prog 114 #[hV x, hV y] w fun e w' => e = .returned (hV (Go.Au.node x y)) ∧ Below w.heap.size w w' := by
 have htx := text2 (tag := [110, 111, 100, 101]) (a := x) (b := y) (by decide) (by omega) (by omega)
 refine enter2 _ Tryz.func114 rfl Tryz.ntmps114 Tryz.results114 rfl ?_
 have S0 := St.start w hH
 refine Wr (Ao S0 fun b1 w2 S3 => ?_)
 refine Ao S3 fun b4 w5 S6 => ?_
 refine Af S6 fun b7 w8 S9 => (Nr ?_)
 refine An (hl := by exact hVs hx) 2 S9 ?_
 refine An (hl := by exact hVs hy) 1 S9 ?_
 refine Cs g_aumbry_aumbryref07_nodeText ((ntextR_ok S9.le hx hy).mono ?_)
 rintro e w15 ⟨a10, c11, hc12, rfl, ho13, hB14⟩
 have S16 := S9.own hB14 ho13
 refine ⟨_, rfl, trivial, ?_⟩
 obtain ⟨G18, hl19, S17, r20⟩ := S16.stillRow 0 rfl
 refine Cs g_aumbry_aumbryref01_Sum ((sumR_ok S17.le r20 (by omega)).mono ?_)
 rintro e w22 ⟨rfl, hB21⟩
 have S23 := S17.call hB21
 refine ⟨_, rfl, trivial, ?_⟩
 refine T_re (v' := hV (Go.Au.node x y)) rfl (Ak (hl := by exact hVs (node_len _ _)) (hl2 := by exact hVs (node_len _ _)) (h1 := by exact one_hA _) 0 S23 fun w24 S25 => (T_nil (W_ret ?_)))
 refine ⟨_, ⟨_, _, _, rfl, rfl, run_loadVarA rfl rfl (hVs (node_len _ _)) (S25.cells 0 rfl), rfl⟩, ?_⟩
 exact ⟨rfl, S25.below⟩


theorem pad_ok {H : Hp} {w : World} (hH : H.le (hw w)) (n : Int) (hn : n ≤ 2199023255552) :
  Calls Tryz.prog 150 #[.int .i64 n] w fun e w' => e = .returned (.int .i64 ((padN n.toNat : Nat) : Int)) ∧ Below w.heap.size w w' := by
 have hlg := lg_le (n := n.toNat) (m := 41) (by show _ ≤ 2199023255552; omega)
 refine Aa Tryz.func150 Tryz.ntmps150 Tryz.results150 ?_
 have S0 := St.start w hH
 refine Wr (Pv (Nr ?_))
 refine Pv (T_nil (W_seq (W_block ?_)))
 refine W_loop (fun M ρ w' => ∃ (k : Nat) (G1 : Hp), M = 42 - k ∧ k ≤ lg n.toNat ∧ ρ = [(0, .int .i64 n), (3, .int .i64 ((2 ^ k : Nat) : Int))] ∧ H.le G1 ∧ St w H G1 [] w')
  (42 - 0) [(0, .int .i64 n), (3, .int .i64 (1 : Int))] ⟨ciI, ciI, trivial⟩ ⟨0, H, rfl, (by exact Nat.zero_le _), rfl, Hp.le.refl _, S0⟩ ?_
 rintro M ρ w3 ⟨k, G1, rfl, hp5, rfl, hl2, S4⟩
 have hp2 : 2 ^ k ≤ 2 ^ 41 := Nat.pow_le_pow_right (by omega) (by omega)
 have hps : 2 ^ (k + 1) = 2 * 2 ^ k := by rw [Nat.pow_succ]; omega
 refine W_seq (Wr ?_)
 iterate 4 refine Pv ?_
 refine Td 7 (fun h6 => ?_) (fun h6 => ?_)
 ·iterate 2 (refine Ys ?_; refine Pv ?_)
  refine Pv (T_nil ?_)
  refine Ab (fun h7 => ?_) (fun h7 => ?_)
  ·refine W_skip (W_block (W_region (Pv ?_)))
   refine Ar ?_
   refine Pv (T_nil ?_)
   exact ⟨42 - (k + 1), [(0, .int .i64 n), (3, .int .i64 ((2 ^ (k + 1) : Nat) : Int))], by omega, ⟨ciI, ciI, trivial⟩, k + 1, G1, rfl, (by exact lg_gt (by omega) (by assumption)), rfl, hl2, S4⟩
  refine W_exit (Wr (P2 (T_nil (W_ret ?_))))
  refine ⟨_, ⟨_, _, rfl, rfl, rfl⟩, ?_⟩
  obtain rfl : k = lg n.toNat := lg_of (by omega) (by assumption)
  exact ⟨rfl, S4.below⟩
 iterate 2 refine No ?_
 refine Pv (T_nil ?_)
 refine W_cond_false rfl (W_exit (Wr (P2 (T_nil (W_ret ?_)))))
 refine ⟨_, ⟨_, _, rfl, rfl, rfl⟩, ?_⟩
 obtain rfl : k = lg n.toNat := lg_of (by omega) (by assumption)
 exact ⟨rfl, S4.below⟩


theorem padR_ok {H : Hp} {w : World} (hH : H.le (hw w)) (n : Int) (hn : n ≤ 2199023255552) :
  Calls Tryz.prog 113 #[.int .i64 n] w fun e w' => e = .returned (.int .i64 ((padN n.toNat : Nat) : Int)) ∧ Below w.heap.size w w' := by
 have hlg := lg_le (n := n.toNat) (m := 41) (by show _ ≤ 2199023255552; omega)
 refine Aa Tryz.func113 Tryz.ntmps113 Tryz.results113 ?_
 have S0 := St.start w hH
 refine Wr (Pv (Nr ?_))
 refine Pv (T_nil (W_seq (W_block ?_)))
 refine W_loop (fun M ρ w' => ∃ (k : Nat) (G1 : Hp), M = 42 - k ∧ k ≤ lg n.toNat ∧ ρ = [(0, .int .i64 n), (3, .int .i64 ((2 ^ k : Nat) : Int))] ∧ H.le G1 ∧ St w H G1 [] w')
  (42 - 0) [(0, .int .i64 n), (3, .int .i64 (1 : Int))] ⟨ciI, ciI, trivial⟩ ⟨0, H, rfl, (by exact Nat.zero_le _), rfl, Hp.le.refl _, S0⟩ ?_
 rintro M ρ w3 ⟨k, G1, rfl, hp5, rfl, hl2, S4⟩
 have hp2 : 2 ^ k ≤ 2 ^ 41 := Nat.pow_le_pow_right (by omega) (by omega)
 have hps : 2 ^ (k + 1) = 2 * 2 ^ k := by rw [Nat.pow_succ]; omega
 refine W_seq (Wr ?_)
 iterate 4 refine Pv ?_
 refine Td 7 (fun h6 => ?_) (fun h6 => ?_)
 ·iterate 2 (refine Ys ?_; refine Pv ?_)
  refine Pv (T_nil ?_)
  refine Ab (fun h7 => ?_) (fun h7 => ?_)
  ·refine W_skip (W_block (W_region (Pv ?_)))
   refine Ar ?_
   refine Pv (T_nil ?_)
   exact ⟨42 - (k + 1), [(0, .int .i64 n), (3, .int .i64 ((2 ^ (k + 1) : Nat) : Int))], by omega, ⟨ciI, ciI, trivial⟩, k + 1, G1, rfl, (by exact lg_gt (by omega) (by assumption)), rfl, hl2, S4⟩
  refine W_exit (Wr (P2 (T_nil (W_ret ?_))))
  refine ⟨_, ⟨_, _, rfl, rfl, rfl⟩, ?_⟩
  obtain rfl : k = lg n.toNat := lg_of (by omega) (by assumption)
  exact ⟨rfl, S4.below⟩
 iterate 2 refine No ?_
 refine Pv (T_nil ?_)
 refine W_cond_false rfl (W_exit (Wr (P2 (T_nil (W_ret ?_)))))
 refine ⟨_, ⟨_, _, rfl, rfl, rfl⟩, ?_⟩
 obtain rfl : k = lg n.toNat := lg_of (by omega) (by assumption)
 exact ⟨rfl, S4.below⟩


theorem upR_ok {H : Hp} {w : World} (hH : H.le (hw w)) {l : List (List UInt8)} {aa0 : Option Addr} {nn0 cc0 : Nat} (hv : RdH H (.slice aa0 nn0 cc0) 32 l) (hb : l.length ≤ 100000) :
  Calls Tryz.prog 83 #[.slice aa0 nn0 cc0] w fun e w' => ∃ a c, (l.length / 2) ≤ c ∧ e = .returned (.slice a (l.length / 2) c) ∧ rowZ w' w.heap.size 27 32 (.slice a (l.length / 2) c) (l.length / 2) (hcells (up l)) ∧ Below w.heap.size w w' := by
 obtain rfl : nn0 = l.length := hv.len
 have hvcap : l.length ≤ cc0 := hv.2.capOf
 refine Aa Tryz.func83 Tryz.ntmps83 Tryz.results83 ?_
 have S0 := St.start w hH
 refine Wr (Pv (Nr ?_))
 refine Pv (T_nil (W_seq (Wr ?_)))
 refine Pv (T_nil (W_block ?_))
 have S1 := S0.nilRow 27 32
 refine W_loop (fun M ρ w' => ∃ (k : Nat) (a4 : Option Addr) (c5 : Nat) (G2 : Hp), M = l.length - k ∧ 2 * k ≤ l.length ∧ ρ = [(0, .slice aa0 l.length cc0), (3, .slice a4 k c5), (4, .int .i64 ((2 * k : Nat) : Int))] ∧ H.le G2 ∧ St w H G2 [.row 27 32 (.slice a4 k c5) k (hcells (upTo l k))] w' ∧ (∀ y ∈ upTo l k, y.length = 32) ∧ k ≤ c5)
  (l.length - 0) [(0, .slice aa0 l.length cc0), (3, .slice none 0 0), (4, .int .i64 (0 : Int))] ⟨rfl, rfl, ciI, trivial⟩ ⟨0, none, 0, H, rfl, (by omega), rfl, Hp.le.refl _, S1, (fun _ h => by cases h), (Nat.le_refl _)⟩ ?_
 rintro M ρ w8 ⟨k, a4, c5, G2, rfl, hp10, rfl, hl3, S9, hh7, hc6⟩
 refine W_seq (Wr (Pv ?_))
 refine Ar ?_
 refine P3 (T_nil ?_)
 refine Ab (fun h11 => ?_) (fun h11 => ?_)
 ·refine W_skip (W_seq (W_block (W_draw rfl (by kernel_rfl) ?_)))
  have S12 := S9.drew
  refine P3 ?_
  refine Aj (2 * k) (hv.mono hl3).2 fun b13 o14 hc15 => ?_
  have hc16 := cells_h (hv.mono hl3).1 (2 * k) (by omega) hc15
  have hl17 := len_h (hv.mono hl3).1 (2 * k) (by omega)
  refine T_loadGA _ S12 hc16 rfl rfl rfl rfl rfl rfl rfl rfl (hVs hl17) (P2 ?_)
  refine Ar ?_
  refine Aj ((2 * k) + 1) (hv.mono hl3).2 fun b18 o19 hc20 => ?_
  have hc21 := cells_h (hv.mono hl3).1 ((2 * k) + 1) (by omega) hc20
  have hl22 := len_h (hv.mono hl3).1 ((2 * k) + 1) (by omega)
  refine T_loadGA _ S12 hc21 rfl rfl rfl rfl rfl rfl rfl rfl (hVs hl22) (Cs g_aumbry_aumbryref07_Node ((nodeR_ok S12.le hl17 hl22).mono ?_))
  rintro e w24 ⟨rfl, hB23⟩
  have S25 := S12.call hB23
  refine ⟨_, rfl, trivial, ?_⟩
  refine T_litS (hcells [Go.Au.node (l.getD (2 * k) []) (l.getD ((2 * k) + 1) [])]) rfl rfl rfl rfl rfl rfl rfl rfl rfl rfl rfl rfl rfl (one_h (node_len _ _)) (by simp [hcells, hV, Value.cells]) fun a26 w27 hB28 ho29 => ?_
  have S30 := S25.own hB28 ho29
  refine ⟨trivial, ?_⟩
  have hD31 : (upTo l k ++ [Go.Au.node (l.getD (2 * k) []) (l.getD ((2 * k) + 1) [])]) = upTo l (k + 1) := (upTo_snoc _ _)
  refine Ai (h1 := by exact one_hcells _) (hn' := by first | rfl | (simp; done) | (simp; omega) | omega) (hx' := by rw [← hD31]; simp [hcells_append, hcells]) (hbytes := by show _ * 32 ≤ _; omega) 1 (k + 1) (hcells (upTo l (k + 1))) S30 (S30.rd 0 rfl) fun a32 c33 w34 hc35 S36 => ?_
  have hh37 : ∀ y ∈ upTo l (k + 1), y.length = 32 := by rw [← hD31]; exact (all_app hh7 (all_h1 (node_len _ _)))
  refine Pv (T_nil (W_region ?_))
  refine Pv ?_
  refine Ar ?_
  refine Pv (T_nil ?_)
  have S38 := S36.drop 0
  exact ⟨l.length - (k + 1), [(0, .slice aa0 l.length cc0), (3, .slice a32 (k + 1) c33), (4, .int .i64 ((2 * (k + 1) : Nat) : Int))], by omega, ⟨rfl, rfl, ciI, trivial⟩, k + 1, a32, c33, G2, rfl, (by omega), rfl, hl3, S38, hh37, hc35⟩
 refine W_exit (Wr (P2 (T_nil (W_ret ?_))))
 refine ⟨_, ⟨_, _, rfl, rfl, rfl⟩, ?_⟩
 obtain rfl : k = l.length / 2 := by omega
 exact ⟨_, _, hc6, rfl, S9.row 0 rfl, S9.below⟩


theorem rowR_ok {H : Hp} {w : World} (hH : H.le (hw w)) {l : List (List UInt8)} {aa0 : Option Addr} {nn0 cc0 : Nat} (hv : RdH H (.slice aa0 nn0 cc0) 32 l) (hb : l.length ≤ 100000) :
  Calls Tryz.prog 82 #[.slice aa0 nn0 cc0] w fun e w' => ∃ a c, (l.length + (padN l.length - l.length)) ≤ c ∧ e = .returned (.slice a (l.length + (padN l.length - l.length)) c) ∧ rowZ w' w.heap.size 27 32 (.slice a (l.length + (padN l.length - l.length)) c) (l.length + (padN l.length - l.length)) (hcells (rowP l)) ∧ Below w.heap.size w w' := by
 obtain rfl : nn0 = l.length := hv.len
 have hvcap : l.length ≤ cc0 := hv.2.capOf
 have hpb := padN_lt l.length 17 (by omega)
 have hpl := padN_le l.length
 have htp : (Go.Au.text [112, 97, 100] []).length < 10000 := by decide
 refine Aa Tryz.func82 Tryz.ntmps82 Tryz.results82 ?_
 have S0 := St.start w hH
 refine Wr (Pv (Nr ?_))
 refine Pv ?_
 have S1 := S0.nilRow 27 32
 refine Ai (h1 := by exact one_hcells _) (hn' := by first | rfl | (simp; done) | (simp; omega) | omega) (hx' := by simp [hcells_append, hcells]) (hbytes := by show _ * 32 ≤ _; omega) 0 l.length (hcells l) S1 (hv.2.mono S1.le) fun a2 c3 w4 hc5 S6 => ?_
 refine Pv (T_nil (W_seq (W_block ?_)))
 refine W_loop (fun M ρ w' => ∃ (k : Nat) (a9 : Option Addr) (c10 : Nat) (G7 : Hp), M = padN l.length - k ∧ l.length + k ≤ padN l.length ∧ ρ = [(0, .slice aa0 l.length cc0), (3, .slice a9 (l.length + k) c10)] ∧ H.le G7 ∧ St w H G7 [.row 27 32 (.slice a9 (l.length + k) c10) (l.length + k) (hcells (padTo l k))] w' ∧ (∀ y ∈ padTo l k, y.length = 32) ∧ (l.length + k) ≤ c10)
  (padN l.length - 0) [(0, .slice aa0 l.length cc0), (3, .slice a2 l.length c3)] ⟨rfl, rfl, trivial⟩ ⟨0, a2, c3, H, rfl, (by omega), rfl, Hp.le.refl _, S6, hv.1, hc5⟩ ?_
 rintro M ρ w13 ⟨k, a9, c10, G7, rfl, hp15, rfl, hl8, S14, hh12, hc11⟩
 refine W_seq (Wr ?_)
 iterate 4 refine Pv ?_
 refine Cs g_aumbry_aumbryref07_Pad ((padR_ok S14.le ((l.length : Nat) : Int) (by omega)).mono ?_)
 rintro e w17 ⟨rfl, hB16⟩
 have S18 := S14.call hB16
 refine ⟨_, rfl, trivial, ?_⟩
 refine T_re (v' := .int .i64 ((padN l.length : Nat) : Int)) (by rw [Int.toNat_natCast]) ?_
 refine Pv (T_nil ?_)
 refine Ab (fun h19 => ?_) (fun h19 => ?_)
 ·refine W_skip (W_block (W_region (Pv ?_)))
  refine Cs g_aumbry_aumbryref01_Tagged ((taggedR_ok S18.le (nilS _) (by omega)).mono ?_)
  rintro e w21 ⟨rfl, hB20⟩
  have S22 := S18.call hB20
  refine ⟨_, rfl, trivial, ?_⟩
  refine T_re (v' := hV padH) rfl (T_litS (hcells [padH]) rfl rfl rfl rfl rfl rfl rfl rfl rfl rfl rfl rfl rfl (one_h padH_len) (by simp [hcells, hV, Value.cells]) fun a23 w24 hB25 ho26 => ?_)
  have S27 := S22.own hB25 ho26
  refine ⟨trivial, ?_⟩
  have hD28 : (padTo l k ++ [padH]) = padTo l (k + 1) := rfl
  refine Ai (h1 := by exact one_hcells _) (hn' := by first | rfl | (simp; done) | (simp; omega) | omega) (hx' := by rw [← hD28]; simp [hcells_append, hcells]) (hbytes := by show _ * 32 ≤ _; omega) 1 (l.length + (k + 1)) (hcells (padTo l (k + 1))) S27 (S27.rd 0 rfl) fun a29 c30 w31 hc32 S33 => ?_
  have hh34 : ∀ y ∈ padTo l (k + 1), y.length = 32 := by rw [← hD28]; exact (all_app hh12 (all_h1 padH_len))
  refine Pv (T_nil ?_)
  have S35 := S33.drop 0
  exact ⟨padN l.length - (k + 1), [(0, .slice aa0 l.length cc0), (3, .slice a29 (l.length + (k + 1)) c30)], by omega, ⟨rfl, rfl, trivial⟩, k + 1, a29, c30, G7, rfl, (by omega), rfl, hl8, S35, hh34, hc32⟩
 refine W_exit (Wr (P2 (T_nil (W_ret ?_))))
 refine ⟨_, ⟨_, _, rfl, rfl, rfl⟩, ?_⟩
 obtain rfl : k = padN l.length - l.length := by omega
 exact ⟨_, _, hc11, rfl, S18.row 0 rfl, S18.below⟩


theorem rootR_ok {H : Hp} {w : World} (hH : H.le (hw w)) {l : List (List UInt8)} {aa0 : Option Addr} {nn0 cc0 : Nat} (hv : RdH H (.slice aa0 nn0 cc0) 32 l) (hb : l.length ≤ 1024) :
  Calls Tryz.prog 45 #[.slice aa0 nn0 cc0] w fun e w' => e = .returned (hV (Go.Au.root l)) ∧ Below w.heap.size w w' := by
 obtain rfl : nn0 = l.length := hv.len
 have hvcap : l.length ≤ cc0 := hv.2.capOf
 refine Aa Tryz.func45 Tryz.ntmps45 Tryz.results45 ?_
 have S0 := St.start w hH
 refine Wr (Af S0 fun b1 w2 S3 => (Nr ?_))
 refine Pv ?_
 refine Cs g_aumbry_aumbryref07_row ((rowR_ok S3.le hv (by omega)).mono ?_)
 rintro e w9 ⟨a4, c5, hc6, rfl, ho7, hB8⟩
 have S10 := S3.own hB8 ho7
 refine ⟨_, rfl, trivial, ?_⟩
 refine Pv (T_nil (W_seq (W_block ?_)))
 obtain ⟨G12, hl13, S11, r14⟩ := S10.stillRow 0 rfl
 have r15 := RdH.mk (rowP_all hv.1) (by decide) r14
 refine W_loop (fun M ρ w' => ∃ (k : Nat) (a18 : Option Addr) (nn19 c20 : Nat) (G16 : Hp), M = lg l.length - k ∧ k ≤ lg l.length ∧ ρ = [(2, .pointer (some ⟨b1, 0, none⟩)), (3, .slice a18 nn19 c20)] ∧ G12.le G16 ∧ St w H G16 [.blk b1 (hV (List.replicate 32 0) : Value).cells 27] w' ∧ RdH G16 (.slice a18 nn19 c20) 32 (ups (rowP l) k))
  (lg l.length - 0) [(2, .pointer (some ⟨b1, 0, none⟩)), (3, .slice a4 (l.length + (padN l.length - l.length)) c5)] ⟨rfl, rfl, trivial⟩ ⟨0, _, _, _, G12, rfl, (by exact Nat.zero_le _), rfl, Hp.le.refl _, S11, r15⟩ ?_
 rintro M ρ w22 ⟨k, a18, nn19, c20, G16, rfl, hp24, rfl, hl17, S23, hf21⟩
 obtain rfl : nn19 = (ups (rowP l) k).length := hf21.len
 have hub := ups_bd (k := k) hb (by assumption)
 refine W_seq (Wr (P3 (T_nil ?_)))
 refine Ab (fun h25 => ?_) (fun h25 => ?_)
 ·refine W_skip (W_block (W_region ?_))
  have hkm := ups_more (rowP_len l) (show k ≤ lg l.length by assumption) (by omega)
  refine Pv ?_
  refine Cs g_aumbry_aumbryref07_up ((upR_ok S23.le hf21 (by omega)).mono ?_)
  rintro e w31 ⟨a26, c27, hc28, rfl, ho29, hB30⟩
  have S32 := S23.own hB30 ho29
  refine ⟨_, rfl, trivial, ?_⟩
  refine Pv (T_nil ?_)
  obtain ⟨G34, hl35, S33, r36⟩ := S32.stillRow 0 rfl
  have r37 := RdH.mk (upTo_all _ _) (by decide) r36
  exact ⟨lg l.length - (k + 1), [(2, .pointer (some ⟨b1, 0, none⟩)), (3, .slice a26 ((ups (rowP l) k).length / 2) c27)], by omega, ⟨rfl, rfl, trivial⟩, k + 1, _, _, _, G34, rfl, (by omega), rfl, (hl17.trans hl35), S33, r37⟩
 refine W_exit (Wr ?_)
 have hkd := ups_done (rowP_len l) (show k ≤ lg l.length by assumption) (by omega)
 refine Pv ?_
 refine Aj 0 hf21.2 fun b38 o39 hc40 => ?_
 have hc41 := cells_h hf21.1 0 (by omega) hc40
 have hl42 := len_h hf21.1 0 (by omega)
 refine T_loadGA _ S23 hc41 rfl rfl rfl rfl rfl rfl rfl rfl (hVs hl42) (T_re (v' := hV (Go.Au.root l)) (congrArg (fun q => hV ((ups (rowP l) q).getD 0 [])) hkd) (Ak (hl := by exact hVs (root_len hv.1)) (hl2 := by exact hVs (root_len hv.1)) (h1 := by exact one_hA _) 0 S23 fun w43 S44 => (T_nil (W_ret ?_))))
 refine ⟨_, ⟨_, _, _, rfl, rfl, run_loadVarA rfl rfl (hVs (root_len hv.1)) (S44.cells 0 rfl), rfl⟩, ?_⟩
 exact ⟨rfl, S44.below⟩


theorem rows_ok {H : Hp} {w : World} (hH : H.le (hw w)) (hT : Tabs H) {l : List (List UInt8)} {aa0 : Option Addr} {nn0 cc0 : Nat} (hv : RdH H (.slice aa0 nn0 cc0) 32 l) (hb : l.length ≤ 1024) :
  Calls Tryz.prog 111 #[.slice aa0 nn0 cc0] w fun e w' => ∃ a c, lg l.length + 1 ≤ c ∧ e = .returned (.slice a (lg l.length + 1) c) ∧ RdLH (F.ext H w.heap.size w') (.slice a (lg l.length + 1) c) (levels (rowP l) (lg l.length + 1)) ∧ Below w.heap.size w w' := by
 obtain rfl : nn0 = l.length := hv.len
 have hvcap : l.length ≤ cc0 := hv.2.capOf
 have hpb := padN_lt l.length 17 (by omega)
 have hpl := padN_le l.length
 have htp : (Go.Au.text [112, 97, 100] []).length < 10000 := by decide
 refine Aa Tryz.func111 Tryz.ntmps111 Tryz.results111 ?_
 have S0 := St.start w hH
 refine Wr (Pv (Nr ?_))
 refine Pv ?_
 have S1 := S0.nilRow 27 32
 refine Ai (h1 := by exact one_hcells _) (hn' := by first | rfl | (simp; done) | (simp; omega) | omega) (hx' := by simp [hcells_append, hcells]) (hbytes := by show _ * 32 ≤ _; omega) 0 l.length (hcells l) S1 (hv.2.mono S1.le) fun a2 c3 w4 hc5 S6 => ?_
 refine Pv (T_nil (W_seq (Wr ?_)))
 refine Cs g_aumbry_sha_Tagged ((tagged_ok S6.le hT (nilS _) (by omega)).mono ?_)
 rintro e w8 ⟨rfl, hB7⟩
 have S9 := S6.call hB7
 refine ⟨_, rfl, trivial, ?_⟩
 refine T_re (v' := hV padH) rfl (Af S9 fun b10 w11 S12 => ?_)
 refine Ak (hl := by exact hVs padH_len) (hl2 := by exact hVs padH_len) (h1 := by exact one_hA _) 0 S12 fun w13 S14 => (T_nil (W_block ?_))
 refine W_loop (fun M ρ w' => ∃ (j : Nat) (a17 : Option Addr) (c18 : Nat) (b21 : Nat) (G15 : Hp), M = padN l.length - j ∧ l.length + j ≤ padN l.length ∧ ρ = [(0, .slice aa0 l.length cc0), (3, .slice a17 (l.length + j) c18), (4, .pointer (some ⟨b21, 0, none⟩))] ∧ H.le G15 ∧ St w H G15 [.blk b21 (hV padH : Value).cells 27, .row 27 32 (.slice a17 (l.length + j) c18) (l.length + j) (hcells (padTo l j))] w' ∧ (∀ y ∈ padTo l j, y.length = 32) ∧ (l.length + j) ≤ c18)
  (padN l.length - 0) [(0, .slice aa0 l.length cc0), (3, .slice a2 l.length c3), (4, .pointer (some ⟨b10, 0, none⟩))] ⟨rfl, rfl, rfl, trivial⟩ ⟨0, a2, c3, b10, H, rfl, (by omega), rfl, Hp.le.refl _, S14, hv.1, hc5⟩ ?_
 rintro M ρ w22 ⟨j, a17, c18, b21, G15, rfl, hp24, rfl, hl16, S23, hh20, hc19⟩
 refine W_seq (Wr ?_)
 iterate 4 refine Pv ?_
 refine Cs g_aumbry_tree_Pad ((pad_ok S23.le ((l.length : Nat) : Int) (by omega)).mono ?_)
 rintro e w26 ⟨rfl, hB25⟩
 have S27 := S23.call hB25
 refine ⟨_, rfl, trivial, ?_⟩
 refine T_re (v' := .int .i64 ((padN l.length : Nat) : Int)) (by rw [Int.toNat_natCast]) ?_
 refine Pv (T_nil ?_)
 refine Ab (fun h28 => ?_) (fun h28 => ?_)
 ·refine W_skip (W_seq (W_block (W_region (Pv ?_))))
  refine An (hl := by exact hVs padH_len) 0 S27 ?_
  refine T_litS (hcells [padH]) rfl rfl rfl rfl rfl rfl rfl rfl rfl rfl rfl rfl rfl (one_h padH_len) (by simp [hcells, hV, Value.cells]) fun a29 w30 hB31 ho32 => ?_
  have S33 := S27.own hB31 ho32
  refine ⟨trivial, ?_⟩
  have hD34 : (padTo l j ++ [padH]) = padTo l (j + 1) := rfl
  refine Ai (h1 := by exact one_hcells _) (hn' := by first | rfl | (simp; done) | (simp; omega) | omega) (hx' := by rw [← hD34]; simp [hcells_append, hcells]) (hbytes := by show _ * 32 ≤ _; omega) 2 (l.length + (j + 1)) (hcells (padTo l (j + 1))) S33 (S33.rd 0 rfl) fun a35 c36 w37 hc38 S39 => ?_
  have hh40 : ∀ y ∈ padTo l (j + 1), y.length = 32 := by rw [← hD34]; exact (all_app hh20 (all_h1 padH_len))
  refine Pv (Nr ?_)
  refine An (hl := by exact hVs padH_len) 1 S39 (T_nil (W_region ?_))
  refine Af S39 fun b41 w42 S43 => ?_
  refine Ak (hl := by exact hVs padH_len) (hl2 := by exact hVs padH_len) (h1 := by exact one_hA _) 0 S43 fun w44 S45 => (T_nil ?_)
  have S46 := S45.drop 2
  have S47 := S46.drop 1
  exact ⟨padN l.length - (j + 1), [(0, .slice aa0 l.length cc0), (3, .slice a35 (l.length + (j + 1)) c36), (4, .pointer (some ⟨b41, 0, none⟩))], by omega, ⟨rfl, rfl, rfl, trivial⟩, j + 1, a35, c36, b41, G15, rfl, (by omega), rfl, hl16, S47, hh40, hc38⟩
 refine W_exit (Wr ?_)
 obtain rfl : j = (padN l.length - l.length) := by omega
 refine Pv ?_
 obtain ⟨G53, hl54, S52, r55⟩ := S27.stillRow 1 rfl
 have r56 := RdH.mk hh20 (by decide) r55
 have rs57 : RdsH G53 [.slice a17 (l.length + (padN l.length - l.length)) c18] [padTo l (padN l.length - l.length)] := RdsH.cons r56 (RdsH.nil _)
 refine Ah (hone := by simp [Value.cells]; rfl) [.slice a17 (l.length + (padN l.length - l.length)) c18] fun a48 w49 hB50 ho51 => ?_
 have S58 := S52.own hB50 ho51
 refine ⟨trivial, ?_⟩
 refine Pv (T_nil (W_seq (W_block ?_)))
 refine W_loop (fun M ρ w' => ∃ (k : Nat) (a61 : Option Addr) (nn62 c63 : Nat) (a65 : Option Addr) (c66 : Nat) (hs68 : List Value) (G59 : Hp), M = lg l.length - k ∧ k ≤ lg l.length ∧ ρ = [(3, .slice a61 nn62 c63), (5, .slice a65 (k + 1) c66)] ∧ G53.le G59 ∧ St w H G59 [.row 34 1 (.slice a65 (k + 1) c66) (k + 1) hs68, .blk b21 (hV padH : Value).cells 27] w' ∧ RdH G59 (.slice a61 nn62 c63) 32 (ups (rowP l) k) ∧ RdsH G59 hs68 (levels (rowP l) (k + 1)) ∧ (k + 1) ≤ c66)
  (lg l.length - 0) [(3, .slice a17 (l.length + (padN l.length - l.length)) c18), (5, .slice a48 1 1)] ⟨rfl, rfl, trivial⟩ ⟨0, _, _, _, a48, 1, _, G53, rfl, (by exact Nat.zero_le _), rfl, Hp.le.refl _, S58, r56, rs57, (Nat.le_refl _)⟩ ?_
 rintro M ρ w70 ⟨k, a61, nn62, c63, a65, c66, hs68, G59, rfl, hp72, rfl, hl60, S71, hf64, rs69, hc67⟩
 obtain rfl : nn62 = (ups (rowP l) k).length := hf64.len
 have hub := ups_bd (k := k) hb (by assumption)
 refine W_seq (Wr (P3 (T_nil ?_)))
 refine Ab (fun h73 => ?_) (fun h73 => ?_)
 ·refine W_skip (W_block (Wr (Pv (T_nil (W_seq (Wr ?_))))))
  refine Pv (T_nil (W_block ?_))
  have hkm := ups_more (rowP_len l) (show k ≤ lg l.length by assumption) (by omega)
  have hev := ups_even (rowP_len l) hkm
  have S74 := S71.nilRow 27 32
  refine W_loop (fun M ρ w' => ∃ (m : Nat) (a77 : Option Addr) (c78 : Nat) (hs80 : List Value) (a82 : Option Addr) (c83 : Nat) (G75 : Hp), M = (ups (rowP l) k).length - m ∧ 2 * m ≤ (ups (rowP l) k).length ∧ ρ = [(3, .slice a61 (ups (rowP l) k).length c63), (5, .slice a77 (k + 1) c78), (6, .slice a82 m c83), (7, .int .i64 ((2 * m : Nat) : Int))] ∧ G59.le G75 ∧ St w H G75 [.row 27 32 (.slice a82 m c83) m (hcells (upTo (ups (rowP l) k) m)), .row 34 1 (.slice a77 (k + 1) c78) (k + 1) hs80, .blk b21 (hV padH : Value).cells 27] w' ∧ RdsH G75 hs80 (levels (rowP l) (k + 1)) ∧ (k + 1) ≤ c78 ∧ (∀ y ∈ upTo (ups (rowP l) k) m, y.length = 32) ∧ m ≤ c83)
   ((ups (rowP l) k).length - 0) [(3, .slice a61 (ups (rowP l) k).length c63), (5, .slice a65 (k + 1) c66), (6, .slice none 0 0), (7, .int .i64 (0 : Int))] ⟨rfl, rfl, rfl, ciI, trivial⟩ ⟨0, a65, c66, _, none, 0, G59, rfl, (by omega), rfl, Hp.le.refl _, S74, rs69, hc67, (fun _ h => by cases h), (Nat.le_refl _)⟩ ?_
  rintro M ρ w86 ⟨m, a77, c78, hs80, a82, c83, G75, rfl, hp88, rfl, hl76, S87, rs81, hc79, hh85, hc84⟩
  refine W_seq (Wr ?_)
  iterate 4 refine Pv ?_
  refine T_nil (Ab (fun h89 => ?_) (fun h89 => ?_))
  ·refine W_skip (W_seq (W_block (W_draw rfl (by kernel_rfl) ?_)))
   have S90 := S87.drew
   refine P3 ?_
   refine Aj (2 * m) (hf64.mono hl76).2 fun b91 o92 hc93 => ?_
   have hc94 := cells_h (hf64.mono hl76).1 (2 * m) (by omega) hc93
   have hl95 := len_h (hf64.mono hl76).1 (2 * m) (by omega)
   refine T_loadGA _ S90 hc94 rfl rfl rfl rfl rfl rfl rfl rfl (hVs hl95) (P2 ?_)
   refine Ar ?_
   refine Aj ((2 * m) + 1) (hf64.mono hl76).2 fun b96 o97 hc98 => ?_
   have hc99 := cells_h (hf64.mono hl76).1 ((2 * m) + 1) (by omega) hc98
   have hl100 := len_h (hf64.mono hl76).1 ((2 * m) + 1) (by omega)
   refine T_loadGA _ S90 hc99 rfl rfl rfl rfl rfl rfl rfl rfl (hVs hl100) (Cs g_aumbry_tree_Node ((node_ok S90.le (hT.mono (hl16.trans (hl54.trans (hl60.trans hl76)))) hl95 hl100).mono ?_))
   rintro e w102 ⟨rfl, hB101⟩
   have S103 := S90.call hB101
   refine ⟨_, rfl, trivial, ?_⟩
   refine T_litS (hcells [Go.Au.node ((ups (rowP l) k).getD (2 * m) []) ((ups (rowP l) k).getD ((2 * m) + 1) [])]) rfl rfl rfl rfl rfl rfl rfl rfl rfl rfl rfl rfl rfl (one_h (node_len _ _)) (by simp [hcells, hV, Value.cells]) fun a104 w105 hB106 ho107 => ?_
   have S108 := S103.own hB106 ho107
   refine ⟨trivial, ?_⟩
   have hD109 : (upTo (ups (rowP l) k) m ++ [Go.Au.node ((ups (rowP l) k).getD (2 * m) []) ((ups (rowP l) k).getD ((2 * m) + 1) [])]) = upTo (ups (rowP l) k) (m + 1) := (upTo_snoc _ _)
   refine Ai (h1 := by exact one_hcells _) (hn' := by first | rfl | (simp; done) | (simp; omega) | omega) (hx' := by rw [← hD109]; simp [hcells_append, hcells]) (hbytes := by show _ * 32 ≤ _; omega) 1 (m + 1) (hcells (upTo (ups (rowP l) k) (m + 1))) S108 (S108.rd 0 rfl) fun a110 c111 w112 hc113 S114 => ?_
   have hh115 : ∀ y ∈ upTo (ups (rowP l) k) (m + 1), y.length = 32 := by rw [← hD109]; exact (all_app hh85 (all_h1 (node_len _ _)))
   refine Pv (T_nil (W_region ?_))
   refine Pv ?_
   refine Ar ?_
   refine Pv (T_nil ?_)
   have S116 := S114.drop 0
   exact ⟨(ups (rowP l) k).length - (m + 1), [(3, .slice a61 (ups (rowP l) k).length c63), (5, .slice a77 (k + 1) c78), (6, .slice a110 (m + 1) c111), (7, .int .i64 ((2 * (m + 1) : Nat) : Int))], by omega, ⟨rfl, rfl, rfl, ciI, trivial⟩, m + 1, a77, c78, _, a110, c111, G75, rfl, (by omega), rfl, hl76, S116, rs81, hc79, hh115, hc113⟩
  refine W_exit (Wr ?_)
  obtain rfl : m = (ups (rowP l) k).length / 2 := by omega
  refine P2 (T_nil (W_region ?_))
  refine P2 ?_
  obtain ⟨G122, hl123, S121, r124⟩ := S87.stillRow 0 rfl
  have r125 := RdH.mk hh85 (by decide) r124
  have rs126 : RdsH G122 [.slice a82 ((ups (rowP l) k).length / 2) c83] [upTo (ups (rowP l) k) ((ups (rowP l) k).length / 2)] := RdsH.cons r125 (RdsH.nil _)
  refine Ah (hone := by simp [Value.cells]; rfl) [.slice a82 ((ups (rowP l) k).length / 2) c83] fun a117 w118 hB119 ho120 => ?_
  have S127 := S121.own hB119 ho120
  refine ⟨trivial, ?_⟩
  have hD128 : (levels (rowP l) (k + 1) ++ [upTo (ups (rowP l) k) ((ups (rowP l) k).length / 2)]) = levels (rowP l) (k + 1 + 1) := (levels_snoc (rowP l) (k + 1))
  refine T_appendS 1 (k + 1 + 1) _ S127 (fun _ _ => trivial) rfl rfl rfl rfl rfl rfl rfl rfl rfl rfl rfl rfl rfl rfl (S127.rd 0 rfl) rs126.one (by first | rfl | (simp; done) | (simp; omega) | omega) rfl (by unfold maxLen; have hlg := lg_le (n := l.length) (m := 10) (by omega); omega) (by show _ * 24 ≤ _; have hlg := lg_le (n := l.length) (m := 10) (by omega); omega) fun a129 c130 w131 hc132 S133 => ?_
  have rs134 := RdsH.append (rs81.mono hl123) rs126
  rw [hD128] at rs134
  refine Pv (T_nil ?_)
  have S135 := S133.drop 0
  exact ⟨lg l.length - (k + 1), [(3, .slice a82 ((ups (rowP l) k).length / 2) c83), (5, .slice a129 (k + 1 + 1) c130)], by omega, ⟨rfl, rfl, trivial⟩, k + 1, _, _, _, a129, c130, _, G122, rfl, (by omega), rfl, (hl60.trans (hl76.trans hl123)), S135, r125, rs134, hc132⟩
 refine W_exit (Wr ?_)
 obtain rfl : k = lg l.length := ups_done (rowP_len l) (by assumption) (by omega)
 obtain ⟨G137, hl138, S136, r139⟩ := S71.stillRow 0 rfl
 have r140 := RdLH.mk r139 (rs69.mono hl138)
 refine P2 (T_nil (W_ret ?_))
 refine ⟨_, ⟨_, _, rfl, rfl, rfl⟩, ?_⟩
 exact ⟨_, _, hc67, rfl, (r140).mono S136.fin, S136.below⟩


theorem root_ok {H : Hp} {w : World} (hH : H.le (hw w)) (hT : Tabs H) {l : List (List UInt8)} {aa0 : Option Addr} {nn0 cc0 : Nat} (hv : RdH H (.slice aa0 nn0 cc0) 32 l) (hb : l.length ≤ 1024) :
  Calls Tryz.prog 71 #[.slice aa0 nn0 cc0] w fun e w' => e = .returned (hV (Go.Au.root l)) ∧ Below w.heap.size w w' := by
 obtain rfl : nn0 = l.length := hv.len
 have hvcap : l.length ≤ cc0 := hv.2.capOf
 have hlg := lg_le (n := l.length) (m := 10) (by omega)
 have hla := levels_at (rowP l) (lg l.length)
 have hub := ups_bd (k := lg l.length) hb (Nat.le_refl _)
 have hll := levels_len (rowP l) (lg l.length + 1)
 have hz : 0 < ((levels (rowP l) (lg l.length + 1)).getD (lg l.length) []).length := by rw [hla]; exact hub.2
 refine Aa Tryz.func71 Tryz.ntmps71 Tryz.results71 ?_
 have S0 := St.start w hH
 refine Wr (Af S0 fun b1 w2 S3 => (Nr ?_))
 refine Pv ?_
 refine Cs g_aumbry_tree_rows ((rows_ok S3.le hT hv (by omega)).mono ?_)
 rintro e w9 ⟨a4, c5, hc6, rfl, hr7, hB8⟩
 obtain ⟨G11, eG13⟩ : ∃ G, G = F.ext H w2.heap.size w9 := ⟨_, rfl⟩
 obtain ⟨hl12, S10⟩ := S3.ext hB8
 rw [← eG13] at hl12 S10 hr7
 refine ⟨_, rfl, trivial, ?_⟩
 refine Pv (Nr ?_)
 refine P3 ?_
 refine Ar ?_
 obtain ⟨hs17, r18, r19⟩ := (id hr7)
 refine Aj (lg l.length) r18 fun b14 o15 hc16 => ?_
 obtain ⟨a22, c23, hc25, hv21, r24⟩ := r19.at (lg l.length) (by omega)
 have hc26 := hc16 0 (.slice a22 ((levels (rowP l) (lg l.length + 1)).getD (lg l.length) []).length c23) (by simpa using hv21)
 simp only [Nat.add_zero] at hc26
 refine Ad S10 hc26 ?_
 refine Aj 0 r24.2 fun b27 o28 hc29 => ?_
 have hc30 := cells_h r24.1 0 (by omega) hc29
 have hl31 := len_h r24.1 0 (by omega)
 refine T_loadGA _ S10 hc30 rfl rfl rfl rfl rfl rfl rfl rfl (hVs hl31) (T_re (v' := hV (Go.Au.root l)) (congrArg (fun q : List (List UInt8) => hV (q.getD 0 [])) hla) (Ak (hl := by exact hVs (root_len hv.1)) (hl2 := by exact hVs (root_len hv.1)) (h1 := by exact one_hA _) 0 S10 fun w32 S33 => (T_nil (W_ret ?_))))
 refine ⟨_, ⟨_, _, _, rfl, rfl, run_loadVarA rfl rfl (hVs (root_len hv.1)) (S33.cells 0 rfl), rfl⟩, ?_⟩
 exact ⟨rfl, S33.below⟩


theorem el_lt {l : List (List UInt8)} {n : Nat} (h : ∀ x ∈ l, x.length < n) {k : Nat} (hk : k < l.length) : (l.getD k []).length < n := by
 rw [List.getD_eq_getElem?_getD, List.getElem?_eq_getElem hk]; exact h _ (List.getElem_mem _)
theorem leavesH_all (B : List (List UInt8)) (k : Nat) : ∀ x ∈ leavesH B k, x.length = 32 := by
 intro x hx
 obtain ⟨y, _, rfl⟩ := List.mem_map.1 hx
 exact leafH_len _
theorem leavesR_ok {H : Hp} {w : World} (hH : H.le (hw w)) {B : List (List UInt8)} {aa0 : Option Addr} {nn0 cc0 : Nat} (hv : RdL H (.slice aa0 nn0 cc0) B) (hB : B.length ≤ 100) (hx : ∀ x ∈ B, x.length < 1000) :
  Calls Tryz.prog 78 #[.slice aa0 nn0 cc0] w fun e w' => ∃ a c, B.length ≤ c ∧ e = .returned (.slice a B.length c) ∧ rowZ w' w.heap.size 27 32 (.slice a B.length c) B.length (hcells (leavesH B B.length)) ∧ Below w.heap.size w w' := by
 obtain rfl : nn0 = B.length := hv.len
 refine Aa Tryz.func78 Tryz.ntmps78 Tryz.results78 ?_
 have S0 := St.start w hH
 refine Wr (Pv (Nr ?_))
 refine Pv (T_nil (W_seq (Wr ?_)))
 refine P3 (T_nil (W_block ?_))
 have S1 := S0.nilRow 27 32
 refine W_loop (fun M ρ w' => ∃ (k : Nat) (a4 : Option Addr) (c5 : Nat) (G2 : Hp), M = B.length - k ∧ k ≤ B.length ∧ ρ = [(0, .slice aa0 B.length cc0), (3, .slice a4 k c5), (6, .int .i64 ((B.length : Nat) : Int)), (7, .int .i64 (k : Int))] ∧ H.le G2 ∧ St w H G2 [.row 27 32 (.slice a4 k c5) k (hcells (leavesH B k))] w' ∧ (∀ y ∈ leavesH B k, y.length = 32) ∧ k ≤ c5)
  (B.length - 0) [(0, .slice aa0 B.length cc0), (3, .slice none 0 0), (6, .int .i64 ((B.length : Nat) : Int)), (7, .int .i64 ((0 : Nat) : Int))] ⟨rfl, rfl, ciI, ciI, trivial⟩ ⟨0, none, 0, H, rfl, (by omega), rfl, Hp.le.refl _, S1, (fun _ h => by cases h), (Nat.le_refl _)⟩ ?_
 rintro M ρ w8 ⟨k, a4, c5, G2, rfl, hp10, rfl, hl3, S9, hh7, hc6⟩
 refine Wr (Pv (T_nil (W_seq ?_)))
 refine Ab (fun h11 => ?_) (fun h11 => ?_)
 ·refine W_skip (W_seq (W_block (Wr (P2 (T_nil (W_region ?_))))))
  refine P3 ?_
  obtain ⟨hs15, r16, r17⟩ := (hv.mono hl3)
  refine Aj k r16 fun b12 o13 hc14 => ?_
  obtain ⟨a20, c21, hc23, hv19, r22⟩ := r17.at k (by omega)
  have hc24 := hc14 0 (.slice a20 (B.getD k []).length c21) (by simpa using hv19)
  simp only [Nat.add_zero] at hc24
  refine Ad S9 hc24 ?_
  have hel := el_lt hx (k := k) (by omega)
  refine Cs g_aumbry_aumbryref07_Leaf ((leafR_ok S9.le r22 (by omega)).mono ?_)
  rintro e w26 ⟨rfl, hB25⟩
  have S27 := S9.call hB25
  refine ⟨_, rfl, trivial, ?_⟩
  refine T_litS (hcells [leafH (B.getD k [])]) rfl rfl rfl rfl rfl rfl rfl rfl rfl rfl rfl rfl rfl (one_h (leafH_len _)) (by simp [hcells, hV, Value.cells]) fun a28 w29 hB30 ho31 => ?_
  have S32 := S27.own hB30 ho31
  refine ⟨trivial, ?_⟩
  have hD33 : (leavesH B k ++ [leafH (B.getD k [])]) = leavesH B (k + 1) := (leavesH_snoc (by omega))
  refine Ai (h1 := by exact one_hcells _) (hn' := by first | rfl | (simp; done) | (simp; omega) | omega) (hx' := by rw [← hD33]; simp [hcells_append, hcells]) (hbytes := by show _ * 32 ≤ _; omega) 1 (k + 1) (hcells (leavesH B (k + 1))) S32 (S32.rd 0 rfl) fun a34 c35 w36 hc37 S38 => ?_
  have hh39 : ∀ y ∈ leavesH B (k + 1), y.length = 32 := by rw [← hD33]; exact (all_app hh7 (all_h1 (leafH_len _)))
  refine Pv (T_nil (W_region ?_))
  refine Ar ?_
  refine Pv (T_nil ?_)
  have S40 := S38.drop 0
  exact ⟨B.length - (k + 1), [(0, .slice aa0 B.length cc0), (3, .slice a34 (k + 1) c35), (6, .int .i64 ((B.length : Nat) : Int)), (7, .int .i64 ((k + 1 : Nat) : Int))], by omega, ⟨rfl, rfl, ciI, ciI, trivial⟩, k + 1, a34, c35, G2, rfl, (by omega), rfl, hl3, S40, hh39, hc37⟩
 refine W_exit (Wr (P2 (T_nil (W_ret ?_))))
 refine ⟨_, ⟨_, _, rfl, rfl, rfl⟩, ?_⟩
 obtain rfl : k = B.length := by omega
 exact ⟨_, _, hc6, rfl, S9.row 0 rfl, S9.below⟩


theorem shareLeaf_ok {H : Hp} {w : World} (hH : H.le (hw w)) (hT : Tabs H) (sn : Int) {u : List UInt8} {p B : List (List UInt8)} {a1 a2 a3 : Option Addr} {n1 n2 n3 c1 c2 c3 : Nat} (h1 : Rd H (.slice a1 n1 c1) n1 1 (u.map bV)) (h2 : RdH H (.slice a2 n2 c2) 32 p) (h3 : RdL H (.slice a3 n3 c3) B) (hB : B.length ≤ 100) (HX1 : ∀ x ∈ B, x.length < 1000) :
  Calls Tryz.prog 29 #[.agg #[.int .i64 sn, .slice a1 n1 c1, .slice a2 n2 c2, .slice a3 n3 c3]] w fun e w' => e = .returned (hV (Go.Au.root (leavesH B B.length))) ∧ Below w.heap.size w w' := by
 obtain rfl : n1 = u.length := h1.lenB
 obtain rfl : n2 = p.length := h2.len
 obtain rfl : n3 = B.length := h3.len
 refine Aa Tryz.func29 Tryz.ntmps29 Tryz.results29 ?_
 have S0 := St.start w hH
 refine Wr (Ao S0 fun b1 w2 S3 => ?_)
 refine Af S3 fun b4 w5 S6 => (Nr ?_)
 refine Pv (T_nil (W_seq (Wr ?_)))
 refine Fl 3 ?_
 refine Ap 1 3 S6 rfl ?_
 refine P2 (T_nil (W_block ?_))
 have S7 := S6.nilRow 27 32
 refine W_loop (fun M ρ w' => ∃ (k : Nat) (a10 : Option Addr) (c11 : Nat) (G8 : Hp), M = B.length - k ∧ k ≤ B.length ∧ ρ = [(2, .pointer (some ⟨b4, 0, none⟩)), (3, .slice a10 k c11), (7, .slice a3 B.length c3), (8, .int .i64 ((B.length : Nat) : Int)), (9, .int .i64 (k : Int))] ∧ H.le G8 ∧ St w H G8 [.row 27 32 (.slice a10 k c11) k (hcells (leavesH B k)), .blk b4 (hV (List.replicate 32 0) : Value).cells 27, .blk b1 (.agg #[.int .i64 sn, .slice a1 u.length c1, .slice a2 p.length c2, .slice a3 B.length c3] : Value).cells 37] w' ∧ (∀ y ∈ leavesH B k, y.length = 32) ∧ k ≤ c11)
  (B.length - 0) [(2, .pointer (some ⟨b4, 0, none⟩)), (3, .slice none 0 0), (7, .slice a3 B.length c3), (8, .int .i64 ((B.length : Nat) : Int)), (9, .int .i64 ((0 : Nat) : Int))] ⟨rfl, rfl, rfl, ciI, ciI, trivial⟩ ⟨0, none, 0, H, rfl, (by omega), rfl, Hp.le.refl _, S7, (fun _ h => by cases h), (Nat.le_refl _)⟩ ?_
 rintro M ρ w14 ⟨k, a10, c11, G8, rfl, hp16, rfl, hl9, S15, hh13, hc12⟩
 refine Wr (Pv (T_nil (W_seq ?_)))
 refine Ab (fun h17 => ?_) (fun h17 => ?_)
 ·refine W_skip (W_seq (W_block (Wr ?_)))
  obtain ⟨hs21, r22, r23⟩ := (h3.mono hl9)
  refine Aj k r22 fun b18 o19 hc20 => ?_
  obtain ⟨a26, c27, hc29, hv25, r28⟩ := r23.at k (by omega)
  have hc30 := hc20 0 (.slice a26 (B.getD k []).length c27) (by simpa using hv25)
  simp only [Nat.add_zero] at hc30
  refine Ad S15 hc30 ?_
  refine Pv (T_nil (W_region ?_))
  refine P2 ?_
  have hel := el_lt HX1 (k := k) (by omega)
  refine Cs g_aumbry_tree_Leaf ((leaf_ok S15.le (hT.mono hl9) r28 (by omega)).mono ?_)
  rintro e w32 ⟨rfl, hB31⟩
  have S33 := S15.call hB31
  refine ⟨_, rfl, trivial, ?_⟩
  refine T_litS (hcells [leafH (B.getD k [])]) rfl rfl rfl rfl rfl rfl rfl rfl rfl rfl rfl rfl rfl (one_h (leafH_len _)) (by simp [hcells, hV, Value.cells]) fun a34 w35 hB36 ho37 => ?_
  have S38 := S33.own hB36 ho37
  refine ⟨trivial, ?_⟩
  have hD39 : (leavesH B k ++ [leafH (B.getD k [])]) = leavesH B (k + 1) := (leavesH_snoc (by omega))
  refine Ai (h1 := by exact one_hcells _) (hn' := by first | rfl | (simp; done) | (simp; omega) | omega) (hx' := by rw [← hD39]; simp [hcells_append, hcells]) (hbytes := by show _ * 32 ≤ _; omega) 1 (k + 1) (hcells (leavesH B (k + 1))) S38 (S38.rd 0 rfl) fun a40 c41 w42 hc43 S44 => ?_
  have hh45 : ∀ y ∈ leavesH B (k + 1), y.length = 32 := by rw [← hD39]; exact (all_app hh13 (all_h1 (leafH_len _)))
  refine Pv (T_nil (W_region ?_))
  refine Ar ?_
  refine Pv (T_nil ?_)
  have S46 := S44.drop 0
  exact ⟨B.length - (k + 1), [(2, .pointer (some ⟨b4, 0, none⟩)), (3, .slice a40 (k + 1) c41), (7, .slice a3 B.length c3), (8, .int .i64 ((B.length : Nat) : Int)), (9, .int .i64 ((k + 1 : Nat) : Int))], by omega, ⟨rfl, rfl, rfl, ciI, ciI, trivial⟩, k + 1, a40, c41, G8, rfl, (by omega), rfl, hl9, S46, hh45, hc43⟩
 refine W_exit (Wr ?_)
 have hll : (leavesH B k).length ≤ 100 := by rw [show k = B.length by omega, leavesH_len]; omega
 refine Pv ?_
 obtain ⟨G48, hl49, S47, r50⟩ := S15.stillRow 0 rfl
 have r51 := RdH.mk hh13 (by decide) r50
 refine Cs g_aumbry_tree_Root ((root_ok S47.le (hT.mono (hl9.trans hl49)) r51 (by omega)).mono ?_)
 rintro e w53 ⟨rfl, hB52⟩
 have S54 := S47.call hB52
 refine ⟨_, rfl, trivial, ?_⟩
 refine T_re (v' := hV (Go.Au.root (leavesH B B.length))) (congrArg (fun q => hV (Go.Au.root (leavesH B q))) (show k = B.length by omega)) ?_
 refine Ak (hl := by exact hVs (root_len (leavesH_all _ _))) (hl2 := by exact hVs (root_len (leavesH_all _ _))) (h1 := by exact one_hA _) 0 S54 fun w55 S56 => (T_nil (W_ret ?_))
 refine ⟨_, ⟨_, _, _, rfl, rfl, run_loadVarA rfl rfl (hVs (root_len (leavesH_all _ _))) (S56.cells 0 rfl), rfl⟩, ?_⟩
 exact ⟨rfl, S56.below⟩


theorem shareLeafR_ok {H : Hp} {w : World} (hH : H.le (hw w)) (sn : Int) {u : List UInt8} {p B : List (List UInt8)} {a1 a2 a3 : Option Addr} {n1 n2 n3 c1 c2 c3 : Nat} (h1 : Rd H (.slice a1 n1 c1) n1 1 (u.map bV)) (h2 : RdH H (.slice a2 n2 c2) 32 p) (h3 : RdL H (.slice a3 n3 c3) B) (hB : B.length ≤ 100) (HX1 : ∀ x ∈ B, x.length < 1000) :
  Calls Tryz.prog 37 #[.agg #[.int .i64 sn, .slice a1 n1 c1, .slice a2 n2 c2, .slice a3 n3 c3]] w fun e w' => e = .returned (hV (Go.Au.root (leavesH B B.length))) ∧ Below w.heap.size w w' := by
 obtain rfl : n1 = u.length := h1.lenB
 obtain rfl : n2 = p.length := h2.len
 obtain rfl : n3 = B.length := h3.len
 have hll : (leavesH B B.length).length ≤ 100 := by rw [leavesH_len]; omega
 refine Aa Tryz.func37 Tryz.ntmps37 Tryz.results37 ?_
 have S0 := St.start w hH
 refine Wr (Ao S0 fun b1 w2 S3 => ?_)
 refine Af S3 fun b4 w5 S6 => (Nr ?_)
 refine Fl 3 ?_
 refine Ap 1 3 S6 rfl ?_
 refine Cs g_aumbry_aumbryref13_leaves ((leavesR_ok S6.le h3 (by omega) HX1).mono ?_)
 rintro e w12 ⟨a7, c8, hc9, rfl, ho10, hB11⟩
 have S13 := S6.own hB11 ho10
 refine ⟨_, rfl, trivial, ?_⟩
 obtain ⟨G15, hl16, S14, r17⟩ := S13.stillRow 0 rfl
 have r18 := RdH.mk (leavesH_all _ _) (by decide) r17
 refine Cs g_aumbry_aumbryref07_Root ((rootR_ok S14.le r18 (by omega)).mono ?_)
 rintro e w20 ⟨rfl, hB19⟩
 have S21 := S14.call hB19
 refine ⟨_, rfl, trivial, ?_⟩
 refine Ak (hl := by exact hVs (root_len r18.1)) (hl2 := by exact hVs (root_len r18.1)) (h1 := by exact one_hA _) 0 S21 fun w22 S23 => (T_nil (W_ret ?_))
 refine ⟨_, ⟨_, _, _, rfl, rfl, run_loadVarA rfl rfl (hVs (root_len r18.1)) (S23.cells 0 rfl), rfl⟩, ?_⟩
 exact ⟨rfl, S23.below⟩






end Go.Proofs.YtmjmjjkigblbgaaGreatDoor
namespace Go.Proofs.YtmjmjjkigblbgaaGreatDoor
open Go Go.F Go.RowKit

theorem bleavesR_ok {H : Hp} {w : World} (hH : H.le (hw w)) {B : List (List UInt8)} {aa0 : Option Addr} {nn0 cc0 : Nat} (hv : RdL H (.slice aa0 nn0 cc0) B) (hB : B.length ≤ 100) (HX1 : ∀ x ∈ B, x.length < 1000) :
  Calls Tryz.prog 44 #[.slice aa0 nn0 cc0] w fun e w' => ∃ a c, B.length ≤ c ∧ e = .returned (.slice a B.length c) ∧ rowZ w' w.heap.size 27 32 (.slice a B.length c) B.length (hcells (Go.Au.leavesH B B.length)) ∧ Below w.heap.size w w' := by
 obtain rfl : nn0 = B.length := hv.len
 refine Aa Tryz.func44 Tryz.ntmps44 Tryz.results44 ?_
 have S0 := St.start w hH
 refine Wr (Pv (Nr ?_))
 refine Pv ?_
 refine Cs g_aumbry_aumbryref13_leaves ((leavesR_ok S0.le hv (by omega) HX1).mono ?_)
 rintro e w6 ⟨a1, c2, hc3, rfl, ho4, hB5⟩
 have S7 := S0.own hB5 ho4
 refine ⟨_, rfl, trivial, ?_⟩
 refine Pv (T_nil (W_ret ?_))
 refine ⟨_, ⟨_, _, rfl, rfl, rfl⟩, ?_⟩
 exact ⟨_, _, hc3, rfl, S7.row 0 rfl, S7.below⟩

end Go.Proofs.YtmjmjjkigblbgaaGreatDoor
namespace Go.Proofs.YtmjmjjkigblbgaaGreatDoor
open Go Go.F Go.RowKit
open Go.Au hiding beside

theorem half_int (i k : Nat) : ((i / 2 ^ k : Nat) : Int) / ((2 : Int)) = ((i / 2 ^ (k + 1) : Nat) : Int) := by rw [← half_succ]; omega
theorem xor1 {n : Nat} (h : n < 1024) : bits .xor .i64 ((n : Nat) : Int) 1 = ((sib n : Nat) : Int) := by
 have key : ∀ q : Fin 1024, bits .xor .i64 (q.val : Int) 1 = ((sib q.val : Nat) : Int) := by decide +kernel
 exact key ⟨n, h⟩
theorem proofR_ok {H : Hp} {w : World} (hH : H.le (hw w)) (i : Int) {l : List (List UInt8)} {aa1 : Option Addr} {nn1 cc1 : Nat} (hv : RdH H (.slice aa1 nn1 cc1) 32 l) (hb : l.length ≤ 1024) (hi : 0 ≤ i ∧ i < l.length) :
  Calls Tryz.prog 48 #[.int .i64 i, .slice aa1 nn1 cc1] w fun e w' => ∃ a c, (lg l.length) ≤ c ∧ e = .returned (.slice a (lg l.length) c) ∧ rowZ w' w.heap.size 27 32 (.slice a (lg l.length) c) (lg l.length) (hcells (Go.Au.beside (rowP l) i.toNat (lg l.length))) ∧ Below w.heap.size w w' := by
 obtain rfl : nn1 = l.length := hv.len
 have hvcap : l.length ≤ cc1 := hv.2.capOf
 have hlg := lg_le (n := l.length) (m := 10) (by omega)
 have hpl := padN_le l.length
 have hll := levels_len (rowP l) (lg l.length + 1)
 refine enter2 _ Tryz.func48 rfl Tryz.ntmps48 Tryz.results48 rfl ?_
 have S0 := St.start w hH
 refine Wr (Pv (Nr ?_))
 refine Pv (T_nil (W_seq (Wr ?_)))
 refine Pv ?_
 refine Cs g_aumbry_aumbryref07_row ((rowR_ok S0.le hv (by omega)).mono ?_)
 rintro e w6 ⟨a1, c2, hc3, rfl, ho4, hB5⟩
 have S7 := S0.own hB5 ho4
 refine ⟨_, rfl, trivial, ?_⟩
 refine Pv (T_nil (W_block ?_))
 obtain ⟨G9, hl10, S8, r11⟩ := S7.stillRow 0 rfl
 have r12 := RdH.mk (rowP_all hv.1) (by decide) r11
 have S13 := S8.nilRow 27 32
 refine W_loop (fun M ρ w' => ∃ (k : Nat) (a16 : Option Addr) (c17 : Nat) (a20 : Option Addr) (nn21 c22 : Nat) (G14 : Hp), M = lg l.length - k ∧ k ≤ lg l.length ∧ ρ = [(0, .int .i64 ((i.toNat / 2 ^ k : Nat) : Int)), (5, .slice a16 k c17), (6, .slice a20 nn21 c22)] ∧ G9.le G14 ∧ St w H G14 [.row 27 32 (.slice a16 k c17) k (hcells (Go.Au.beside (rowP l) i.toNat k))] w' ∧ (∀ y ∈ Go.Au.beside (rowP l) i.toNat k, y.length = 32) ∧ k ≤ c17 ∧ RdH G14 (.slice a20 nn21 c22) 32 (ups (rowP l) k))
  (lg l.length - 0) [(0, .int .i64 ((i.toNat / 2 ^ 0 : Nat) : Int)), (5, .slice none 0 0), (6, .slice a1 (l.length + (padN l.length - l.length)) c2)] ⟨ciI, rfl, rfl, trivial⟩ ⟨0, none, 0, _, _, _, G9, rfl, (by exact Nat.zero_le _), rfl, Hp.le.refl _, S13, (fun _ h => by cases h), (Nat.le_refl _), r12⟩ ?_
 rintro M ρ w24 ⟨k, a16, c17, a20, nn21, c22, G14, rfl, hp26, rfl, hl15, S25, hh19, hc18, hf23⟩
 obtain rfl : nn21 = (ups (rowP l) k).length := hf23.len
 have hub := ups_bd (k := k) hb (by assumption)
 refine W_seq (Wr (P3 (T_nil ?_)))
 refine Ab (fun h27 => ?_) (fun h27 => ?_)
 ·refine W_skip (W_seq (W_block (Wr ?_)))
  have hkm := ups_more (rowP_len l) (show k ≤ lg l.length by assumption) (by omega)
  have hul := ups_len (rowP_len l) k (by omega)
  have hhl := half_lt (k := k) (m := lg l.length) (i := i.toNat) (by have := lg_up l.length; omega) (by omega)
  have hnn := Int.natCast_nonneg (i.toNat / 2 ^ k)
  have hev := ups_even (rowP_len l) (show k < lg l.length by omega)
  have hsl := sib_lt hev (i := i.toNat / 2 ^ k) (by omega)
  iterate 4 refine Pv ?_
  refine T_re (v' := .int .i64 ((sib (i.toNat / 2 ^ k) : Nat) : Int)) (congrArg (Value.int .i64) (xor1 (by omega))) ?_
  refine Aj (sib (i.toNat / 2 ^ k)) hf23.2 fun b28 o29 hc30 => ?_
  have hc31 := cells_h hf23.1 (sib (i.toNat / 2 ^ k)) (by omega) hc30
  have hl32 := len_h hf23.1 (sib (i.toNat / 2 ^ k)) (by omega)
  refine T_loadGA _ S25 hc31 rfl rfl rfl rfl rfl rfl rfl rfl (hVs hl32) (T_litS (hcells [(ups (rowP l) k).getD (sib (i.toNat / 2 ^ k)) []]) rfl rfl rfl rfl rfl rfl rfl rfl rfl rfl rfl rfl rfl (one_h hl32) (by simp [hcells, hV, Value.cells]) fun a33 w34 hB35 ho36 => ?_)
  have S37 := S25.own hB35 ho36
  refine ⟨trivial, ?_⟩
  have hD38 : (Go.Au.beside (rowP l) i.toNat k ++ [(ups (rowP l) k).getD (sib (i.toNat / 2 ^ k)) []]) = Go.Au.beside (rowP l) i.toNat (k + 1) := (beside_snoc _ _ _)
  refine Ai (h1 := by exact one_hcells _) (hn' := by first | rfl | (simp; done) | (simp; omega) | omega) (hx' := by rw [← hD38]; simp [hcells_append, hcells]) (hbytes := by show _ * 32 ≤ _; omega) 1 (k + 1) (hcells (Go.Au.beside (rowP l) i.toNat (k + 1))) S37 (S37.rd 0 rfl) fun a39 c40 w41 hc42 S43 => ?_
  have hh44 : ∀ y ∈ Go.Au.beside (rowP l) i.toNat (k + 1), y.length = 32 := by rw [← hD38]; exact (all_app hh19 (all_h1 hl32))
  refine Pv (T_nil (W_region ?_))
  refine Pv ?_
  refine T_quo rfl rfl rfl rfl rfl rfl (by omega) ?_
  refine T_re (v' := .int .i64 ((i.toNat / 2 ^ (k + 1) : Nat) : Int)) (congrArg (Value.int .i64) (half_int _ _)) (Pv (T_nil (W_region ?_)))
  refine Pv ?_
  refine Cs g_aumbry_aumbryref07_up ((upR_ok S43.le hf23 (by omega)).mono ?_)
  rintro e w50 ⟨a45, c46, hc47, rfl, ho48, hB49⟩
  have S51 := S43.own hB49 ho48
  refine ⟨_, rfl, trivial, ?_⟩
  refine Pv (T_nil ?_)
  obtain ⟨G53, hl54, S52, r55⟩ := S51.stillRow 0 rfl
  have r56 := RdH.mk (upTo_all _ _) (by decide) r55
  have S57 := S52.drop 0
  exact ⟨lg l.length - (k + 1), [(0, .int .i64 ((i.toNat / 2 ^ (k + 1) : Nat) : Int)), (5, .slice a39 (k + 1) c40), (6, .slice a45 ((ups (rowP l) k).length / 2) c46)], by omega, ⟨ciI, rfl, rfl, trivial⟩, k + 1, a39, c40, _, _, _, G53, rfl, (by omega), rfl, (hl15.trans hl54), S57, hh44, hc42, r56⟩
 refine W_exit (Wr ?_)
 obtain hkd := ups_done (rowP_len l) (show k ≤ lg l.length by assumption) (by omega)
 refine P2 (T_nil (W_ret ?_))
 refine ⟨_, ⟨_, _, rfl, rfl, rfl⟩, ?_⟩
 subst hkd
 exact ⟨_, _, hc18, rfl, S25.row 0 rfl, S25.below⟩

end Go.Proofs.YtmjmjjkigblbgaaGreatDoor
namespace Go.Proofs.YtmjmjjkigblbgaaGreatDoor
open Go Go.F Go.RowKit
open Go.Au hiding step_len

theorem segs_ok {H : Hp} {w : World} (hH : H.le (hw w)) {l : List UInt8} {aa0 : Option Addr} {nn0 cc0 : Nat} (hv : Rd H (.slice aa0 nn0 cc0) nn0 1 (l.map bV)) (hl : l.length ≤ 1000) :
  Calls Tryz.prog 98 #[.slice aa0 nn0 cc0] w fun e w' => ∃ a c SG, e = .returned (.slice a SG.length c) ∧ RdL (F.ext H w.heap.size w') (.slice a SG.length c) SG ∧ SG.length = ((l.length + 63) / 64) ∧ (∀ t, t < SG.length → (SG.getD t []).length = min (l.length - 64 * t) 64) ∧ Below w.heap.size w w' := by
 obtain rfl : nn0 = l.length := hv.lenB
 have hvcap : l.length ≤ cc0 := hv.capOf
 refine Aa Tryz.func98 Tryz.ntmps98 Tryz.results98 ?_
 have S0 := St.start w hH
 refine Wr (Pv (Nr ?_))
 refine Pv (T_nil (W_seq (Wr ?_)))
 refine Pv (T_nil (W_block ?_))
 have S1 := S0.nilRow 24 1
 have rs2 := Rds.nil H
 refine W_loop (fun M ρ w' => ∃ (j : Nat) (SG : List (List UInt8)) (a5 : Option Addr) (c6 : Nat) (hs8 : List Value) (G3 : Hp), M = ((l.length + 63) / 64) - j ∧ j ≤ ((l.length + 63) / 64) ∧ SG.length = j ∧ ((∀ t, t < j → (SG.getD t []).length = min (l.length - 64 * t) 64)) ∧ ρ = [(0, .slice aa0 l.length cc0), (3, .slice a5 j c6), (4, .int .i64 ((64 * j : Nat) : Int))] ∧ H.le G3 ∧ St w H G3 [.row 24 1 (.slice a5 j c6) j hs8] w' ∧ Rds G3 hs8 SG ∧ j ≤ c6)
  (((l.length + 63) / 64) - 0) [(0, .slice aa0 l.length cc0), (3, .slice none 0 0), (4, .int .i64 ((64 * 0 : Nat) : Int))] ⟨rfl, rfl, ciI, trivial⟩ ⟨0, [], none, 0, _, H, rfl, (by exact Nat.zero_le _), (by rfl), (by exact fun t h => absurd h (Nat.not_lt_zero t)), rfl, Hp.le.refl _, S1, rs2, (Nat.le_refl _)⟩ ?_
 rintro M ρ w10 ⟨j, SG, a5, c6, hs8, G3, rfl, hp12, hsl, hsx, rfl, hl4, S11, rs9, hc7⟩
 refine W_seq (Wr ?_)
 iterate 4 refine Pv ?_
 refine T_nil (Ab (fun h15 => ?_) (fun h15 => ?_))
 ·refine W_skip (W_seq (W_block (W_region ?_)))
  iterate 6 refine Pv ?_
  refine Ar ?_
  refine Pv ?_
  refine T_sliceR (64 * j) (min l.length ((64 * j) + 64)) (hv.mono hl4) rfl rfl rfl rfl rfl rfl rfl rfl rfl rfl (bound_of (by omega)) (bound_of (by omega)) (by omega) (by omega) fun a16 c17 hc18 r19 => ?_
  have r20 := Rd.cutB r19
  have rs25 : Rds G3 [.slice a16 ((min l.length ((64 * j) + 64)) - (64 * j)) c17] [((l.drop (64 * j)).take ((min l.length ((64 * j) + 64)) - (64 * j)))] := Rds.cons (Rd.canonB r20) (Rds.nil _)
  refine Ah (hone := by simp [Value.cells]; rfl) [.slice a16 ((min l.length ((64 * j) + 64)) - (64 * j)) c17] fun a21 w22 hB23 ho24 => ?_
  have S26 := S11.own hB23 ho24
  refine ⟨trivial, ?_⟩
  refine T_appendS 1 (j + 1) _ S26 (fun _ _ => trivial) rfl rfl rfl rfl rfl rfl rfl rfl rfl rfl rfl rfl rfl rfl (S26.rd 0 rfl) rs25.one (by first | rfl | (simp; done) | (simp; omega) | omega) rfl (by unfold maxLen; omega) (by show _ * 24 ≤ _; omega) fun a27 c28 w29 hc30 S31 => ?_
  have rs32 := Rds.append rs9 rs25
  refine Pv (T_nil (W_region ?_))
  refine Pv ?_
  refine Ar ?_
  refine Pv (T_nil ?_)
  have S33 := S31.drop 0
  exact ⟨((l.length + 63) / 64) - (j + 1), [(0, .slice aa0 l.length cc0), (3, .slice a27 (j + 1) c28), (4, .int .i64 ((64 * (j + 1) : Nat) : Int))], by omega, ⟨rfl, rfl, ciI, trivial⟩, j + 1, (SG ++ [((l.drop (64 * j)).take ((min l.length ((64 * j) + 64)) - (64 * j)))]), a27, c28, _, G3, rfl, (by omega), (by rw [List.length_append, hsl]; rfl), (by exact seg_step hsl hsx (by simp only [List.length_take, List.length_drop]; omega)), rfl, hl4, S33, rs32, hc30⟩
 refine W_exit (Wr (P2 (T_nil (W_ret ?_))))
 refine ⟨_, ⟨_, _, rfl, rfl, rfl⟩, ?_⟩
 obtain rfl : SG.length = j := hsl
 obtain ⟨G35, hl36, S34, r37⟩ := S11.stillRow 0 rfl
 have r38 := RdL.mk r37 (rs9.mono hl36)
 exact ⟨_, _, SG, rfl, (r38).mono S34.fin, by omega, hsx, S34.below⟩


theorem crypt_ok {H : Hp} {w : World} (hH : H.le (hw w)) {l : List UInt8} {aa0 : Option Addr} {nn0 cc0 : Nat} (hv : Rd H (.slice aa0 nn0 cc0) nn0 1 (l.map bV)) (hl : l.length ≤ 1000) :
  Calls Tryz.prog 99 #[.slice aa0 nn0 cc0] w fun e w' => ∃ h : List UInt8, h.length = 32 ∧ e = .returned (hV h) ∧ Below w.heap.size w w' := by
 obtain rfl : nn0 = l.length := hv.lenB
 have hvcap : l.length ≤ cc0 := hv.capOf
 refine Aa Tryz.func99 Tryz.ntmps99 Tryz.results99 ?_
 have S0 := St.start w hH
 refine Wr (Af S0 fun b1 w2 S3 => (Nr ?_))
 refine Pv ?_
 refine Cs g_aumbry_aumbryref18_segments ((segs_ok S3.le hv (by omega)).mono ?_)
 rintro e w8 ⟨a4, c5, SG, rfl, r6, hsl, hsx, hB7⟩
 obtain ⟨G10, eG12⟩ : ∃ G, G = F.ext H w2.heap.size w8 := ⟨_, rfl⟩
 obtain ⟨hl11, S9⟩ := S3.ext hB7
 rw [← eG12] at hl11 S9 r6
 refine ⟨_, rfl, trivial, ?_⟩
 have HX1 : ∀ x ∈ SG, x.length < 1000 := seg_lt hsl hsx
 refine Cs g_aumbry_aumbryref13_Leaves ((bleavesR_ok S9.le r6 (by omega) HX1).mono ?_)
 rintro e w18 ⟨a13, c14, hc15, rfl, ho16, hB17⟩
 have S19 := S9.own hB17 ho16
 refine ⟨_, rfl, trivial, ?_⟩
 have hlv : (leavesH SG SG.length).length = SG.length := leavesH_len _
 obtain ⟨G21, hl22, S20, r23⟩ := S19.stillRow 0 rfl
 have r24 := RdH.mk (leavesH_all _ _) (by decide) r23
 refine Cs g_aumbry_aumbryref07_Root ((rootR_ok S20.le r24 (by omega)).mono ?_)
 rintro e w26 ⟨rfl, hB25⟩
 have S27 := S20.call hB25
 refine ⟨_, rfl, trivial, ?_⟩
 refine Ak (hl := by exact hVs (root_len r24.1)) (hl2 := by exact hVs (root_len r24.1)) (h1 := by exact one_hA _) 0 S27 fun w28 S29 => (T_nil (W_ret ?_))
 refine ⟨_, ⟨_, _, _, rfl, rfl, run_loadVarA rfl rfl (hVs (root_len r24.1)) (S29.cells 0 rfl), rfl⟩, ?_⟩
 exact ⟨_, root_len (leavesH_all _ _), rfl, S29.below⟩


set_option maxHeartbeats 2000000 in
theorem shares_ok {H : Hp} {w : World} (hH : H.le (hw w)) {l : List UInt8} {aa0 : Option Addr} {nn0 cc0 : Nat} (hv : Rd H (.slice aa0 nn0 cc0) nn0 1 (l.map bV)) (k n : Nat) (hl : 1 ≤ l.length ∧ l.length ≤ 200) (hk : 1 ≤ k ∧ k ≤ 5) (hn : k ≤ n ∧ n ≤ 5) :
  Calls Tryz.prog 59 #[.slice aa0 nn0 cc0, .int .i64 ((k : Nat) : Int), .int .i64 ((n : Nat) : Int)] w fun e w' => ∃ a c E ch, e = .returned (.tuple #[.slice a n c, qV ((k : Nat) : Int) ((n : Nat) : Int) ((l.length : Nat) : Int) 64 ch (Go.Au.root (tab n fun p => Go.Au.root (leavesH (blk E p) (blk E p).length)))]) ∧ ch.length = 32 ∧ RdSh (F.ext H w.heap.size w') (.slice a n c) n (packU ((k : Nat) : Int) ((n : Nat) : Int) ((l.length : Nat) : Int) 64 ch (Go.Au.root (tab n fun p => Go.Au.root (leavesH (blk E p) (blk E p).length)))) (fun p => Go.Au.beside (rowP (tab n fun p => Go.Au.root (leavesH (blk E p) (blk E p).length))) p (lg (tab n fun p => Go.Au.root (leavesH (blk E p) (blk E p).length)).length)) (blk E) ∧ EOK k n l.length E ∧ Below w.heap.size w w' := by
 obtain rfl : nn0 = l.length := hv.lenB
 have hvcap : l.length ≤ cc0 := hv.capOf
 refine enter3 _ Tryz.func59 rfl Tryz.ntmps59 Tryz.results59 rfl ?_
 have S0 := St.start w hH
 refine Wr (Pv ?_)
 refine Af S0 fun b51 w52 S53 => (Nr ?_)
 refine Pv ?_
 refine T_makeS n S53 (fun _ _ => trivial) rfl rfl rfl rfl rfl rfl rfl rfl rfl rfl (by omega) (by omega) (by show 80 * _ ≤ _; omega) (by unfold maxLen; omega) fun b54 w55 S56 => ?_
 have S57 := S56.toRow (size := 4) (m := n) (xs := shrC n (numF 0 0) nilF nilF nilF) 0 rfl (made_sh rfl) shrC_len (by unfold maxLen; omega)
 have S58 := S57.nilRowsP (p := [.row 37 4 (.slice (some ⟨b54, 0, none⟩) n n) n (shrC n (numF 0 0) nilF nilF nilF), .blk b51 (qV 0 0 0 0 (List.replicate 32 0) (List.replicate 32 0) : Value).cells 39]) (its := []) 24 n
 refine Pv (Nr ?_)
 refine Pv ?_
 refine Cs g_aumbry_aumbryref18_segments ((segs_ok S58.le hv (by omega)).mono ?_)
 rintro e w63 ⟨a59, c60, SG, rfl, r61, hsl, hsx, hB62⟩
 obtain ⟨G65, eG67⟩ : ∃ G, G = F.ext H w55.heap.size w63 := ⟨_, rfl⟩
 obtain ⟨hl66, S64⟩ := S58.ext hB62
 rw [← eG67] at hl66 S64 r61
 refine ⟨_, rfl, trivial, ?_⟩
 refine Pv (T_nil (W_seq (Wr ?_)))
 refine P3 (T_nil (W_block ?_))
 refine W_loop (fun M ρ w' => ∃ (j : Nat) (b : Nat → Value) (c : Nat → List Value) (E : List (List (List UInt8))) (G68 : Hp), M = SG.length - j ∧ j ≤ SG.length ∧ E.length = j ∧ ((∀ t, t < j → MShape n (qn k (min (l.length - 64 * t) 64)) (E.getD t []))) ∧ ρ = [(0, .slice aa0 l.length cc0), (1, .int .i64 ((k : Nat) : Int)), (2, .int .i64 ((n : Nat) : Int)), (7, .pointer (some ⟨b51, 0, none⟩)), (8, .slice (some ⟨b54, 0, none⟩) n n), (9, .slice a59 SG.length c60), (22, .int .i64 ((SG.length : Nat) : Int)), (23, .int .i64 (j : Int))] ∧ G65.le G68 ∧ St w H G68 (.row 37 4 (.slice (some ⟨b54, 0, none⟩) n n) n (shrC n (numF j 0) nilF nilF b) :: .blk b51 (qV 0 0 0 0 (List.replicate 32 0) (List.replicate 32 0) : Value).cells 39 :: (rws 24 n b (lenF j 0) c ++ [])) w' ∧ (∀ p, p < n → Rds G68 (c p) (blk E p)))
  (SG.length - 0) [(0, .slice aa0 l.length cc0), (1, .int .i64 ((k : Nat) : Int)), (2, .int .i64 ((n : Nat) : Int)), (7, .pointer (some ⟨b51, 0, none⟩)), (8, .slice (some ⟨b54, 0, none⟩) n n), (9, .slice a59 SG.length c60), (22, .int .i64 ((SG.length : Nat) : Int)), (23, .int .i64 ((0 : Nat) : Int))] ⟨rfl, ciI, ciI, rfl, rfl, rfl, ciI, ciI, trivial⟩ ⟨0, nilF, (fun _ => []), [], G65, rfl, (by exact Nat.zero_le _), (by rfl), (by exact fun t h => absurd h (Nat.not_lt_zero t)), rfl, Hp.le.refl _, S64, fun _ _ => Rds.nil _⟩ ?_
 rintro M ρ w70 ⟨j, b, c, E, G68, rfl, hp72, hEl, hEx, rfl, hl69, S71, hbk⟩
 refine Wr (Pv (T_nil (W_seq ?_)))
 refine Ab (fun h75 => ?_) (fun h75 => ?_)
 ·refine W_skip (W_seq (W_block (Wr (P2 (Nr ?_)))))
  refine P2 ?_
  obtain ⟨hs79, r80, r81⟩ := (r61.mono hl69)
  refine Aj j r80 fun b76 o77 hc78 => ?_
  obtain ⟨a84, c85, hc87, hv83, r86⟩ := r81.at j (by omega)
  have hc88 := hc78 0 (.slice a84 (SG.getD j []).length c85) (by simpa using hv83)
  simp only [Nat.add_zero] at hc88
  refine Ad S71 hc88 ?_
  refine P2 ?_
  have hsg : (SG.getD j []).length = min (l.length - 64 * j) 64 := hsx j (by omega)
  refine Cs g_aumbry_aumbryref04_Encode ((rencode_ok S71.le r86 k n (by omega) (by omega) (by omega)).mono ?_)
  rintro e w93 ⟨a89, c90, q, m, D, rfl, r91, hDl, hDx, hqk, hm, hB92⟩
  obtain ⟨G95, eG97⟩ : ∃ G, G = F.ext G68 w70.heap.size w93 := ⟨_, rfl⟩
  obtain ⟨hl96, S94⟩ := S71.ext hB92
  rw [← eG97] at hl96 S94 r91
  refine ⟨_, rfl, trivial, ?_⟩
  refine Pv (Nr ?_)
  refine P3 (T_nil (W_block ?_))
  refine W_loop (fun M ρ w' => ∃ (i : Nat) (b1 : Nat → Value) (c1 : Nat → List Value) (G98 : Hp), M = n - i ∧ i ≤ n ∧ ρ = [(0, .slice aa0 l.length cc0), (1, .int .i64 ((k : Nat) : Int)), (2, .int .i64 ((n : Nat) : Int)), (7, .pointer (some ⟨b51, 0, none⟩)), (8, .slice (some ⟨b54, 0, none⟩) n n), (9, .slice a59 SG.length c60), (11, .slice a89 n c90), (22, .int .i64 ((SG.length : Nat) : Int)), (23, .int .i64 (j : Int)), (34, .int .i64 ((n : Nat) : Int)), (35, .int .i64 (i : Int))] ∧ G95.le G98 ∧ St w H G98 (.row 37 4 (.slice (some ⟨b54, 0, none⟩) n n) n (shrC n (numF j i) nilF nilF b1) :: .blk b51 (qV 0 0 0 0 (List.replicate 32 0) (List.replicate 32 0) : Value).cells 39 :: (rws 24 n b1 (lenF j i) c1 ++ [])) w' ∧ (∀ p, p < n → Rds G98 (c1 p) (blk (if p < i then E ++ [D] else E) p)))
   (n - 0) [(0, .slice aa0 l.length cc0), (1, .int .i64 ((k : Nat) : Int)), (2, .int .i64 ((n : Nat) : Int)), (7, .pointer (some ⟨b51, 0, none⟩)), (8, .slice (some ⟨b54, 0, none⟩) n n), (9, .slice a59 SG.length c60), (11, .slice a89 n c90), (22, .int .i64 ((SG.length : Nat) : Int)), (23, .int .i64 (j : Int)), (34, .int .i64 ((n : Nat) : Int)), (35, .int .i64 ((0 : Nat) : Int))] ⟨rfl, ciI, ciI, rfl, rfl, rfl, rfl, ciI, ciI, ciI, ciI, trivial⟩ ⟨0, b, c, G95, rfl, (by exact Nat.zero_le _), rfl, Hp.le.refl _, S94, fun p hp => by rw [if_neg (Nat.not_lt_zero p)]; exact (hbk p hp).mono hl96⟩ ?_
  rintro M ρ w100 ⟨i, b1, c1, G98, rfl, hp102, rfl, hl99, S101, hbk1⟩
  refine Wr (Pv (T_nil (W_seq ?_)))
  refine Ab (fun h103 => ?_) (fun h103 => ?_)
  ·refine W_skip (W_seq (W_block (Wr (P2 (Nr ?_)))))
   refine P3 ?_
   refine Al (hm := by show 0 + Int.toNat _ * 4 = _; omega) (i * 4) ?_
   refine T_fldm (i * 4 + 0) rfl rfl rfl rfl rfl rfl (by decide) rfl rfl rfl ?_
   refine T_storeRow 0 (shrC n (numF j (i + 1)) nilF nilF b1) S101 (fun _ _ => trivial) rfl rfl rfl rfl rfl rfl rfl rfl rfl (by show _ + 1 ≤ _ * 4; omega) (one_shr rfl rfl) (put_num (by omega) rfl) fun w104 S105 => (T_nil ?_)
   refine W_tree (plan Tryz.prog) (.step 0 (.step 1 (.step 2 (.step 3 (.step 4 (.step 5 (.step 7 (.step 8 (.step 9 (.step 10 (.fork 6 11 (.step 11 (.step 12 (.step 13 (.step 14 (.step 15 .done))))) (.step 6 (.step 12 (.step 13 (.step 14 (.step 15 .done)))))))))))))))) rfl (by kernel_rfl) trivial ?_
   have S106 := S105.drew
   iterate 4 (refine TT_step rfl ?_; refine Pv ?_; refine T_nil ?_)
   refine TT_step rfl (Al (hm := by show 0 + Int.toNat _ * 4 = _; omega) (i * 4) ?_)
   refine Nt rfl (T_fldm (i * 4 + 3) rfl rfl rfl rfl rfl rfl (by decide) rfl rfl rfl ?_)
   iterate 2 (refine T_nil ?_; refine TT_step rfl ?_; refine Pv ?_)
   refine Nt rfl ?_
   obtain ⟨hs110, r111, r112⟩ := (r91.mono hl99)
   refine Aj i r111 fun b107 o108 hc109 => ?_
   obtain ⟨a115, c116, hc118, hv114, r117⟩ := r112.at i (by omega)
   have hc119 := hc109 0 (.slice a115 (D.getD i []).length c116) (by simpa using hv114)
   simp only [Nat.add_zero] at hc119
   refine Nt rfl (Ad S106 hc119 (T_nil ?_))
   refine TT_fork rfl rfl ?_ ?_
   ·refine T_load rfl rfl rfl rfl rfl rfl rfl (S106.rowCell 0 rfl (shrC_3 (by omega))) ?_
    refine Nt rfl ?_
    have rs124 : Rds G98 [.slice a115 (D.getD i []).length c116] [(D.getD i [])] := Rds.cons (Rd.canonB r117) (Rds.nil _)
    refine Ah (hone := by simp [Value.cells]; rfl) [.slice a115 (D.getD i []).length c116] fun a120 w121 hB122 ho123 => ?_
    have S125 := S106.own hB122 ho123
    refine ⟨trivial, ?_⟩
    refine Nt rfl (T_appendS (i + 3) (j + 1) (c1 i ++ [Value.slice a115 (D.getD i []).length c116]) S125 (fun _ _ => trivial) (rws_at (by omega)) rfl rfl rfl rfl rfl rfl rfl rfl rfl rfl rfl rfl rfl (S125.rd 0 rfl) (one_all rfl) (by rw [lenF_self]) rfl (by unfold maxLen; omega) (by show _ * 24 ≤ _; omega) fun a126 c127 w128 hc129 S130 => ?_)
    have S131 := St.reTail (p := [.row 24 1 (.slice a120 1 1) 1 [.slice a115 (D.getD i []).length c116], .row 37 4 (.slice (some ⟨b54, 0, none⟩) n n) n (shrC n (numF j (i + 1)) nilF nilF b1), .blk b51 (qV 0 0 0 0 (List.replicate 32 0) (List.replicate 32 0) : Value).cells 39]) (b := rws 24 n (upd b1 i (.slice a126 (j + 1) c127)) (lenF j (i + 1)) (upd c1 i (c1 i ++ [Value.slice a115 (D.getD i []).length c116])) ++ []) S130 ((rws_set (by omega)).trans (by rw [step_len]))
    refine Nt rfl (Al (hm := by show 0 + Int.toNat _ * 4 = _; omega) (i * 4) ?_)
    refine Nt rfl (T_fldm (i * 4 + 3) rfl rfl rfl rfl rfl rfl (by decide) rfl rfl rfl ?_)
    refine Nt rfl (T_storeRow 1 (shrC n (numF j (i + 1)) nilF nilF (upd b1 i (.slice a126 (j + 1) c127))) S131 (fun _ _ => trivial) rfl rfl rfl rfl rfl rfl rfl rfl rfl (by show _ + 1 ≤ _ * 4; omega) (one_shr rfl rfl) (put_blk (by omega) rfl rfl) fun w132 S133 => (T_nil (TT_done (W_region ?_))))
    refine Ar ?_
    refine Pv (T_nil ?_)
    have S134 := S133.drop 0
    exact ⟨n - (i + 1), [(0, .slice aa0 l.length cc0), (1, .int .i64 ((k : Nat) : Int)), (2, .int .i64 ((n : Nat) : Int)), (7, .pointer (some ⟨b51, 0, none⟩)), (8, .slice (some ⟨b54, 0, none⟩) n n), (9, .slice a59 SG.length c60), (11, .slice a89 n c90), (22, .int .i64 ((SG.length : Nat) : Int)), (23, .int .i64 (j : Int)), (34, .int .i64 ((n : Nat) : Int)), (35, .int .i64 ((i + 1 : Nat) : Int))], by omega, ⟨rfl, ciI, ciI, rfl, rfl, rfl, rfl, ciI, ciI, ciI, ciI, trivial⟩, i + 1, (upd b1 i (.slice a126 (j + 1) c127)), (upd c1 i (c1 i ++ [Value.slice a115 (D.getD i []).length c116])), G98, rfl, (by omega), rfl, hl99, S134, rds_step (fun p hp => (hbk1 p hp).mono (Hp.le.refl _)) (by omega) r117⟩
   have rs139 : Rds G98 [.slice a115 (D.getD i []).length c116] [(D.getD i [])] := Rds.cons (Rd.canonB r117) (Rds.nil _)
   refine Ah (hone := by simp [Value.cells]; rfl) [.slice a115 (D.getD i []).length c116] fun a135 w136 hB137 ho138 => ?_
   have S140 := S106.own hB137 ho138
   refine ⟨trivial, ?_⟩
   refine Nt rfl (T_load rfl rfl rfl rfl rfl rfl rfl (S140.rowCell 1 rfl (shrC_3 (by omega))) ?_)
   refine Nt rfl (T_appendS (i + 3) (j + 1) (c1 i ++ [Value.slice a115 (D.getD i []).length c116]) S140 (fun _ _ => trivial) (rws_at (by omega)) rfl rfl rfl rfl rfl rfl rfl rfl rfl rfl rfl rfl rfl (S140.rd 0 rfl) (one_all rfl) (by rw [lenF_self]) rfl (by unfold maxLen; omega) (by show _ * 24 ≤ _; omega) fun a141 c142 w143 hc144 S145 => ?_)
   have S146 := St.reTail (p := [.row 24 1 (.slice a135 1 1) 1 [.slice a115 (D.getD i []).length c116], .row 37 4 (.slice (some ⟨b54, 0, none⟩) n n) n (shrC n (numF j (i + 1)) nilF nilF b1), .blk b51 (qV 0 0 0 0 (List.replicate 32 0) (List.replicate 32 0) : Value).cells 39]) (b := rws 24 n (upd b1 i (.slice a141 (j + 1) c142)) (lenF j (i + 1)) (upd c1 i (c1 i ++ [Value.slice a115 (D.getD i []).length c116])) ++ []) S145 ((rws_set (by omega)).trans (by rw [step_len]))
   refine Nt rfl (Al (hm := by show 0 + Int.toNat _ * 4 = _; omega) (i * 4) ?_)
   refine Nt rfl (T_fldm (i * 4 + 3) rfl rfl rfl rfl rfl rfl (by decide) rfl rfl rfl ?_)
   refine Nt rfl (T_storeRow 1 (shrC n (numF j (i + 1)) nilF nilF (upd b1 i (.slice a141 (j + 1) c142))) S146 (fun _ _ => trivial) rfl rfl rfl rfl rfl rfl rfl rfl rfl (by show _ + 1 ≤ _ * 4; omega) (one_shr rfl rfl) (put_blk (by omega) rfl rfl) fun w147 S148 => (T_nil (TT_done (W_region ?_))))
   refine Ar ?_
   refine Pv (T_nil ?_)
   have S149 := S148.drop 0
   exact ⟨n - (i + 1), [(0, .slice aa0 l.length cc0), (1, .int .i64 ((k : Nat) : Int)), (2, .int .i64 ((n : Nat) : Int)), (7, .pointer (some ⟨b51, 0, none⟩)), (8, .slice (some ⟨b54, 0, none⟩) n n), (9, .slice a59 SG.length c60), (11, .slice a89 n c90), (22, .int .i64 ((SG.length : Nat) : Int)), (23, .int .i64 (j : Int)), (34, .int .i64 ((n : Nat) : Int)), (35, .int .i64 ((i + 1 : Nat) : Int))], by omega, ⟨rfl, ciI, ciI, rfl, rfl, rfl, rfl, ciI, ciI, ciI, ciI, trivial⟩, i + 1, (upd b1 i (.slice a141 (j + 1) c142)), (upd c1 i (c1 i ++ [Value.slice a115 (D.getD i []).length c116])), G98, rfl, (by omega), rfl, hl99, S149, rds_step (fun p hp => (hbk1 p hp).mono (Hp.le.refl _)) (by omega) r117⟩
  refine W_exit (W_region (Ar ?_))
  refine Pv (T_nil ?_)
  obtain rfl : n = i := by omega
  rw [next_num, next_len] at S101
  exact ⟨SG.length - (j + 1), [(0, .slice aa0 l.length cc0), (1, .int .i64 ((k : Nat) : Int)), (2, .int .i64 ((n : Nat) : Int)), (7, .pointer (some ⟨b51, 0, none⟩)), (8, .slice (some ⟨b54, 0, none⟩) n n), (9, .slice a59 SG.length c60), (22, .int .i64 ((SG.length : Nat) : Int)), (23, .int .i64 ((j + 1 : Nat) : Int))], by omega, ⟨rfl, ciI, ciI, rfl, rfl, rfl, ciI, ciI, trivial⟩, j + 1, b1, c1, (E ++ [D]), G98, rfl, (by omega), (by rw [List.length_append, hEl]; rfl), (by exact e_step hEl hEx ⟨hDl, fun x hx => (hDx x hx).trans (qn_of (by omega) (hqk.trans (by rw [hsg])) hm)⟩), rfl, (hl69.trans (hl96.trans hl99)), S101, fun p hp => by have h := hbk1 p hp; rw [if_pos hp] at h; exact h.mono (Hp.le.refl _)⟩
 refine W_exit (W_seq ?_)
 obtain rfl : SG.length = j := by omega
 have hSG1 : 0 < SG.length := by omega
 rw [done_num hSG1] at S71
 obtain ⟨G150, hl151, S152, hfr⟩ := S71.rwsStillP (p := [.row 37 4 (.slice (some ⟨b54, 0, none⟩) n n) n (shrC n iF nilF nilF b), .blk b51 (qV 0 0 0 0 (List.replicate 32 0) (List.replicate 32 0) : Value).cells 39]) (its := [])
 have hB : ∀ p, p < n → RdL G150 (b p) (blk E p) := fun p hp => RdL.mk (hfr p hp) ((hbk p hp).mono hl151)
 have hEk : ∀ p, p < n → ∀ x ∈ blk E p, x.length < 1000 := fun p hp => blkE_lt hEl hEx hp
 refine W_region (Pv (T_nil (W_seq (Wr ?_))))
 refine P3 (T_nil (W_block ?_))
 have S153 := S152.nilRow 27 32
 refine W_loop (fun M ρ w' => ∃ (i : Nat) (a156 : Option Addr) (c157 : Nat) (G154 : Hp), M = n - i ∧ i ≤ n ∧ ρ = [(0, .slice aa0 l.length cc0), (1, .int .i64 ((k : Nat) : Int)), (2, .int .i64 ((n : Nat) : Int)), (7, .pointer (some ⟨b51, 0, none⟩)), (8, .slice (some ⟨b54, 0, none⟩) n n), (13, .slice a156 i c157), (61, .int .i64 ((n : Nat) : Int)), (62, .int .i64 (i : Int))] ∧ G150.le G154 ∧ St w H G154 [.row 27 32 (.slice a156 i c157) i (hcells (tab i fun p => Go.Au.root (leavesH (blk E p) (blk E p).length))), .row 37 4 (.slice (some ⟨b54, 0, none⟩) n n) n (shrC n iF nilF nilF b), .blk b51 (qV 0 0 0 0 (List.replicate 32 0) (List.replicate 32 0) : Value).cells 39] w' ∧ (∀ y ∈ (tab i fun p => Go.Au.root (leavesH (blk E p) (blk E p).length)), y.length = 32) ∧ i ≤ c157)
  (n - 0) [(0, .slice aa0 l.length cc0), (1, .int .i64 ((k : Nat) : Int)), (2, .int .i64 ((n : Nat) : Int)), (7, .pointer (some ⟨b51, 0, none⟩)), (8, .slice (some ⟨b54, 0, none⟩) n n), (13, .slice none 0 0), (61, .int .i64 ((n : Nat) : Int)), (62, .int .i64 ((0 : Nat) : Int))] ⟨rfl, ciI, ciI, rfl, rfl, rfl, ciI, ciI, trivial⟩ ⟨0, none, 0, G150, rfl, (by exact Nat.zero_le _), rfl, Hp.le.refl _, S153, (fun _ h => by cases h), (Nat.le_refl _)⟩ ?_
 rintro M ρ w160 ⟨i, a156, c157, G154, rfl, hp162, rfl, hl155, S161, hh159, hc158⟩
 refine Wr (Pv (T_nil (W_seq ?_)))
 refine Ab (fun h163 => ?_) (fun h163 => ?_)
 ·refine W_skip (W_seq (W_block (Wr (P2 (T_nil (W_region ?_))))))
  refine P3 ?_
  refine Al (hm := by show 0 + Int.toNat _ * 4 = _; omega) (i * 4) ?_
  have r168 := (hB i (by omega)).mono hl155
  obtain ⟨a164, c165, e166, hc167⟩ := r168.shape
  rw [e166] at r168
  refine T_loadA #[iF i, nilF i, nilF i, b i] rfl rfl rfl rfl rfl rfl rfl rfl rfl (fun q v hq => S161.rowCell 1 rfl (shrC_agg (by omega) q v hq)) ?_
  refine T_re (v' := .agg #[.int .i64 ((i : Nat) : Int), .slice none 0 0, .slice none 0 0, .slice a164 (blk E i).length c165]) (by rw [e166]; rfl) ?_
  have hbl := blk_len E i
  have HX1 := hEk i (by omega)
  refine Cs g_aumbry_aumbryref13_ShareLeaf ((shareLeafR_ok S161.le ((i : Nat) : Int) (nilB _) (nilH _) r168 (by omega) HX1).mono ?_)
  rintro e w170 ⟨rfl, hB169⟩
  have S171 := S161.call hB169
  refine ⟨_, rfl, trivial, ?_⟩
  refine T_litS (hcells [Go.Au.root (leavesH (blk E i) (blk E i).length)]) rfl rfl rfl rfl rfl rfl rfl rfl rfl rfl rfl rfl rfl (one_h (root_len (leavesH_all _ _))) (by simp [hcells, hV, Value.cells]) fun a172 w173 hB174 ho175 => ?_
  have S176 := S171.own hB174 ho175
  refine ⟨trivial, ?_⟩
  have hD177 : ((tab i fun p => Go.Au.root (leavesH (blk E p) (blk E p).length)) ++ [Go.Au.root (leavesH (blk E i) (blk E i).length)]) = (tab (i + 1) fun p => Go.Au.root (leavesH (blk E p) (blk E p).length)) := tab_snoc
  refine Ai (h1 := by exact one_hcells _) (hn' := by first | rfl | (simp; done) | (simp; omega) | omega) (hx' := by rw [← hD177]; simp [hcells_append, hcells]) (hbytes := by show _ * 32 ≤ _; omega) 1 (i + 1) (hcells (tab (i + 1) fun p => Go.Au.root (leavesH (blk E p) (blk E p).length))) S176 (S176.rd 0 rfl) fun a178 c179 w180 hc181 S182 => ?_
  have hh183 : ∀ y ∈ (tab (i + 1) fun p => Go.Au.root (leavesH (blk E p) (blk E p).length)), y.length = 32 := by rw [← hD177]; exact (all_app hh159 (all_h1 (root_len (leavesH_all _ _))))
  refine Pv (T_nil (W_region ?_))
  refine Ar ?_
  refine Pv (T_nil ?_)
  have S184 := S182.drop 0
  exact ⟨n - (i + 1), [(0, .slice aa0 l.length cc0), (1, .int .i64 ((k : Nat) : Int)), (2, .int .i64 ((n : Nat) : Int)), (7, .pointer (some ⟨b51, 0, none⟩)), (8, .slice (some ⟨b54, 0, none⟩) n n), (13, .slice a178 (i + 1) c179), (61, .int .i64 ((n : Nat) : Int)), (62, .int .i64 ((i + 1 : Nat) : Int))], by omega, ⟨rfl, ciI, ciI, rfl, rfl, rfl, ciI, ciI, trivial⟩, i + 1, a178, c179, G154, rfl, (by omega), rfl, hl155, S184, hh183, hc181⟩
 refine W_exit (W_seq ?_)
 obtain rfl : n = i := by omega
 have hLl : (tab n fun p => Go.Au.root (leavesH (blk E p) (blk E p).length)).length = n := tab_len
 refine W_region ?_
 iterate 5 refine Pv ?_
 refine Cs g_aumbry_aumbryref18_Crypt ((crypt_ok S161.le (hv.mono (hl66.trans (hl69.trans (hl151.trans hl155)))) (by omega)).mono ?_)
 rintro e w186 ⟨ch, hch, rfl, hB185⟩
 have S187 := S161.call hB185
 refine ⟨_, rfl, trivial, ?_⟩
 refine Pv ?_
 obtain ⟨G189, hl190, S188, r191⟩ := S187.stillRow 0 rfl
 have r192 := RdH.mk hh159 (by decide) r191
 refine Cs g_aumbry_aumbryref07_Root ((rootR_ok S188.le r192 (by omega)).mono ?_)
 rintro e w194 ⟨rfl, hB193⟩
 have S195 := S188.call hB193
 refine ⟨_, rfl, trivial, ?_⟩
 refine Ag (cells := (qV ((k : Nat) : Int) ((n : Nat) : Int) ((l.length : Nat) : Int) (64 : Int) ch (Go.Au.root (tab n fun p => Go.Au.root (leavesH (blk E p) (blk E p).length))) : Value).cells) (hf := fill_q32 hch (root_len r192.1)) ?_
 refine Af S195 fun b196 w197 S198 => ?_
 refine Ak (hl := by exact qV_sz (q_len hch (root_len r192.1) rfl)) (hl2 := by exact qV_sz (q_len hch (root_len r192.1) rfl)) (h1 := by exact qV_one) 0 S198 fun w199 S200 => (T_nil (W_seq (Wr ?_)))
 refine P3 (T_nil (W_block ?_))
 refine W_loop (fun M ρ w' => ∃ (i : Nat) (fb fc : Nat → Value) (G201 : Hp), M = n - i ∧ i ≤ n ∧ ρ = [(7, .pointer (some ⟨b51, 0, none⟩)), (8, .slice (some ⟨b54, 0, none⟩) n n), (13, .slice a156 n c157), (15, .pointer (some ⟨b196, 0, none⟩)), (84, .int .i64 ((n : Nat) : Int)), (85, .int .i64 (i : Int))] ∧ G189.le G201 ∧ St w H G201 [.blk b196 (qV ((k : Nat) : Int) ((n : Nat) : Int) ((l.length : Nat) : Int) (64 : Int) ch (Go.Au.root (tab n fun p => Go.Au.root (leavesH (blk E p) (blk E p).length))) : Value).cells 39, .row 37 4 (.slice (some ⟨b54, 0, none⟩) n n) n (shrC n iF fb fc b), .blk b51 (qV 0 0 0 0 (List.replicate 32 0) (List.replicate 32 0) : Value).cells 39] w' ∧ (∀ p, p < i → Rd G201 (fb p) (packU ((k : Nat) : Int) ((n : Nat) : Int) ((l.length : Nat) : Int) 64 ch (Go.Au.root (tab n fun p => Go.Au.root (leavesH (blk E p) (blk E p).length)))).length 1 ((packU ((k : Nat) : Int) ((n : Nat) : Int) ((l.length : Nat) : Int) 64 ch (Go.Au.root (tab n fun p => Go.Au.root (leavesH (blk E p) (blk E p).length)))).map bV) ∧ RdH G201 (fc p) 32 (Go.Au.beside (rowP (tab n fun p => Go.Au.root (leavesH (blk E p) (blk E p).length))) p (lg (tab n fun p => Go.Au.root (leavesH (blk E p) (blk E p).length)).length))))
  (n - 0) [(7, .pointer (some ⟨b51, 0, none⟩)), (8, .slice (some ⟨b54, 0, none⟩) n n), (13, .slice a156 n c157), (15, .pointer (some ⟨b196, 0, none⟩)), (84, .int .i64 ((n : Nat) : Int)), (85, .int .i64 ((0 : Nat) : Int))] ⟨rfl, rfl, rfl, rfl, ciI, ciI, trivial⟩ ⟨0, nilF, nilF, G189, rfl, (by exact Nat.zero_le _), rfl, Hp.le.refl _, S200, fun p hp => absurd hp (Nat.not_lt_zero p)⟩ ?_
 rintro M ρ w203 ⟨i, fb, fc, G201, rfl, hp205, rfl, hl202, S204, huf⟩
 refine Wr (Pv (T_nil (W_seq ?_)))
 refine Ab (fun h206 => ?_) (fun h206 => ?_)
 ·refine W_skip (W_seq (W_block (Wr (P2 (Nr ?_)))))
  refine P2 ?_
  refine An (hl := by exact qV_sz (q_len hch (root_len r192.1) rfl)) 0 S204 ?_
  refine Cs g_aumbry_aumbryref13_Pack ((packUR_ok S204.le ((k : Nat) : Int) ((n : Nat) : Int) ((l.length : Nat) : Int) (64 : Int) (s := ch) (t := Go.Au.root (tab n fun p => Go.Au.root (leavesH (blk E p) (blk E p).length))) hch (root_len r192.1) (by omega) (by omega) (by omega) (by omega)).mono ?_)
  rintro e w212 ⟨a207, c208, hc209, rfl, ho210, hB211⟩
  have hl213 := packU_len ((k : Nat) : Int) ((n : Nat) : Int) ((l.length : Nat) : Int) (64 : Int) (s := ch) (t := Go.Au.root (tab n fun p => Go.Au.root (leavesH (blk E p) (blk E p).length))) (by have : ch.length = _ := hch; omega) (by have : (Go.Au.root (tab n fun p => Go.Au.root (leavesH (blk E p) (blk E p).length))).length = _ := (root_len r192.1); omega)
  have S214 := S204.own hB211 ho210
  refine ⟨_, rfl, trivial, ?_⟩
  refine Al (hm := by show 0 + Int.toNat _ * 4 = _; omega) (i * 4) ?_
  refine T_fldm (i * 4 + 1) rfl rfl rfl rfl rfl rfl (by decide) rfl rfl rfl ?_
  obtain ⟨G216, hl217, S215, r218⟩ := S214.stillRow 0 rfl
  refine T_storeRow 1 (shrC n iF (upd fb i (.slice a207 ((packU ((k : Nat) : Int) ((n : Nat) : Int) ((l.length : Nat) : Int) (64 : Int) ch (Go.Au.root (tab n fun p => Go.Au.root (leavesH (blk E p) (blk E p).length)))).length) c208)) fc b) S215 (fun _ _ => trivial) rfl rfl rfl rfl rfl rfl rfl rfl rfl (by show _ + 1 ≤ _ * 4; omega) (one_shr rfl rfl) (put_ueb (by omega) rfl rfl) fun w219 S220 => (T_nil (W_region ?_))
  iterate 4 refine Pv ?_
  refine Cs g_aumbry_aumbryref07_Proof ((proofR_ok S220.le (i : Int) (r192.mono (hl202.trans hl217)) (by omega) (by omega)).mono ?_)
  rintro e w226 ⟨a221, c222, hc223, rfl, ho224, hB225⟩
  have S227 := S220.own hB225 ho224
  refine ⟨_, rfl, trivial, ?_⟩
  refine Al (hm := by show 0 + Int.toNat _ * 4 = _; omega) (i * 4) ?_
  refine T_fldm (i * 4 + 2) rfl rfl rfl rfl rfl rfl (by decide) rfl rfl rfl ?_
  obtain ⟨G229, hl230, S228, r231⟩ := S227.stillRow 0 rfl
  have r232 := RdH.mk (beside_all (r192.mono (hl202.trans hl217)).1 (by omega) (Nat.le_refl _)) (by decide) r231
  refine T_storeRow 1 (shrC n iF (upd fb i (.slice a207 ((packU ((k : Nat) : Int) ((n : Nat) : Int) ((l.length : Nat) : Int) (64 : Int) ch (Go.Au.root (tab n fun p => Go.Au.root (leavesH (blk E p) (blk E p).length)))).length) c208)) (upd fc i (.slice a221 (lg (tab n fun p => Go.Au.root (leavesH (blk E p) (blk E p).length)).length) c222)) b) S228 (fun _ _ => trivial) rfl rfl rfl rfl rfl rfl rfl rfl rfl (by show _ + 1 ≤ _ * 4; omega) (one_shr rfl rfl) (put_prf (by omega) rfl rfl) fun w233 S234 => (T_nil (W_region ?_))
  refine Ar ?_
  refine Pv (T_nil ?_)
  exact ⟨n - (i + 1), [(7, .pointer (some ⟨b51, 0, none⟩)), (8, .slice (some ⟨b54, 0, none⟩) n n), (13, .slice a156 n c157), (15, .pointer (some ⟨b196, 0, none⟩)), (84, .int .i64 ((n : Nat) : Int)), (85, .int .i64 ((i + 1 : Nat) : Int))], by omega, ⟨rfl, rfl, rfl, rfl, ciI, ciI, trivial⟩, i + 1, (upd fb i (.slice a207 ((packU ((k : Nat) : Int) ((n : Nat) : Int) ((l.length : Nat) : Int) (64 : Int) ch (Go.Au.root (tab n fun p => Go.Au.root (leavesH (blk E p) (blk E p).length)))).length) c208)), (upd fc i (.slice a221 (lg (tab n fun p => Go.Au.root (leavesH (blk E p) (blk E p).length)).length) c222)), G229, rfl, (by omega), rfl, (hl202.trans (hl217.trans hl230)), S234, uf_step (fun p hp => ⟨(huf p hp).1.mono (hl217.trans hl230), (huf p hp).2.mono (hl217.trans hl230)⟩) (r218.mono hl230) r232⟩
 refine W_exit (W_seq (W_draw rfl (by kernel_rfl) ?_))
 have S235 := S204.drew
 refine Pv ?_
 refine An (hl := by exact qV_sz (q_len hch (root_len r192.1) rfl)) 0 S235 ?_
 refine Pv ?_
 refine Ak (hl := by exact qV_sz (q_len hch (root_len r192.1) rfl)) (hl2 := by exact qV_sz (q_len hch (root_len r192.1) rfl)) (h1 := by exact qV_one) 2 S235 fun w236 S237 => (T_nil (W_ret ?_))
 refine ⟨_, ⟨_, _, rfl, rfl, ⟨_, _, _, rfl, rfl, run_loadVarA rfl rfl (qV_sz (q_len hch (root_len r192.1) rfl)) (S237.cells 2 rfl), rfl⟩⟩, ?_⟩
 obtain rfl : n = i := by omega
 obtain ⟨G238, hl239, S240, r241⟩ := S237.stillRow 1 rfl
 exact ⟨_, _, E, ch, rfl, hch, RdSh.mk (r241.mono S240.fin) (fun p hp => ⟨((hB p hp).mono (hl155.trans (hl190.trans (hl202.trans hl239)))).mono S240.fin, ((huf p hp).1.mono hl239).mono S240.fin, ((huf p hp).2.mono hl239).mono S240.fin⟩), ⟨hEl.trans (hsl.trans (seg_n (by omega))), by rw [hEl]; exact hEx⟩, S240.below⟩

end Go.Proofs.YtmjmjjkigblbgaaGreatDoor
