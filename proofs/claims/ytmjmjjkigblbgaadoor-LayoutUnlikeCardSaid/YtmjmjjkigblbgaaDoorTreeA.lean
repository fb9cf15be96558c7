/- Leaves, nodes, powers of two: the program's and the document's. -/
import Derived.Test.YtmjmjjkigblbgaaDoorKeepN
import Derived.Test.YtmjmjjkigblbgaaDoorLaid
import Derived.Test.YtmjmjjkigblbgaaDoorAuAll
import Derived.Test.YtmjmjjkigblbgaaDoorFRest
set_option linter.unusedVariables false
set_option linter.unusedSimpArgs false
set_option maxRecDepth 8192
namespace Go.Proofs.YtmjmjjkigblbgaaDoor
open Go Go.F Go.RowKit
open Go.Au

theorem leafR_ok {H : Hp} {w : World} (hH : H.le (hw w)) {b : List UInt8} {aa0 : Option Addr} {nn0 cc0 : Nat} (hv : Rd H (.slice aa0 nn0 cc0) nn0 1 (b.map bV)) (hb : b.length < 1000) :
  Calls Tryd.prog 89 #[.slice aa0 nn0 cc0] w fun e w' => e = .returned (hV (leafH b)) ∧ Below w.heap.size w w' := by
 obtain rfl : nn0 = b.length := hv.lenB
 have hvcap : b.length ≤ cc0 := hv.capOf
 have htx := text1 (tag := [108, 101, 97, 102]) (b := b) (by decide) (by omega)
 refine enter1 _ Tryd.func89 rfl Tryd.ntmps89 Tryd.results89 rfl ?_
 have S0 := St.start w hH
 refine Wr (Ae S0 fun b1 w2 S3 => (Nr ?_))
 refine Pv ?_
 have rs8 : Rds H [.slice aa0 b.length cc0] [b] := Rds.cons (Rd.canonB hv) (Rds.nil _)
 refine Af (hone := by simp [Value.cells]; rfl) [.slice aa0 b.length cc0] fun a4 w5 hB6 ho7 => ?_
 have S9 := S3.own hB6 ho7
 refine ⟨trivial, ?_⟩
 obtain ⟨G11, hl12, S10, r13⟩ := S9.stillRow 0 rfl
 have r14 := RdL.mk r13 (rs8.mono hl12)
 refine Cs g_aumbry_aumbryref01_Tagged ((taggedR_ok S10.le r14 (by omega)).mono ?_)
 rintro e w16 ⟨rfl, hB15⟩
 have S17 := S10.call hB15
 refine ⟨_, rfl, trivial, ?_⟩
 refine T_re (v' := hV (leafH b)) rfl (T_storeFS 0 S17 (fun _ _ => trivial) rfl rfl rfl rfl rfl rfl rfl rfl rfl (hVs (leafH_len _)) (hVs (leafH_len _)) (one_hA _) fun w18 S19 => (T_nil (W_ret ?_)))
 refine ⟨_, ⟨_, _, _, rfl, rfl, run_loadVarA rfl rfl (hVs (leafH_len _)) (S19.cells 0 rfl), rfl⟩, ?_⟩
 exact ⟨rfl, S19.below⟩


theorem ntextR_ok {H : Hp} {w : World} (hH : H.le (hw w)) {x y : List UInt8} (hx : x.length = 32) (hy : y.length = 32) :
  Calls Tryd.prog 122 #[hV x, hV y] w fun e w' => ∃ a c, (Go.Au.text [110, 111, 100, 101] [x, y]).length ≤ c ∧ e = .returned (.slice a (Go.Au.text [110, 111, 100, 101] [x, y]).length c) ∧ rowZ w' w.heap.size 5 1 (.slice a (Go.Au.text [110, 111, 100, 101] [x, y]).length c) (Go.Au.text [110, 111, 100, 101] [x, y]).length ((Go.Au.text [110, 111, 100, 101] [x, y]).map bV) ∧ Below w.heap.size w w' := by
 have htx := text2 (tag := [110, 111, 100, 101]) (a := x) (b := y) (by decide) (by omega) (by omega)
 refine enter2 _ Tryd.func122 rfl Tryd.ntmps122 Tryd.results122 rfl ?_
 have S0 := St.start w hH
 refine Wr (T_boxS S0 (fun _ _ => trivial) rfl rfl rfl rfl rfl rfl fun b1 w2 S3 => (T_boxS S3 (fun _ _ => trivial) rfl rfl rfl rfl rfl rfl fun b4 w5 S6 => (Pv (T_nil (W_seq ?_)))))
 refine W_draw rfl (by kernel_rfl) ?_
 have S7 := S6.drew
 obtain ⟨G9, hl10, S8, r11⟩ := S7.stillBlk 1 rfl
 refine T_sliceAll rfl rfl rfl rfl rfl rfl rfl rfl ?_
 have r12 := Rd.of_blk (m := 32) (size := 1) (xs := x.map bV) r11 (hcell1 _) (by rw [List.length_map, hx])
 obtain ⟨G14, hl15, S13, r16⟩ := S8.stillBlk 0 rfl
 refine T_sliceAll rfl rfl rfl rfl rfl rfl rfl rfl ?_
 have r17 := Rd.of_blk (m := 32) (size := 1) (xs := y.map bV) r16 (hcell1 _) (by rw [List.length_map, hy])
 have rs22 : Rds G14 [.slice (some ⟨b1, 0, none⟩) 32 32, .slice (some ⟨b4, 0, none⟩) 32 32] [x, y] := Rds.cons (Rd.canonB (r12.mono hl15)) (Rds.cons (Rd.canonB r17) (Rds.nil _))
 refine Af (hone := by simp [Value.cells]; rfl) [.slice (some ⟨b1, 0, none⟩) 32 32, .slice (some ⟨b4, 0, none⟩) 32 32] fun a18 w19 hB20 ho21 => ?_
 have S23 := S13.own hB20 ho21
 refine ⟨trivial, ?_⟩
 obtain ⟨G25, hl26, S24, r27⟩ := S23.stillRow 0 rfl
 have r28 := RdL.mk r27 (rs22.mono hl26)
 refine Cs g_aumbry_aumbryref01_Text ((textR_ok S24.le r28 (by omega)).mono ?_)
 rintro e w34 ⟨a29, c30, hc31, rfl, ho32, hB33⟩
 have S35 := S24.own hB33 ho32
 refine ⟨_, rfl, trivial, ?_⟩
 refine Pv (T_nil (W_ret ?_))
 refine ⟨_, ⟨_, _, rfl, rfl, rfl⟩, ?_⟩
 exact ⟨_, _, hc31, rfl, S35.row 0 rfl, S35.below⟩


theorem nodeR_ok {H : Hp} {w : World} (hH : H.le (hw w)) {x y : List UInt8} (hx : x.length = 32) (hy : y.length = 32) :
  Calls Tryd.prog 111 #[hV x, hV y] w fun e w' => e = .returned (hV (Go.Au.node x y)) ∧ Below w.heap.size w w' := by
 have htx := text2 (tag := [110, 111, 100, 101]) (a := x) (b := y) (by decide) (by omega) (by omega)
 refine enter2 _ Tryd.func111 rfl Tryd.ntmps111 Tryd.results111 rfl ?_
 have S0 := St.start w hH
 refine Wr (T_boxS S0 (fun _ _ => trivial) rfl rfl rfl rfl rfl rfl fun b1 w2 S3 => (T_boxS S3 (fun _ _ => trivial) rfl rfl rfl rfl rfl rfl fun b4 w5 S6 => (Ae S6 fun b7 w8 S9 => (Nr ?_))))
 refine T_loadFS 2 S9 rfl rfl rfl rfl rfl rfl rfl rfl rfl (hVs hx) (T_loadFS 1 S9 rfl rfl rfl rfl rfl rfl rfl rfl rfl (hVs hy) (Cs g_aumbry_aumbryref07_nodeText ((ntextR_ok S9.le hx hy).mono ?_)))
 rintro e w15 ⟨a10, c11, hc12, rfl, ho13, hB14⟩
 have S16 := S9.own hB14 ho13
 refine ⟨_, rfl, trivial, ?_⟩
 obtain ⟨G18, hl19, S17, r20⟩ := S16.stillRow 0 rfl
 refine Cs g_aumbry_aumbryref01_Sum ((sumR_ok S17.le r20 (by omega)).mono ?_)
 rintro e w22 ⟨rfl, hB21⟩
 have S23 := S17.call hB21
 refine ⟨_, rfl, trivial, ?_⟩
 refine T_re (v' := hV (Go.Au.node x y)) rfl (T_storeFS 0 S23 (fun _ _ => trivial) rfl rfl rfl rfl rfl rfl rfl rfl rfl (hVs (node_len _ _)) (hVs (node_len _ _)) (one_hA _) fun w24 S25 => (T_nil (W_ret ?_)))
 refine ⟨_, ⟨_, _, _, rfl, rfl, run_loadVarA rfl rfl (hVs (node_len _ _)) (S25.cells 0 rfl), rfl⟩, ?_⟩
 exact ⟨rfl, S25.below⟩


theorem padR_ok {H : Hp} {w : World} (hH : H.le (hw w)) (n : Int) (hn : n ≤ 2199023255552) :
  Calls Tryd.prog 110 #[.int .i64 n] w fun e w' => e = .returned (.int .i64 ((padN n.toNat : Nat) : Int)) ∧ Below w.heap.size w w' := by
 have hlg := lg_le (n := n.toNat) (m := 41) (by show _ ≤ 2199023255552; omega)
 refine enter1 _ Tryd.func110 rfl Tryd.ntmps110 Tryd.results110 rfl ?_
 have S0 := St.start w hH
 refine Wr (Pv (Nr ?_))
 refine Pv (T_nil (W_seq (W_block ?_)))
 refine W_loop (fun M ρ w' => ∃ (k : Nat) (G1 : Hp), M = 42 - k ∧ k ≤ lg n.toNat ∧ ρ = [(0, .int .i64 n), (3, .int .i64 ((2 ^ k : Nat) : Int))] ∧ H.le G1 ∧ St w H G1 [] w')
  (42 - 0) [(0, .int .i64 n), (3, .int .i64 (1 : Int))] ⟨ciI, ciI, trivial⟩ ⟨0, H, rfl, (by exact Nat.zero_le _), rfl, Hp.le.refl _, S0⟩ ?_
 rintro M ρ w3 ⟨k, G1, rfl, hp5, rfl, hl2, S4⟩
 have hp2 : 2 ^ k ≤ 2 ^ 41 := Nat.pow_le_pow_right (by omega) (by omega)
 have hps : 2 ^ (k + 1) = 2 * 2 ^ k := by rw [Nat.pow_succ]; omega
 refine W_seq (Wr ?_)
 iterate 4 refine Pv ?_
 refine Tp 7 (fun h6' => ?_) (fun h6' => ?_)
 ·have h6 := of_decide_eq_true h6'
  iterate 2 (refine Ys ?_; refine Pv ?_)
  refine Pv (T_nil ?_)
  refine Aa (fun h7 => ?_) (fun h7 => ?_)
  ·refine W_skip (W_block (W_region (Pv ?_)))
   refine Ar ?_
   refine Pv (T_nil ?_)
   exact ⟨42 - (k + 1), [(0, .int .i64 n), (3, .int .i64 ((2 ^ (k + 1) : Nat) : Int))], by omega, ⟨ciI, ciI, trivial⟩, k + 1, G1, rfl, (by exact lg_gt (by omega) (by assumption)), rfl, hl2, S4⟩
  refine W_exit (Wr ?_)
  iterate 2 refine Pv ?_
  refine T_nil (W_ret ?_)
  refine ⟨_, ⟨_, _, rfl, rfl, rfl⟩, ?_⟩
  obtain rfl : k = lg n.toNat := lg_of (by omega) (by assumption)
  exact ⟨rfl, S4.below⟩
 have h6 := of_decide_eq_false h6'
 iterate 2 refine No ?_
 refine Pv (T_nil ?_)
 refine W_cond_false rfl (W_exit (Wr ?_))
 iterate 2 refine Pv ?_
 refine T_nil (W_ret ?_)
 refine ⟨_, ⟨_, _, rfl, rfl, rfl⟩, ?_⟩
 obtain rfl : k = lg n.toNat := lg_of (by omega) (by assumption)
 exact ⟨rfl, S4.below⟩

end Go.Proofs.YtmjmjjkigblbgaaDoor
