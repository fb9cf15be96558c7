/- The hashes beside a way: the program's and the document's. -/
import Derived.Test.YtmjmjjkigblbgaaDoorTreeB
import Derived.Test.YtmjmjjkigblbgaaDoorFDoor
import Derived.Test.YtmjmjjkigblbgaaDoorAuAll
set_option linter.unusedVariables false
set_option linter.unusedSimpArgs false
set_option maxRecDepth 8192
namespace Go.Proofs.YtmjmjjkigblbgaaDoor
open Go Go.F Go.RowKit
open Go.Au hiding beside

theorem half_int (i k : Nat) : ((i / 2 ^ k : Nat) : Int) / ((2 : Int)) = ((i / 2 ^ (k + 1) : Nat) : Int) := by rw [← half_succ]; omega
theorem xor1 {n : Nat} (h : n < 1024) : bits .xor .i64 ((n : Nat) : Int) 1 = ((sib n : Nat) : Int) := by
 have key : ∀ q : Fin 1024, bits .xor .i64 (q.val : Int) 1 = ((sib q.val : Nat) : Int) := by decide +kernel
 exact key ⟨n, h⟩
theorem proofR_ok {H : Hp} {w : World} (hH : H.le (hw w)) (i : Int) {l : List (List UInt8)} {aa1 : Option Addr} {nn1 cc1 : Nat} (hv : RdH H (.slice aa1 nn1 cc1) 32 l) (hb : l.length ≤ 1024) (hi : 0 ≤ i ∧ i < l.length) :
  Calls Tryd.prog 104 #[.int .i64 i, .slice aa1 nn1 cc1] w fun e w' => ∃ a c, (lg l.length) ≤ c ∧ e = .returned (.slice a (lg l.length) c) ∧ rowZ w' w.heap.size 23 32 (.slice a (lg l.length) c) (lg l.length) (hcells (Go.Au.beside (rowP l) i.toNat (lg l.length))) ∧ Below w.heap.size w w' := by
 obtain rfl : nn1 = l.length := hv.len
 have hvcap : l.length ≤ cc1 := hv.2.capOf
 have hlg := lg_le (n := l.length) (m := 10) (by omega)
 have hpl := padN_le l.length
 have hll := levels_len (rowP l) (lg l.length + 1)
 refine enter2 _ Tryd.func104 rfl Tryd.ntmps104 Tryd.results104 rfl ?_
 have S0 := St.start w hH
 refine Wr (Pv (Nr ?_))
 refine Pv (T_nil (W_seq (Wr ?_)))
 refine Pv ?_
 refine Cs g_aumbry_aumbryref07_row ((rowR_ok S0.le hv (by omega)).mono ?_)
 rintro e w6 ⟨a1, c2, hc3, rfl, ho4, hB5⟩
 have S7 := S0.own hB5 ho4
 refine ⟨_, rfl, trivial, ?_⟩
 refine Pv (T_nil (W_block ?_))
 obtain ⟨G9, hl10, S8, r11⟩ := S7.stillRow 0 rfl
 have r12 := RdH.mk (rowP_all hv.1) (by decide) r11
 have S13 := S8.nilRow 23 32
 refine W_loop (fun M ρ w' => ∃ (k : Nat) (a16 : Option Addr) (c17 : Nat) (a20 : Option Addr) (nn21 c22 : Nat) (G14 : Hp), M = lg l.length - k ∧ k ≤ lg l.length ∧ ρ = [(0, .int .i64 ((i.toNat / 2 ^ k : Nat) : Int)), (5, .slice a16 k c17), (6, .slice a20 nn21 c22)] ∧ G9.le G14 ∧ St w H G14 [.row 23 32 (.slice a16 k c17) k (hcells (Go.Au.beside (rowP l) i.toNat k))] w' ∧ (∀ y ∈ Go.Au.beside (rowP l) i.toNat k, y.length = 32) ∧ k ≤ c17 ∧ RdH G14 (.slice a20 nn21 c22) 32 (ups (rowP l) k))
  (lg l.length - 0) [(0, .int .i64 ((i.toNat / 2 ^ 0 : Nat) : Int)), (5, .slice none 0 0), (6, .slice a1 (l.length + (padN l.length - l.length)) c2)] ⟨ciI, rfl, rfl, trivial⟩ ⟨0, none, 0, _, _, _, G9, rfl, (by exact Nat.zero_le _), rfl, Hp.le.refl _, S13, (fun _ h => by cases h), (Nat.le_refl _), r12⟩ ?_
 rintro M ρ w24 ⟨k, a16, c17, a20, nn21, c22, G14, rfl, hp26, rfl, hl15, S25, hh19, hc18, hf23⟩
 obtain rfl : nn21 = (ups (rowP l) k).length := hf23.len
 have hub := ups_bd (k := k) hb (by assumption)
 refine W_seq (Wr ?_)
 iterate 3 refine Pv ?_
 refine T_nil (Aa (fun h27 => ?_) (fun h27 => ?_))
 ·refine W_skip (W_seq (W_block (Wr ?_)))
  have hkm := ups_more (rowP_len l) (show k ≤ lg l.length by assumption) (by omega)
  have hul := ups_len (rowP_len l) k (by omega)
  have hhl := half_lt (k := k) (m := lg l.length) (i := i.toNat) (by have := lg_up l.length; omega) (by omega)
  have hnn := Int.natCast_nonneg (i.toNat / 2 ^ k)
  have hev := ups_even (rowP_len l) (show k < lg l.length by omega)
  have hsl := sib_lt hev (i := i.toNat / 2 ^ k) (by omega)
  iterate 4 refine Pv ?_
  refine T_re (v' := .int .i64 ((sib (i.toNat / 2 ^ k) : Nat) : Int)) (congrArg (Value.int .i64) (xor1 (by omega))) ?_
  refine Ah (sib (i.toNat / 2 ^ k)) hf23.2 fun b28 o29 hc30 => ?_
  have hc31 := cells_h hf23.1 (sib (i.toNat / 2 ^ k)) (by omega) hc30
  have hl32 := len_h hf23.1 (sib (i.toNat / 2 ^ k)) (by omega)
  refine T_loadGA _ S25 hc31 rfl rfl rfl rfl rfl rfl rfl rfl (hVs hl32) (T_litS (hcells [(ups (rowP l) k).getD (sib (i.toNat / 2 ^ k)) []]) rfl rfl rfl rfl rfl rfl rfl rfl rfl rfl rfl rfl rfl (one_h hl32) (by simp [hcells, hV, Value.cells]) fun a33 w34 hB35 ho36 => ?_)
  have S37 := S25.own hB35 ho36
  refine ⟨trivial, ?_⟩
  have hD38 : (Go.Au.beside (rowP l) i.toNat k ++ [(ups (rowP l) k).getD (sib (i.toNat / 2 ^ k)) []]) = Go.Au.beside (rowP l) i.toNat (k + 1) := (beside_snoc _ _ _)
  refine Ag (h1 := by exact one_hcells _) (hn' := by first | rfl | (simp; done) | (simp; omega) | omega) (hx' := by rw [← hD38]; simp [hcells_append, hcells]) (hbytes := by show _ * 32 ≤ _; omega) 1 (k + 1) (hcells (Go.Au.beside (rowP l) i.toNat (k + 1))) S37 (S37.rd 0 rfl) fun a39 c40 w41 hc42 S43 => ?_
  have hh44 : ∀ y ∈ Go.Au.beside (rowP l) i.toNat (k + 1), y.length = 32 := by rw [← hD38]; exact (all_app hh19 (all_h1 hl32))
  refine Pv (T_nil (W_region ?_))
  refine Pv ?_
  refine T_quo rfl rfl rfl rfl rfl rfl (by omega) ?_
  refine T_re (v' := .int .i64 ((i.toNat / 2 ^ (k + 1) : Nat) : Int)) (congrArg (Value.int .i64) (half_int _ _)) (Pv (T_nil (W_region ?_)))
  refine Pv ?_
  refine Cs g_aumbry_aumbryref07_up ((upR_ok S43.le hf23 (by omega)).mono ?_)
  rintro e w50 ⟨a45, c46, hc47, rfl, ho48, hB49⟩
  have S51 := S43.own hB49 ho48
  refine ⟨_, rfl, trivial, ?_⟩
  refine Pv (T_nil ?_)
  obtain ⟨G53, hl54, S52, r55⟩ := S51.stillRow 0 rfl
  have r56 := RdH.mk (upTo_all _ _) (by decide) r55
  have S57 := S52.drop 0
  exact ⟨lg l.length - (k + 1), [(0, .int .i64 ((i.toNat / 2 ^ (k + 1) : Nat) : Int)), (5, .slice a39 (k + 1) c40), (6, .slice a45 ((ups (rowP l) k).length / 2) c46)], by omega, ⟨ciI, rfl, rfl, trivial⟩, k + 1, a39, c40, _, _, _, G53, rfl, (by omega), rfl, (hl15.trans hl54), S57, hh44, hc42, r56⟩
 refine W_exit (Wr ?_)
 obtain hkd := ups_done (rowP_len l) (show k ≤ lg l.length by assumption) (by omega)
 iterate 2 refine Pv ?_
 refine T_nil (W_ret ?_)
 refine ⟨_, ⟨_, _, rfl, rfl, rfl⟩, ?_⟩
 subst hkd
 exact ⟨_, _, hc18, rfl, S25.row 0 rfl, S25.below⟩

end Go.Proofs.YtmjmjjkigblbgaaDoor
