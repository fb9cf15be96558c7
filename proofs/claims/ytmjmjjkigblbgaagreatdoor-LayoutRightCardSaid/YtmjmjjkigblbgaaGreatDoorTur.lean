/- Walks of the program's functions. -/
import Derived.Test.YtmjmjjkigblbgaaGreatDoorAes
import Derived.Test.YtmjmjjkigblbgaaGreatDoorFTurn
import Derived.Test.YtmjmjjkigblbgaaGreatDoorChecked
import Derived.Test.YtmjmjjkigblbgaaGreatDoorFDoor
set_option linter.unusedVariables false
set_option linter.unusedSimpArgs false
set_option maxRecDepth 8192
namespace Go.Proofs.YtmjmjjkigblbgaaGreatDoor
open Go Go.F Go.RowKit

theorem copyRows_ok {H : Hp} {w : World} (hH : H.le (hw w)) {l : List (List UInt8)} {aa0 : Option Addr} {nn0 cc0 : Nat} (hv : RdL H (.slice aa0 nn0 cc0) l) (hl : l.length ≤ 1000) (hx : ∀ x ∈ l, x.length ≤ 1000) :
  Calls Tryz.prog 42 #[.slice aa0 nn0 cc0] w fun e w' => ∃ a c vs, ∃ G' : Hp, e = .returned (.slice a l.length c) ∧ H.le G' ∧ l.length ≤ c ∧ vs.length = l.length ∧ St w H G' (.row 24 1 (.slice a l.length c) l.length vs :: (mrows 5 vs l ++ [])) w' := by
 obtain rfl : nn0 = l.length := hv.len
 refine Aa Tryz.func42 Tryz.ntmps42 Tryz.results42 ?_
 have S0 := St.start w hH
 refine Wr (Pv (Nr ?_))
 refine Pv (T_nil (W_seq (Wr ?_)))
 refine P3 (T_nil (W_block ?_))
 have S1 := S0.nilRow 24 1
 refine W_loop (fun M ρ w' => ∃ (i : Nat) (a4 : Option Addr) (c5 : Nat) (vs6 : List Value) (G2 : Hp), M = l.length - i ∧ i ≤ l.length ∧ ρ = [(0, .slice aa0 l.length cc0), (3, .slice a4 i c5), (6, .int .i64 ((l.length : Nat) : Int)), (7, .int .i64 (i : Int))] ∧ H.le G2 ∧ St w H G2 (.row 24 1 (.slice a4 i c5) i vs6 :: (mrows 5 vs6 (l.take i) ++ [])) w' ∧ i ≤ c5 ∧ vs6.length = i ∧ (l.take i).length = i)
  (l.length - 0) [(0, .slice aa0 l.length cc0), (3, .slice none 0 0), (6, .int .i64 ((l.length : Nat) : Int)), (7, .int .i64 ((0 : Nat) : Int))] ⟨rfl, rfl, ciI, ciI, trivial⟩ ⟨0, none, 0, [], H, rfl, (by omega), rfl, Hp.le.refl _, S1, (Nat.le_refl _), rfl, rfl⟩ ?_
 rintro M ρ w10 ⟨i, a4, c5, vs6, G2, rfl, hp12, rfl, hl3, S11, hc7, hv8, hs9⟩
 refine Wr (Pv (T_nil (W_seq ?_)))
 refine Ab (fun h13 => ?_) (fun h13 => ?_)
 ·refine W_skip (W_seq (W_block (Wr (P2 (T_nil (W_region ?_))))))
  refine P3 ?_
  obtain ⟨hs17, r18, r19⟩ := (hv.mono hl3)
  refine Aj i r18 fun b14 o15 hc16 => ?_
  obtain ⟨a22, c23, hc25, hv21, r24⟩ := r19.at i (by omega)
  have hc26 := hc16 0 (.slice a22 (l.getD i []).length c23) (by simpa using hv21)
  simp only [Nat.add_zero] at hc26
  have hel := el_le1 hx (k := i) (by omega)
  refine Ad S11 hc26 ?_
  refine Cs g_aumbry_aumbrykeep_Copy_byte ((copyB_ok S11.le r24 (by omega)).mono ?_)
  rintro e w32 ⟨a27, c28, hc29, rfl, ho30, hB31⟩
  have S33 := S11.own hB31 ho30
  refine ⟨_, rfl, trivial, ?_⟩
  refine Ah (hone := by simp [Value.cells]; rfl) [.slice a27 ((l.getD i []).length) c28] fun a34 w35 hB36 ho37 => ?_
  have S38 := S33.own hB36 ho37
  refine ⟨trivial, ?_⟩
  refine Ai (h1 := by exact one_all rfl) (hn' := by omega) (hx' := by exact rfl) (hbytes := by show _ * 24 ≤ _; omega) 2 (i + 1) (vs6 ++ [(Value.slice a27 ((l.getD i []).length) c28)]) S38 (S38.rd 0 rfl) fun a39 c40 w41 hc42 S43 => ?_
  have S44 := (S43.drop 0).matPush0 (uT := 5) (vs := vs6) (D := (l.take i)) (its := []) (v := (Value.slice a27 ((l.getD i []).length) c28)) (l := (l.getD i [])) (by rw [hv8, hs9])
  have hv45 : (vs6 ++ [(Value.slice a27 ((l.getD i []).length) c28)]).length = (i + 1) := by rw [List.length_append, hv8]; rfl
  have hs46 : ((l.take i) ++ [(l.getD i [])]).length = (i + 1) := by rw [List.length_append, hs9]; rfl
  have hD47 : ((l.take i) ++ [(l.getD i [])]) = (l.take (i + 1)) := (take_row (by omega))
  rw [hD47] at S44 hs46
  refine Pv (T_nil (W_region ?_))
  refine Ar ?_
  refine Pv (T_nil ?_)
  exact ⟨l.length - (i + 1), [(0, .slice aa0 l.length cc0), (3, .slice a39 (i + 1) c40), (6, .int .i64 ((l.length : Nat) : Int)), (7, .int .i64 ((i + 1 : Nat) : Int))], by omega, ⟨rfl, rfl, ciI, ciI, trivial⟩, i + 1, a39, c40, (vs6 ++ [(Value.slice a27 ((l.getD i []).length) c28)]), G2, rfl, (by omega), rfl, hl3, S44, hc42, hv45, hs46⟩
 refine W_exit (Wr (P2 (T_nil (W_ret ?_))))
 refine ⟨_, ⟨_, _, rfl, rfl, rfl⟩, ?_⟩
 obtain rfl : l.length = i := by omega
 rw [List.take_length] at S11
 exact ⟨_, _, _, _, rfl, hl3, hc7, hv8, S11⟩


set_option maxHeartbeats 2000000 in
theorem turned_ok {H : Hp} {w : World} (hH : H.le (hw w)) (sn : Int) {u : List UInt8} {p B : List (List UInt8)} {a1 a2 a3 : Option Addr} {n1 n2 n3 c1 c2 c3 : Nat} (h1 : Rd H (.slice a1 n1 c1) n1 1 (u.map bV)) (h2 : RdH H (.slice a2 n2 c2) 32 p) (h3 : RdL H (.slice a3 n3 c3) B) (hn : 0 ≤ sn ∧ sn ≤ 16) (hu : 1 ≤ u.length ∧ u.length ≤ 200) (hp : p.length ≤ 5) (hB : 1 ≤ B.length ∧ B.length ≤ 4) (hx : ∀ x ∈ B, 1 ≤ x.length ∧ x.length ≤ 64) (w0 at0 : Int) (hat : -9223372036854775808 ≤ at0 ∧ at0 ≤ 9223372036854775807) :
  Calls Tryz.prog 15 #[.agg #[.int .i64 sn, .slice a1 n1 c1, .slice a2 n2 c2, .slice a3 n3 c3], .int .i64 w0, .int .i64 at0] w fun e w' => ∃ (z : Int) (u' : List UInt8) (P' B' : List (List UInt8)) (b1 b2 b3 : Option Addr) (d1 d2 d3 m1 m2 m3 : Nat), e = .returned (.agg #[.int .i64 z, .slice b1 m1 d1, .slice b2 m2 d2, .slice b3 m3 d3]) ∧ Rd (F.ext H w.heap.size w') (.slice b1 m1 d1) m1 1 (u'.map bV) ∧ RdH (F.ext H w.heap.size w') (.slice b2 m2 d2) 32 P' ∧ RdL (F.ext H w.heap.size w') (.slice b3 m3 d3) B' ∧ (sn - 1 ≤ z ∧ z ≤ sn + 1) ∧ u'.length ≤ 200 ∧ P'.length ≤ 6 ∧ B'.length ≤ 4 ∧ (∀ x ∈ B', x.length ≤ 65) ∧ Below w.heap.size w w' := by
 obtain rfl : n1 = u.length := h1.lenB
 obtain rfl : n2 = p.length := h2.len
 obtain rfl : n3 = B.length := h3.len
 have hx65 : ∀ x ∈ B, x.length ≤ 65 := fun x h => Nat.le_succ_of_le (hx x h).2
 have hx1000 : ∀ x ∈ B, x.length ≤ 1000 := fun x h => by have := hx x h; omega
 have hmem : ∀ q, q < B.length → B.getD q [] ∈ B := fun q hq => List.mem_of_getElem? (i := q) (by rw [List.getD_eq_getElem?_getD, List.getElem?_eq_getElem hq]; rfl)
 have hpos : ∀ q, q < B.length → 0 < (B.getD q []).length := fun q hq => (hx _ (hmem q hq)).1
 refine enter3 _ Tryz.func15 rfl Tryz.ntmps15 Tryz.results15 rfl ?_
 have S0 := St.start w hH
 refine Wr (Ao S0 fun b81 w82 S83 => ?_)
 refine Af S83 fun b84 w85 S86 => (T_nil ?_)
 refine W_j1 (fun ρ w' => ∃ (a88 : Option Addr) (c89 : Nat) (a95 : Option Addr) (c96 : Nat) (a102 : Option Addr) (c103 : Nat) (vs104 : List Value) (G124 : Hp), ρ = [(1, .int .i64 w0), (2, .int .i64 at0), (6, .pointer (some ⟨b84, 0, none⟩)), (3, .pointer (some ⟨b81, 0, none⟩))] ∧ H.le G124 ∧ St w H G124 (.blk b84 (.agg #[.int .i64 0, .slice none 0 0, .slice none 0 0, .slice none 0 0] : Value).cells 37 :: .blk b81 (.agg #[.int .i64 sn, .slice a88 u.length c89, .slice a95 p.length c96, .slice a102 B.length c103] : Value).cells 37 :: .row 5 1 (.slice a88 u.length c89) u.length (u.map bV) :: .row 27 32 (.slice a95 p.length c96) p.length (hcells p) :: .row 24 1 (.slice a102 B.length c103) B.length vs104 :: (mrows 5 vs104 B ++ [])) w' ∧ u.length ≤ c89 ∧ p.length ≤ c96 ∧ vs104.length = B.length ∧ B.length = B.length ∧ B.length ≤ c103) ?_ (fun J128 => ?_)
 ·rintro ρ w127 ⟨a88, c89, a95, c96, a102, c103, vs104, G124, rfl, hl125, S126, hc129, hc130, hv131, hs132, hc133⟩
  refine W_seq (Wr (Pv ?_))
  refine Cs g_aumbry_aumbrykeep_Within ((withinN_ok S126.le w0 (8 : Int) (by omega)).mono ?_)
  rintro e w135 ⟨rfl, hB134⟩
  have S136 := S126.call hB134
  refine ⟨_, rfl, trivial, ?_⟩
  refine T_nil (W_block (Wr (P2 (T_nil ?_))))
  refine Ab (fun h137 => ?_) (fun h137 => ?_)
  ·refine W_region (Fl 0 ?_)
   refine Ap 1 0 S136 rfl ?_
   refine P2 ?_
   refine T_re (v' := .int .i64 (at0 % 2)) (congrArg (Value.int .i64) (andI1 hat)) ?_
   iterate 3 refine Ar ?_
   refine Fl 0 ?_
   refine Ae (hfit := by exact show 0 < 4 by decide) 1 0 S136 fun w138 S139 => ?_
   have hE140 : (.agg #[.int .i64 sn, .slice a88 u.length c89, .slice a95 p.length c96, .slice a102 B.length c103] : Value).cells.setIfInBounds 0 (.int .i64 (sn + ((1 : Int) - ((2 : Int) * (at0 % 2))))) = (.agg #[.int .i64 (sn + ((1 : Int) - ((2 : Int) * (at0 % 2)))), .slice a88 u.length c89, .slice a95 p.length c96, .slice a102 B.length c103] : Value).cells := rfl
   rw [hE140] at S139
   refine T_nil (W_seq ?_)
   obtain ⟨G142, hl143, S141, r144⟩ := S139.stillRow 2 rfl
   obtain ⟨G146, hl147, S145, r148⟩ := S141.stillRow 2 rfl
   have r149 := RdH.mk h2.1 (by decide) r148
   obtain ⟨G150, hl151, S152, r153⟩ := St.ragAll (p := [.blk b84 (.agg #[.int .i64 0, .slice none 0 0, .slice none 0 0, .slice none 0 0] : Value).cells 37, .blk b81 (.agg #[.int .i64 (sn + ((1 : Int) - ((2 : Int) * (at0 % 2)))), .slice a88 u.length c89, .slice a95 p.length c96, .slice a102 B.length c103] : Value).cells 37]) (its := []) S145 (hv131.trans hs132.symm)
   refine W_region (An (hl := by first | rfl | simp [hVs, *]) 1 S152 ?_)
   refine Ak (hl := by first | rfl | simp [hVs, *]) (hl2 := by first | rfl | simp [hVs, *]) (h1 := by exact one_all rfl) 0 S152 fun w154 S155 => (T_nil (W_ret ?_))
   refine ⟨_, ⟨_, _, _, rfl, rfl, run_loadVarA rfl rfl (by first | rfl | simp [hVs, *]) (S155.cells 0 rfl), rfl⟩, ?_⟩
   exact ⟨_, _, _, _, _, _, _, _, _, _, _, _, _, rfl, ((r144.mono (hl147.trans hl151))).mono S155.fin, ((r149.mono hl151)).mono S155.fin, (r153).mono S155.fin, (by omega), (by omega), (by omega), (by omega), hx65, S155.below⟩
  refine Wr (P2 (T_nil ?_))
  refine Ab (fun h156 => ?_) (fun h156 => ?_)
  ·obtain ⟨G158, hl159, S157, r160⟩ := S136.stillBlk 1 rfl
   have hz1 := Int.emod_nonneg at0 (show ((u.length : Nat) : Int) ≠ 0 by omega)
   have hz2 := Int.emod_lt_of_pos at0 (show 0 < ((u.length : Nat) : Int) by omega)
   obtain ⟨z, hz⟩ : ∃ zz : Nat, at0 % ((u.length : Nat) : Int) = (zz : Int) := ⟨(at0 % ((u.length : Nat) : Int)).toNat, by omega⟩
   refine W_plan (planF Tryz.prog G158 [36]) rfl (by kernel_rfl) S157.le ?_
   have S161 := S157.drew
   refine Fl 1 ?_
   refine Am (still_cell r160 rfl) ?_
   refine Pv ?_
   refine Fl 1 ?_
   refine Ad S161 (still_cell r160 rfl) ?_
   refine Pv ?_
   refine Cs g_aumbry_aumbrykeep_Within ((withinN_ok S161.le at0 ((u.length : Nat) : Int) (by omega)).mono ?_)
   rintro e w163 ⟨rfl, hB162⟩
   have S164 := S161.call hB162
   refine ⟨_, rfl, (((Hp.le.refl _)).trans S164.le), ?_⟩
   refine T_re (v' := .int .i64 ((z : Nat) : Int)) (congrArg (Value.int .i64) hz) ?_
   obtain ⟨g165, rfl⟩ := S164.rowAt 1 rfl (by omega)
   refine Al (hm := by show 0 + Int.toNat _ * 1 = _; omega) (z * 1) ?_
   refine T_load rfl rfl rfl rfl rfl rfl rfl (S164.rowCell 1 rfl (cellB_at (by omega))) ?_
   refine Pv ?_
   refine T_re (v' := bV ((u.getD z 0) ^^^ 1)) (congrArg (Value.int .u8) (xorU8 _ 1)) (Al (hm := by show 0 + Int.toNat _ * 1 = _; omega) (z * 1) ?_)
   refine T_storeRow 1 ((u.set z ((u.getD z 0) ^^^ 1)).map bV) S164 (fun _ h => ((Hp.le.refl _)).trans h) rfl rfl rfl rfl rfl rfl rfl rfl rfl (by show _ + 1 ≤ _ * 1; omega) (one_bV1 (b := (u.getD z 0) ^^^ 1)) (set_bytes (l := u) (q := z) (x := (u.getD z 0) ^^^ 1) (by omega)) fun w166 S167 => (T_nil (W_seq ?_))
   obtain ⟨G169, hl170, S168, r171⟩ := S167.stillRow 1 rfl
   obtain ⟨G173, hl174, S172, r175⟩ := S168.stillRow 1 rfl
   have r176 := RdH.mk h2.1 (by decide) r175
   obtain ⟨G177, hl178, S179, r180⟩ := St.ragAll (p := [.blk b84 (.agg #[.int .i64 0, .slice none 0 0, .slice none 0 0, .slice none 0 0] : Value).cells 37]) (its := []) S172 (hv131.trans hs132.symm)
   refine W_region (T_loadGA _ S179 (still_cells (hl178 _ _ (hl174 _ _ (hl170 _ _ r160)))) rfl rfl rfl rfl rfl rfl rfl rfl (by first | rfl | simp [hVs, *]) ?_)
   refine Ak (hl := by first | rfl | simp [hVs, *]) (hl2 := by first | rfl | simp [hVs, *]) (h1 := by exact one_all rfl) 0 S179 fun w181 S182 => (T_nil (W_ret ?_))
   refine ⟨_, ⟨_, _, _, rfl, rfl, run_loadVarA rfl rfl (by first | rfl | simp [hVs, *]) (S182.cells 0 rfl), rfl⟩, ?_⟩
   exact ⟨_, _, _, _, _, _, _, _, _, _, _, _, _, rfl, ((r171.mono (hl174.trans hl178))).mono S182.fin, ((r176.mono hl178)).mono S182.fin, (r180).mono S182.fin, (by omega), (by rw [List.length_set]; omega), (by omega), (by omega), hx65, S182.below⟩
  refine Wr (P2 (T_nil ?_))
  refine Ab (fun h183 => ?_) (fun h183 => ?_)
  ·refine W_seq ?_
   obtain ⟨G185, hl186, S184, r187⟩ := S136.stillBlk 1 rfl
   refine W_region (Fl 2 ?_)
   refine Ad S184 (still_cell r187 rfl) ?_
   refine P2 (T_nil ?_)
   refine Ab (fun h188 => ?_) (fun h188 => ?_)
   ·have hz1 := Int.emod_nonneg at0 (show ((p.length : Nat) : Int) ≠ 0 by omega)
    have hz2 := Int.emod_lt_of_pos at0 (show 0 < ((p.length : Nat) : Int) by omega)
    obtain ⟨z, hz⟩ : ∃ zz : Nat, at0 % ((p.length : Nat) : Int) = (zz : Int) := ⟨(at0 % ((p.length : Nat) : Int)).toNat, by omega⟩
    refine W_plan (planF Tryz.prog G185 [53]) rfl (by kernel_rfl) S184.le ?_
    have S189 := S184.drew
    refine Fl 2 ?_
    refine Am (still_cell r187 rfl) ?_
    refine Pv ?_
    refine Fl 2 ?_
    refine Ad S189 (still_cell r187 rfl) ?_
    refine Pv ?_
    refine Cs g_aumbry_aumbrykeep_Within ((withinN_ok S189.le at0 ((p.length : Nat) : Int) (by omega)).mono ?_)
    rintro e w191 ⟨rfl, hB190⟩
    have S192 := S189.call hB190
    refine ⟨_, rfl, (((Hp.le.refl _)).trans S192.le), ?_⟩
    refine T_re (v' := .int .i64 ((z : Nat) : Int)) (congrArg (Value.int .i64) hz) ?_
    obtain ⟨g193, rfl⟩ := S192.rowAt 2 rfl (by omega)
    refine Al (hm := by show 0 + Int.toNat _ * 32 = _; omega) (z * 32) ?_
    refine T_idxAm (z * 32 + 5) rfl rfl rfl rfl rfl rfl rfl rfl (by omega) (by show _ + Int.toNat _ * 1 = _; omega) ?_
    refine T_load rfl rfl rfl rfl rfl rfl rfl (S192.rowCell 2 rfl (hcells_at1 h2.1 (by omega) (by omega))) ?_
    refine Pv ?_
    refine T_re (v' := bV (((p.getD z []).getD 5 0) ^^^ 1)) (congrArg (Value.int .u8) (xorU8 _ 1)) (Al (hm := by show 0 + Int.toNat _ * 32 = _; omega) (z * 32) ?_)
    refine T_idxAm (z * 32 + 5) rfl rfl rfl rfl rfl rfl rfl rfl (by omega) (by show _ + Int.toNat _ * 1 = _; omega) ?_
    refine T_storeRow 2 (hcells (p.set z ((p.getD z []).set 5 (((p.getD z []).getD 5 0) ^^^ 1)))) S192 (fun _ h => ((Hp.le.refl _)).trans h) rfl rfl rfl rfl rfl rfl rfl rfl rfl (by show _ + 1 ≤ _ * 32; omega) one_bV1 (hcells_set1 h2.1 (by omega) (by omega)) fun w194 S195 => (T_nil (W_seq ?_))
    obtain ⟨G197, hl198, S196, r199⟩ := S195.stillRow 1 rfl
    obtain ⟨G201, hl202, S200, r203⟩ := S196.stillRow 1 rfl
    have r204 := RdH.mk (set_all (h := (p.getD z []).set 5 (((p.getD z []).getD 5 0) ^^^ 1)) h2.1 z (by rw [List.length_set]; exact len_h h2.1 z (by omega))) (by decide) r203
    obtain ⟨G205, hl206, S207, r208⟩ := St.ragAll (p := [.blk b84 (.agg #[.int .i64 0, .slice none 0 0, .slice none 0 0, .slice none 0 0] : Value).cells 37]) (its := []) S200 (hv131.trans hs132.symm)
    refine W_region (T_loadGA _ S207 (still_cells (hl206 _ _ (hl202 _ _ (hl198 _ _ r187)))) rfl rfl rfl rfl rfl rfl rfl rfl (by first | rfl | simp [hVs, *]) ?_)
    refine Ak (hl := by first | rfl | simp [hVs, *]) (hl2 := by first | rfl | simp [hVs, *]) (h1 := by exact one_all rfl) 0 S207 fun w209 S210 => (T_nil (W_ret ?_))
    refine ⟨_, ⟨_, _, _, rfl, rfl, run_loadVarA rfl rfl (by first | rfl | simp [hVs, *]) (S210.cells 0 rfl), rfl⟩, ?_⟩
    exact ⟨_, _, _, _, _, _, _, _, _, _, _, _, _, rfl, ((r199.mono (hl202.trans hl206))).mono S210.fin, ((r204.mono hl206)).mono S210.fin, (r208).mono S210.fin, (by omega), (by omega), (by rw [List.length_set]; omega), (by omega), hx65, S210.below⟩
   refine W_skip (W_seq ?_)
   obtain ⟨G212, hl213, S211, r214⟩ := S184.stillRow 1 rfl
   obtain ⟨G216, hl217, S215, r218⟩ := S211.stillRow 1 rfl
   have r219 := RdH.mk h2.1 (by decide) r218
   obtain ⟨G220, hl221, S222, r223⟩ := St.ragAll (p := [.blk b84 (.agg #[.int .i64 0, .slice none 0 0, .slice none 0 0, .slice none 0 0] : Value).cells 37]) (its := []) S215 (hv131.trans hs132.symm)
   refine W_region (T_loadGA _ S222 (still_cells (hl221 _ _ (hl217 _ _ (hl213 _ _ r187)))) rfl rfl rfl rfl rfl rfl rfl rfl (by first | rfl | simp [hVs, *]) ?_)
   refine Ak (hl := by first | rfl | simp [hVs, *]) (hl2 := by first | rfl | simp [hVs, *]) (h1 := by exact one_all rfl) 0 S222 fun w224 S225 => (T_nil (W_ret ?_))
   refine ⟨_, ⟨_, _, _, rfl, rfl, run_loadVarA rfl rfl (by first | rfl | simp [hVs, *]) (S225.cells 0 rfl), rfl⟩, ?_⟩
   exact ⟨_, _, _, _, _, _, _, _, _, _, _, _, _, rfl, ((r214.mono (hl217.trans hl221))).mono S225.fin, ((r219.mono hl221)).mono S225.fin, (r223).mono S225.fin, (by omega), (by omega), (by omega), (by omega), hx65, S225.below⟩
  refine Wr (P2 (T_nil ?_))
  refine Ab (fun h226 => ?_) (fun h226 => ?_)
  ·refine W_seq ?_
   obtain ⟨G228, hl229, S227, r230⟩ := S136.stillBlk 1 rfl
   have hz1 := Int.emod_nonneg at0 (show ((B.length : Nat) : Int) ≠ 0 by omega)
   have hz2 := Int.emod_lt_of_pos at0 (show 0 < ((B.length : Nat) : Int) by omega)
   obtain ⟨z, hz⟩ : ∃ zz : Nat, at0 % ((B.length : Nat) : Int) = (zz : Int) := ⟨(at0 % ((B.length : Nat) : Int)).toNat, by omega⟩
   refine W_plan (planF Tryz.prog G228 [68]) rfl (by kernel_rfl) S227.le ?_
   have S231 := S227.drew
   refine Fl 3 ?_
   refine Am (still_cell r230 rfl) ?_
   refine Pv ?_
   refine Fl 3 ?_
   refine Ad S231 (still_cell r230 rfl) ?_
   refine Pv ?_
   refine Cs g_aumbry_aumbrykeep_Within ((withinN_ok S231.le at0 ((B.length : Nat) : Int) (by omega)).mono ?_)
   rintro e w233 ⟨rfl, hB232⟩
   have S234 := S231.call hB232
   refine ⟨_, rfl, (((Hp.le.refl _)).trans S234.le), ?_⟩
   refine T_re (v' := .int .i64 ((z : Nat) : Int)) (congrArg (Value.int .i64) hz) ?_
   obtain ⟨g235, rfl⟩ := S234.rowAt 3 rfl (by omega)
   refine Al (hm := by show 0 + Int.toNat _ * 1 = _; omega) (z * 1) ?_
   obtain ⟨g236, c237, hv238, hc239, hr240⟩ := St.ragCell (p := [.blk b84 (.agg #[.int .i64 0, .slice none 0 0, .slice none 0 0, .slice none 0 0] : Value).cells 37, .row 5 1 (.slice a88 u.length c89) u.length (u.map bV), .row 27 32 (.slice a95 p.length c96) p.length (hcells p), .row 24 1 (.slice (some ⟨g235, 0, none⟩) B.length c103) B.length vs104]) (its := []) S234 (hv131.trans hs132.symm) (show z < B.length by omega) (hpos z (by omega))
   refine T_load rfl rfl rfl rfl rfl rfl rfl (S234.rowCell 3 rfl (by rw [Nat.mul_one]; exact hv238)) ?_
   refine Pv (T_nil ?_)
   have hel := hx _ (List.mem_of_getElem? hr240)
   have hy1 := Int.emod_nonneg at0 (show (((B.getD z []).length : Nat) : Int) ≠ 0 by omega)
   have hy2 := Int.emod_lt_of_pos at0 (show 0 < (((B.getD z []).length : Nat) : Int) by omega)
   obtain ⟨y, hy⟩ : ∃ zz : Nat, at0 % (((B.getD z []).length : Nat) : Int) = (zz : Int) := ⟨(at0 % (((B.getD z []).length : Nat) : Int)).toNat, by omega⟩
   refine W_region ?_
   iterate 4 refine Pv ?_
   refine Cs g_aumbry_aumbrykeep_Within ((withinN_ok S234.le at0 (((B.getD z []).length : Nat) : Int) (by omega)).mono ?_)
   rintro e w243 ⟨rfl, hB242⟩
   have S244 := S234.call hB242
   refine ⟨_, rfl, trivial, ?_⟩
   refine T_re (v' := .int .i64 ((y : Nat) : Int)) (congrArg (Value.int .i64) hy) (Al (hm := by show 0 + Int.toNat _ * 1 = _; omega) (y * 1) ?_)
   refine T_load rfl rfl rfl rfl rfl rfl rfl (St.ragRead (p := [.blk b84 (.agg #[.int .i64 0, .slice none 0 0, .slice none 0 0, .slice none 0 0] : Value).cells 37, .row 5 1 (.slice a88 u.length c89) u.length (u.map bV), .row 27 32 (.slice a95 p.length c96) p.length (hcells p), .row 24 1 (.slice (some ⟨g235, 0, none⟩) B.length c103) B.length vs104]) (its := []) S244 hv238 hr240 rfl (by omega)) ?_
   refine Pv ?_
   refine T_re (v' := bV (((B.getD z []).getD y 0) ^^^ 16)) (congrArg (Value.int .u8) (xorU8 _ 16)) (Al (hm := by show 0 + Int.toNat _ * 1 = _; omega) (y * 1) ?_)
   refine T_ragStore (u := ((B.getD z []).getD y 0) ^^^ 16) (its := []) [.blk b84 (.agg #[.int .i64 0, .slice none 0 0, .slice none 0 0, .slice none 0 0] : Value).cells 37, .row 5 1 (.slice a88 u.length c89) u.length (u.map bV), .row 27 32 (.slice a95 p.length c96) p.length (hcells p), .row 24 1 (.slice (some ⟨g235, 0, none⟩) B.length c103) B.length vs104] z y S244 (fun _ _ => trivial) hv238 hr240 rfl (by omega) rfl rfl rfl rfl rfl rfl rfl rfl rfl fun w245 S246 => ?_
   have hs247 : (B.set z ((B.getD z []).set y (((B.getD z []).getD y 0) ^^^ 16))).length = B.length := List.length_set.trans hs132
   have S248 : St w H G228 (.blk b84 (.agg #[.int .i64 0, .slice none 0 0, .slice none 0 0, .slice none 0 0] : Value).cells 37 :: .row 5 1 (.slice a88 u.length c89) u.length (u.map bV) :: .row 27 32 (.slice a95 p.length c96) p.length (hcells p) :: .row 24 1 (.slice (some ⟨g235, 0, none⟩) B.length c103) B.length vs104 :: (mrows 5 vs104 (B.set z ((B.getD z []).set y (((B.getD z []).getD y 0) ^^^ 16))) ++ [])) w245 := S246
   refine T_nil (W_seq ?_)
   obtain ⟨G250, hl251, S249, r252⟩ := S248.stillRow 1 rfl
   obtain ⟨G254, hl255, S253, r256⟩ := S249.stillRow 1 rfl
   have r257 := RdH.mk h2.1 (by decide) r256
   obtain ⟨G258, hl259, S260, r261⟩ := St.ragAll (p := [.blk b84 (.agg #[.int .i64 0, .slice none 0 0, .slice none 0 0, .slice none 0 0] : Value).cells 37]) (its := []) S253 (hv131.trans hs247.symm)
   refine W_region (T_loadGA _ S260 (still_cells (hl259 _ _ (hl255 _ _ (hl251 _ _ r230)))) rfl rfl rfl rfl rfl rfl rfl rfl (by first | rfl | simp [hVs, *]) ?_)
   refine Ak (hl := by first | rfl | simp [hVs, *]) (hl2 := by first | rfl | simp [hVs, *]) (h1 := by exact one_all rfl) 0 S260 fun w262 S263 => (T_nil (W_ret ?_))
   refine ⟨_, ⟨_, _, _, rfl, rfl, run_loadVarA rfl rfl (by first | rfl | simp [hVs, *]) (S263.cells 0 rfl), rfl⟩, ?_⟩
   exact ⟨_, _, _, _, _, _, _, _, _, _, _, _, _, rfl, ((r252.mono (hl255.trans hl259))).mono S263.fin, ((r257.mono hl259)).mono S263.fin, (r261).mono S263.fin, (by omega), (by omega), (by omega), (by rw [List.length_set]; omega), (set_le (m := 64) (fun x h => (hx x h).2) (by rw [List.length_set]; omega)), S263.below⟩
  refine Wr (P2 (T_nil ?_))
  refine Ab (fun h264 => ?_) (fun h264 => ?_)
  ·refine W_region (Fl 3 ?_)
   refine Ap 1 3 S136 rfl ?_
   obtain ⟨G265, hl266, S267, r268⟩ := St.ragAll (p := [.blk b84 (.agg #[.int .i64 0, .slice none 0 0, .slice none 0 0, .slice none 0 0] : Value).cells 37, .blk b81 (.agg #[.int .i64 sn, .slice a88 u.length c89, .slice a95 p.length c96, .slice a102 B.length c103] : Value).cells 37, .row 5 1 (.slice a88 u.length c89) u.length (u.map bV), .row 27 32 (.slice a95 p.length c96) p.length (hcells p)]) (its := []) S136 (hv131.trans hs132.symm)
   obtain ⟨hs273, r274, r275⟩ := (id r268)
   refine T_sliceR 1 B.length r274 rfl rfl rfl rfl rfl rfl rfl rfl rfl rfl (by first | rfl | exact congrArg some (by omega)) (bound_of (by omega)) (by omega) (by omega) fun a269 c270 hc271 r272 => ?_
   have r276 := RdL.mk r272 (r275.cut 1 (B.length - 1))
   refine Fl 3 ?_
   refine Ae (hfit := by exact show 3 < 4 by decide) 1 3 S267 fun w277 S278 => ?_
   have hE279 : (.agg #[.int .i64 sn, .slice a88 u.length c89, .slice a95 p.length c96, .slice a102 B.length c103] : Value).cells.setIfInBounds 3 (.slice a269 (B.length - 1) c270) = (.agg #[.int .i64 sn, .slice a88 u.length c89, .slice a95 p.length c96, .slice a269 (B.length - 1) c270] : Value).cells := rfl
   rw [hE279] at S278
   refine T_nil (W_seq ?_)
   obtain ⟨G281, hl282, S280, r283⟩ := S278.stillRow 2 rfl
   obtain ⟨G285, hl286, S284, r287⟩ := S280.stillRow 2 rfl
   have r288 := RdH.mk h2.1 (by decide) r287
   refine W_region (An (hl := by first | rfl | simp [hVs, *]) 1 S284 ?_)
   refine Ak (hl := by first | rfl | simp [hVs, *]) (hl2 := by first | rfl | simp [hVs, *]) (h1 := by exact one_all rfl) 0 S284 fun w289 S290 => (T_nil (W_ret ?_))
   refine ⟨_, ⟨_, _, _, rfl, rfl, run_loadVarA rfl rfl (by first | rfl | simp [hVs, *]) (S290.cells 0 rfl), rfl⟩, ?_⟩
   exact ⟨_, _, _, _, _, _, _, _, _, _, _, _, _, rfl, ((r283.mono hl286)).mono S290.fin, (r288).mono S290.fin, ((r276.mono (hl282.trans hl286))).mono S290.fin, (by omega), (by omega), (by omega), (by simp only [List.length_drop, List.length_take]; omega), (fun x h => hx65 x (List.mem_of_mem_drop (List.mem_of_mem_take h))), S290.below⟩
  refine Wr (P2 (T_nil ?_))
  refine Ab (fun h291 => ?_) (fun h291 => ?_)
  ·refine W_region (Fl 2 ?_)
   refine Ap 1 2 S136 rfl ?_
   refine T_buildA (cells := (hV (List.replicate 32 0)).cells) rfl rfl rfl rfl rfl rfl rfl rfl rfl rfl (T_litS (hcells [(List.replicate 32 0)]) rfl rfl rfl rfl rfl rfl rfl rfl rfl rfl rfl rfl rfl (one_h List.length_replicate) (by simp [hcells, hV, Value.cells]) fun a292 w293 hB294 ho295 => ?_)
   have S296 := S136.own hB294 ho295
   refine ⟨trivial, ?_⟩
   refine Ai (h1 := by exact one_hcells _) (hn' := by first | rfl | (simp; done) | (simp; omega) | omega) (hx' := by simp [hcells_append, hcells]) (h63 := by unfold maxLen; simp only [List.length_append, List.length_cons, List.length_nil]; omega) (hbytes := by show _ * 32 ≤ _; simp only [List.length_append, List.length_cons, List.length_nil]; omega) 4 ((p ++ [(List.replicate 32 0)]).length) (hcells (p ++ [(List.replicate 32 0)])) S296 (S296.rd 0 rfl) fun a297 c298 w299 hc300 S301 => ?_
   refine Fl 2 ?_
   refine Ae (hfit := by exact show 2 < 4 by decide) 2 2 S301 fun w302 S303 => ?_
   have hE304 : (.agg #[.int .i64 sn, .slice a88 u.length c89, .slice a95 p.length c96, .slice a102 B.length c103] : Value).cells.setIfInBounds 2 (.slice a297 ((p ++ [(List.replicate 32 0)]).length) c298) = (.agg #[.int .i64 sn, .slice a88 u.length c89, .slice a297 ((p ++ [(List.replicate 32 0)]).length) c298, .slice a102 B.length c103] : Value).cells := rfl
   rw [hE304] at S303
   refine T_nil (W_seq ?_)
   obtain ⟨G306, hl307, S305, r308⟩ := S303.stillRow 3 rfl
   obtain ⟨G310, hl311, S309, r312⟩ := S305.stillRow 3 rfl
   have r313 := RdH.mk (all_app h2.1 (all_h1 List.length_replicate)) (by decide) r312
   obtain ⟨G314, hl315, S316, r317⟩ := St.ragAll (p := [.row 27 32 (.slice a292 1 1) 1 (hcells ([(List.replicate 32 0)])), .blk b84 (.agg #[.int .i64 0, .slice none 0 0, .slice none 0 0, .slice none 0 0] : Value).cells 37, .blk b81 (.agg #[.int .i64 sn, .slice a88 u.length c89, .slice a297 ((p ++ [(List.replicate 32 0)]).length) c298, .slice a102 B.length c103] : Value).cells 37]) (its := []) S309 (hv131.trans hs132.symm)
   refine W_region (An (hl := by first | rfl | simp [hVs, *]) 2 S316 ?_)
   refine Ak (hl := by first | rfl | simp [hVs, *]) (hl2 := by first | rfl | simp [hVs, *]) (h1 := by exact one_all rfl) 1 S316 fun w318 S319 => (T_nil (W_ret ?_))
   refine ⟨_, ⟨_, _, _, rfl, rfl, run_loadVarA rfl rfl (by first | rfl | simp [hVs, *]) (S319.cells 1 rfl), rfl⟩, ?_⟩
   exact ⟨_, _, _, _, _, _, _, _, _, _, _, _, _, rfl, ((r308.mono (hl311.trans hl315))).mono S319.fin, ((r313.mono hl315)).mono S319.fin, (r317).mono S319.fin, (by omega), (by omega), (by rw [List.length_append]; show _ + 1 ≤ _; omega), (by omega), hx65, S319.below⟩
  refine Wr (P2 (T_nil ?_))
  refine Ab (fun h320 => ?_) (fun h320 => ?_)
  ·refine W_seq ?_
   obtain ⟨G322, hl323, S321, r324⟩ := S136.stillBlk 1 rfl
   have hz1 := Int.emod_nonneg at0 (show ((B.length : Nat) : Int) ≠ 0 by omega)
   have hz2 := Int.emod_lt_of_pos at0 (show 0 < ((B.length : Nat) : Int) by omega)
   obtain ⟨z, hz⟩ : ∃ zz : Nat, at0 % ((B.length : Nat) : Int) = (zz : Int) := ⟨(at0 % ((B.length : Nat) : Int)).toNat, by omega⟩
   have hel := hx _ (hmem z (by omega))
   refine W_region (Pv ?_)
   refine Fl 3 ?_
   refine Ad S321 (still_cell r324 rfl) ?_
   refine Pv ?_
   refine Cs g_aumbry_aumbrykeep_Within ((withinN_ok S321.le at0 ((B.length : Nat) : Int) (by omega)).mono ?_)
   rintro e w326 ⟨rfl, hB325⟩
   have S327 := S321.call hB325
   refine ⟨_, rfl, trivial, ?_⟩
   refine T_re (v' := .int .i64 ((z : Nat) : Int)) (congrArg (Value.int .i64) hz) (Pv (T_nil ?_))
   refine W_tree (planF Tryz.prog G322 [107, 110]) (.step 0 (.step 1 (.step 2 (.step 3 (.step 4 (.step 5 (.step 6 (.fork 7 8 (.step 8 (.step 9 (.step 10 (.step 11 .done)))) (.step 7 (.step 9 (.step 10 (.step 11 .done)))))))))))) rfl (by kernel_rfl) S327.le ?_
   have S328 := S327.drew
   refine TT_step rfl (Fl 3 ?_)
   refine Nt rfl (Am (still_cell r324 rfl) ?_)
   refine Nt rfl (Pv ?_)
   refine Nt rfl (Fl 3 ?_)
   refine Nt rfl (Am (still_cell r324 rfl) ?_)
   refine Nt rfl (Pv ?_)
   refine Nt rfl ?_
   obtain ⟨g329, rfl⟩ := S328.rowAt 3 rfl (by omega)
   refine Al (hm := by show 0 + Int.toNat _ * 1 = _; omega) (z * 1) (T_nil ?_)
   refine TT_fork rfl rfl ?_ ?_
   ·obtain ⟨g330, c331, hv332, hc333, hr334⟩ := St.ragCell (p := [.blk b84 (.agg #[.int .i64 0, .slice none 0 0, .slice none 0 0, .slice none 0 0] : Value).cells 37, .row 5 1 (.slice a88 u.length c89) u.length (u.map bV), .row 27 32 (.slice a95 p.length c96) p.length (hcells p), .row 24 1 (.slice (some ⟨g329, 0, none⟩) B.length c103) B.length vs104]) (its := []) S328 (hv131.trans hs132.symm) (show z < B.length by omega) (hpos z (by omega))
    refine T_load rfl rfl rfl rfl rfl rfl rfl (S328.rowCell 3 rfl (by rw [Nat.mul_one]; exact hv332)) ?_
    refine Nt rfl (Ah (hone := by simp [Value.cells]; rfl) ([(0 : UInt8)].map bV) fun a336 w337 hB338 ho339 => ?_)
    have S340 := S328.own hB338 ho339
    refine ⟨(((Hp.le.refl _)).trans S340.le), ?_⟩
    refine Nt rfl (T_ragAppend (nw := [(0 : UInt8)]) (its := []) [.row 5 1 (.slice a336 1 1) 1 (([(0 : UInt8)]).map bV), .blk b84 (.agg #[.int .i64 0, .slice none 0 0, .slice none 0 0, .slice none 0 0] : Value).cells 37, .row 5 1 (.slice a88 u.length c89) u.length (u.map bV), .row 27 32 (.slice a95 p.length c96) p.length (hcells p), .row 24 1 (.slice (some ⟨g329, 0, none⟩) B.length c103) B.length vs104] z S340 (fun _ h => ((Hp.le.refl _)).trans h) hv332 hr334 rfl rfl rfl rfl rfl rfl rfl rfl rfl rfl rfl rfl (S340.rd 0 rfl) rfl (by have := hx1000 _ (List.mem_of_getElem? hr334); rw [List.length_append]; unfold maxLen; show _ + 1 ≤ _; omega) (by have := hx1000 _ (List.mem_of_getElem? hr334); rw [List.length_append]; show (_ + 1) * 1 ≤ _; omega) fun a341 c342 w343 hc344 S345 => ?_)
    have hs347 : (B.set z (B.getD z [] ++ [(0 : UInt8)])).length = B.length := List.length_set.trans hs132
    have S346 : St w H G322 (.row 5 1 (.slice a336 1 1) 1 (([(0 : UInt8)]).map bV) :: .blk b84 (.agg #[.int .i64 0, .slice none 0 0, .slice none 0 0, .slice none 0 0] : Value).cells 37 :: .row 5 1 (.slice a88 u.length c89) u.length (u.map bV) :: .row 27 32 (.slice a95 p.length c96) p.length (hcells p) :: .row 24 1 (.slice (some ⟨g329, 0, none⟩) B.length c103) B.length vs104 :: (mrows 5 (vs104.set z (.slice a341 (B.getD z [] ++ [(0 : UInt8)]).length c342)) (B.set z (B.getD z [] ++ [(0 : UInt8)])) ++ [])) w343 := S345
    refine Nt rfl (Al (hm := by show 0 + Int.toNat _ * 1 = _; omega) (z * 1) ?_)
    refine Nt rfl (T_storeRow 4 (vs104.set z (.slice a341 (B.getD z [] ++ [(0 : UInt8)]).length c342)) S346 (fun _ h => ((Hp.le.refl _)).trans h) rfl rfl rfl rfl rfl rfl rfl rfl rfl (by show _ + 1 ≤ _ * 1; omega) (one_all rfl) (set_cells (by first | omega | (simp only [List.length_set]; omega)) rfl) fun w348 S349 => ?_)
    have hv350 : (vs104.set z (.slice a341 (B.getD z [] ++ [(0 : UInt8)]).length c342)).length = B.length := List.length_set.trans hv131
    refine T_nil (TT_done (W_seq ?_))
    obtain ⟨G352, hl353, S351, r354⟩ := S349.stillRow 2 rfl
    obtain ⟨G356, hl357, S355, r358⟩ := S351.stillRow 2 rfl
    have r359 := RdH.mk h2.1 (by decide) r358
    obtain ⟨G360, hl361, S362, r363⟩ := St.ragAll (p := [.row 5 1 (.slice a336 1 1) 1 (([(0 : UInt8)]).map bV), .blk b84 (.agg #[.int .i64 0, .slice none 0 0, .slice none 0 0, .slice none 0 0] : Value).cells 37]) (its := []) S355 (hv350.trans hs347.symm)
    refine W_region (T_loadGA _ S362 (still_cells (hl361 _ _ (hl357 _ _ (hl353 _ _ r324)))) rfl rfl rfl rfl rfl rfl rfl rfl (by first | rfl | simp [hVs, *]) ?_)
    refine Ak (hl := by first | rfl | simp [hVs, *]) (hl2 := by first | rfl | simp [hVs, *]) (h1 := by exact one_all rfl) 1 S362 fun w364 S365 => (T_nil (W_ret ?_))
    refine ⟨_, ⟨_, _, _, rfl, rfl, run_loadVarA rfl rfl (by first | rfl | simp [hVs, *]) (S365.cells 1 rfl), rfl⟩, ?_⟩
    exact ⟨_, _, _, _, _, _, _, _, _, _, _, _, _, rfl, ((r354.mono (hl357.trans hl361))).mono S365.fin, ((r359.mono hl361)).mono S365.fin, (r363).mono S365.fin, (by omega), (by omega), (by omega), (by rw [List.length_set]; omega), (set_le (m := 64) (fun x h => (hx x h).2) (by rw [List.length_append]; show _ + 1 ≤ _; omega)), S365.below⟩
   refine Ah (hone := by simp [Value.cells]; rfl) ([(0 : UInt8)].map bV) fun a366 w367 hB368 ho369 => ?_
   have S370 := S328.own hB368 ho369
   refine ⟨(((Hp.le.refl _)).trans S370.le), ?_⟩
   refine Nt rfl ?_
   obtain ⟨g371, c372, hv373, hc374, hr375⟩ := St.ragCell (p := [.row 5 1 (.slice a366 1 1) 1 (([(0 : UInt8)]).map bV), .blk b84 (.agg #[.int .i64 0, .slice none 0 0, .slice none 0 0, .slice none 0 0] : Value).cells 37, .row 5 1 (.slice a88 u.length c89) u.length (u.map bV), .row 27 32 (.slice a95 p.length c96) p.length (hcells p), .row 24 1 (.slice (some ⟨g329, 0, none⟩) B.length c103) B.length vs104]) (its := []) S370 (hv131.trans hs132.symm) (show z < B.length by omega) (hpos z (by omega))
   refine T_load rfl rfl rfl rfl rfl rfl rfl (S370.rowCell 4 rfl (by rw [Nat.mul_one]; exact hv373)) ?_
   refine Nt rfl (T_ragAppend (nw := [(0 : UInt8)]) (its := []) [.row 5 1 (.slice a366 1 1) 1 (([(0 : UInt8)]).map bV), .blk b84 (.agg #[.int .i64 0, .slice none 0 0, .slice none 0 0, .slice none 0 0] : Value).cells 37, .row 5 1 (.slice a88 u.length c89) u.length (u.map bV), .row 27 32 (.slice a95 p.length c96) p.length (hcells p), .row 24 1 (.slice (some ⟨g329, 0, none⟩) B.length c103) B.length vs104] z S370 (fun _ h => ((Hp.le.refl _)).trans h) hv373 hr375 rfl rfl rfl rfl rfl rfl rfl rfl rfl rfl rfl rfl (S370.rd 0 rfl) rfl (by have := hx1000 _ (List.mem_of_getElem? hr375); rw [List.length_append]; unfold maxLen; show _ + 1 ≤ _; omega) (by have := hx1000 _ (List.mem_of_getElem? hr375); rw [List.length_append]; show (_ + 1) * 1 ≤ _; omega) fun a377 c378 w379 hc380 S381 => ?_)
   have hs383 : (B.set z (B.getD z [] ++ [(0 : UInt8)])).length = B.length := List.length_set.trans hs132
   have S382 : St w H G322 (.row 5 1 (.slice a366 1 1) 1 (([(0 : UInt8)]).map bV) :: .blk b84 (.agg #[.int .i64 0, .slice none 0 0, .slice none 0 0, .slice none 0 0] : Value).cells 37 :: .row 5 1 (.slice a88 u.length c89) u.length (u.map bV) :: .row 27 32 (.slice a95 p.length c96) p.length (hcells p) :: .row 24 1 (.slice (some ⟨g329, 0, none⟩) B.length c103) B.length vs104 :: (mrows 5 (vs104.set z (.slice a377 (B.getD z [] ++ [(0 : UInt8)]).length c378)) (B.set z (B.getD z [] ++ [(0 : UInt8)])) ++ [])) w379 := S381
   refine Nt rfl (Al (hm := by show 0 + Int.toNat _ * 1 = _; omega) (z * 1) ?_)
   refine Nt rfl (T_storeRow 4 (vs104.set z (.slice a377 (B.getD z [] ++ [(0 : UInt8)]).length c378)) S382 (fun _ h => ((Hp.le.refl _)).trans h) rfl rfl rfl rfl rfl rfl rfl rfl rfl (by show _ + 1 ≤ _ * 1; omega) (one_all rfl) (set_cells (by first | omega | (simp only [List.length_set]; omega)) rfl) fun w384 S385 => ?_)
   have hv386 : (vs104.set z (.slice a377 (B.getD z [] ++ [(0 : UInt8)]).length c378)).length = B.length := List.length_set.trans hv131
   refine T_nil (TT_done (W_seq ?_))
   obtain ⟨G388, hl389, S387, r390⟩ := S385.stillRow 2 rfl
   obtain ⟨G392, hl393, S391, r394⟩ := S387.stillRow 2 rfl
   have r395 := RdH.mk h2.1 (by decide) r394
   obtain ⟨G396, hl397, S398, r399⟩ := St.ragAll (p := [.row 5 1 (.slice a366 1 1) 1 (([(0 : UInt8)]).map bV), .blk b84 (.agg #[.int .i64 0, .slice none 0 0, .slice none 0 0, .slice none 0 0] : Value).cells 37]) (its := []) S391 (hv386.trans hs383.symm)
   refine W_region (T_loadGA _ S398 (still_cells (hl397 _ _ (hl393 _ _ (hl389 _ _ r324)))) rfl rfl rfl rfl rfl rfl rfl rfl (by first | rfl | simp [hVs, *]) ?_)
   refine Ak (hl := by first | rfl | simp [hVs, *]) (hl2 := by first | rfl | simp [hVs, *]) (h1 := by exact one_all rfl) 1 S398 fun w400 S401 => (T_nil (W_ret ?_))
   refine ⟨_, ⟨_, _, _, rfl, rfl, run_loadVarA rfl rfl (by first | rfl | simp [hVs, *]) (S401.cells 1 rfl), rfl⟩, ?_⟩
   exact ⟨_, _, _, _, _, _, _, _, _, _, _, _, _, rfl, ((r390.mono (hl393.trans hl397))).mono S401.fin, ((r395.mono hl397)).mono S401.fin, (r399).mono S401.fin, (by omega), (by omega), (by omega), (by rw [List.length_set]; omega), (set_le (m := 64) (fun x h => (hx x h).2) (by rw [List.length_append]; show _ + 1 ≤ _; omega)), S401.below⟩
  refine W_skip (W_seq ?_)
  obtain ⟨G403, hl404, S402, r405⟩ := S136.stillRow 2 rfl
  obtain ⟨G407, hl408, S406, r409⟩ := S402.stillRow 2 rfl
  have r410 := RdH.mk h2.1 (by decide) r409
  obtain ⟨G411, hl412, S413, r414⟩ := St.ragAll (p := [.blk b84 (.agg #[.int .i64 0, .slice none 0 0, .slice none 0 0, .slice none 0 0] : Value).cells 37, .blk b81 (.agg #[.int .i64 sn, .slice a88 u.length c89, .slice a95 p.length c96, .slice a102 B.length c103] : Value).cells 37]) (its := []) S406 (hv131.trans hs132.symm)
  refine W_region (An (hl := by first | rfl | simp [hVs, *]) 1 S413 ?_)
  refine Ak (hl := by first | rfl | simp [hVs, *]) (hl2 := by first | rfl | simp [hVs, *]) (h1 := by exact one_all rfl) 0 S413 fun w415 S416 => (T_nil (W_ret ?_))
  refine ⟨_, ⟨_, _, _, rfl, rfl, run_loadVarA rfl rfl (by first | rfl | simp [hVs, *]) (S416.cells 0 rfl), rfl⟩, ?_⟩
  exact ⟨_, _, _, _, _, _, _, _, _, _, _, _, _, rfl, ((r405.mono (hl408.trans hl412))).mono S416.fin, ((r410.mono hl412)).mono S416.fin, (r414).mono S416.fin, (by omega), (by omega), (by omega), (by omega), hx65, S416.below⟩
 refine W_seq (W_tree (plan Tryz.prog) (.step 0 (.step 1 (.step 3 (.step 6 (.fork3 2 4 7 (.step 4 (.fork 5 7 (.step 7 (.step 8 (.step 9 (.step 10 (.step 11 (.step 12 (.step 13 (.step 14 .done)))))))) (.step 5 (.step 8 (.step 9 (.step 10 (.step 11 (.step 12 (.step 13 (.step 14 .done)))))))))) (.fork 2 7 (.fork 5 7 (.step 7 (.step 8 (.step 9 (.step 10 (.step 11 (.step 12 (.step 13 (.step 14 .done)))))))) (.step 5 (.step 8 (.step 9 (.step 10 (.step 11 (.step 12 (.step 13 (.step 14 .done))))))))) (.step 2 (.step 5 (.step 8 (.step 9 (.step 10 (.step 11 (.step 12 (.step 13 (.step 14 .done)))))))))) (.fork 2 4 (.step 4 (.step 5 (.step 8 (.step 9 (.step 10 (.step 11 (.step 12 (.step 13 (.step 14 .done))))))))) (.step 2 (.step 5 (.step 8 (.step 9 (.step 10 (.step 11 (.step 12 (.step 13 (.step 14 .done))))))))))))))) rfl (by kernel_rfl) trivial ?_)
 have S417 := S86.drew
 refine TT_step rfl (Fl 1 ?_)
 refine Nt rfl (Ap 1 1 S417 rfl ?_)
 refine Nt rfl (Fl 2 ?_)
 refine Nt rfl (Fl 3 (T_nil ?_))
 refine TT_fork3 rfl rfl rfl ?_ ?_ ?_
 ·refine Cs g_aumbry_aumbrykeep_Copy_byte ((copyB_ok S417.le h1 (by omega)).mono ?_)
  rintro e w423 ⟨a418, c419, hc420, rfl, ho421, hB422⟩
  have S424 := S417.own hB422 ho421
  refine ⟨_, rfl, trivial, ?_⟩
  refine Nt rfl (Ap 2 2 S424 rfl (T_nil ?_))
  refine TT_fork rfl rfl ?_ ?_
  ·refine Cs g_aumbry_aumbrykeep_Copy_aumbry_api_Hash ((copyH_ok S424.le h2 (by omega)).mono ?_)
   rintro e w430 ⟨a425, c426, hc427, rfl, ho428, hB429⟩
   have S431 := S424.own hB429 ho428
   refine ⟨_, rfl, trivial, ?_⟩
   refine Nt rfl (Ap 3 3 S431 rfl ?_)
   refine Nt rfl (Cs g_aumbry_aumbrykeep_CopyRows_byte ((copyRows_ok S431.le h3 (by omega) hx1000).mono ?_))
   rintro e w439 ⟨a432, c433, vs434, _, rfl, _, hc435, hv436, S437⟩
   have S438 : St w H H (.row 27 32 (.slice a425 p.length c426) p.length (hcells p) :: .row 5 1 (.slice a418 u.length c419) u.length (u.map bV) :: .blk b84 (.agg #[.int .i64 0, .slice none 0 0, .slice none 0 0, .slice none 0 0] : Value).cells 37 :: .blk b81 (.agg #[.int .i64 sn, .slice a1 u.length c1, .slice a2 p.length c2, .slice a3 B.length c3] : Value).cells 37 :: .row 24 1 (.slice a432 B.length c433) B.length vs434 :: (mrows 5 vs434 B ++ [])) w439 := S431.join S437
   refine ⟨_, rfl, trivial, ?_⟩
   refine Nt rfl (Fl 1 ?_)
   refine Nt rfl (Ae (hfit := by exact show 1 < 4 by decide) 3 1 S438 fun w440 S441 => ?_)
   have hE442 : (.agg #[.int .i64 sn, .slice a1 u.length c1, .slice a2 p.length c2, .slice a3 B.length c3] : Value).cells.setIfInBounds 1 (.slice a418 u.length c419) = (.agg #[.int .i64 sn, .slice a418 u.length c419, .slice a2 p.length c2, .slice a3 B.length c3] : Value).cells := rfl
   rw [hE442] at S441
   refine Nt rfl (Fl 2 ?_)
   refine Nt rfl (Ae (hfit := by exact show 2 < 4 by decide) 3 2 S441 fun w443 S444 => ?_)
   have hE445 : (.agg #[.int .i64 sn, .slice a418 u.length c419, .slice a2 p.length c2, .slice a3 B.length c3] : Value).cells.setIfInBounds 2 (.slice a425 p.length c426) = (.agg #[.int .i64 sn, .slice a418 u.length c419, .slice a425 p.length c426, .slice a3 B.length c3] : Value).cells := rfl
   rw [hE445] at S444
   refine Nt rfl (Fl 3 ?_)
   refine Nt rfl (Ae (hfit := by exact show 3 < 4 by decide) 3 3 S444 fun w446 S447 => ?_)
   have hE448 : (.agg #[.int .i64 sn, .slice a418 u.length c419, .slice a425 p.length c426, .slice a3 B.length c3] : Value).cells.setIfInBounds 3 (.slice a432 B.length c433) = (.agg #[.int .i64 sn, .slice a418 u.length c419, .slice a425 p.length c426, .slice a432 B.length c433] : Value).cells := rfl
   rw [hE448] at S447
   refine T_nil (TT_done ?_)
   have S449 := S447.swap12
   have S450 := S449.swap01
   have S451 := S450.swap23
   have S452 := S451.swap12
   have S453 := S452.swap23
   exact Ws (J128 _ _ ⟨_, _, _, _, _, _, _, H, rfl, (Hp.le.refl _), S453, hc420, hc427, hv436, (rfl : B.length = _), hc435⟩)
  refine Ap 2 3 S424 rfl ?_
  refine Nt rfl (Cs g_aumbry_aumbrykeep_Copy_aumbry_api_Hash ((copyH_ok S424.le h2 (by omega)).mono ?_))
  rintro e w459 ⟨a454, c455, hc456, rfl, ho457, hB458⟩
  have S460 := S424.own hB458 ho457
  refine ⟨_, rfl, trivial, ?_⟩
  refine Nt rfl (Cs g_aumbry_aumbrykeep_CopyRows_byte ((copyRows_ok S460.le h3 (by omega) hx1000).mono ?_))
  rintro e w468 ⟨a461, c462, vs463, _, rfl, _, hc464, hv465, S466⟩
  have S467 : St w H H (.row 27 32 (.slice a454 p.length c455) p.length (hcells p) :: .row 5 1 (.slice a418 u.length c419) u.length (u.map bV) :: .blk b84 (.agg #[.int .i64 0, .slice none 0 0, .slice none 0 0, .slice none 0 0] : Value).cells 37 :: .blk b81 (.agg #[.int .i64 sn, .slice a1 u.length c1, .slice a2 p.length c2, .slice a3 B.length c3] : Value).cells 37 :: .row 24 1 (.slice a461 B.length c462) B.length vs463 :: (mrows 5 vs463 B ++ [])) w468 := S460.join S466
  refine ⟨_, rfl, trivial, ?_⟩
  refine Nt rfl (Fl 1 ?_)
  refine Nt rfl (Ae (hfit := by exact show 1 < 4 by decide) 3 1 S467 fun w469 S470 => ?_)
  have hE471 : (.agg #[.int .i64 sn, .slice a1 u.length c1, .slice a2 p.length c2, .slice a3 B.length c3] : Value).cells.setIfInBounds 1 (.slice a418 u.length c419) = (.agg #[.int .i64 sn, .slice a418 u.length c419, .slice a2 p.length c2, .slice a3 B.length c3] : Value).cells := rfl
  rw [hE471] at S470
  refine Nt rfl (Fl 2 ?_)
  refine Nt rfl (Ae (hfit := by exact show 2 < 4 by decide) 3 2 S470 fun w472 S473 => ?_)
  have hE474 : (.agg #[.int .i64 sn, .slice a418 u.length c419, .slice a2 p.length c2, .slice a3 B.length c3] : Value).cells.setIfInBounds 2 (.slice a454 p.length c455) = (.agg #[.int .i64 sn, .slice a418 u.length c419, .slice a454 p.length c455, .slice a3 B.length c3] : Value).cells := rfl
  rw [hE474] at S473
  refine Nt rfl (Fl 3 ?_)
  refine Nt rfl (Ae (hfit := by exact show 3 < 4 by decide) 3 3 S473 fun w475 S476 => ?_)
  have hE477 : (.agg #[.int .i64 sn, .slice a418 u.length c419, .slice a454 p.length c455, .slice a3 B.length c3] : Value).cells.setIfInBounds 3 (.slice a461 B.length c462) = (.agg #[.int .i64 sn, .slice a418 u.length c419, .slice a454 p.length c455, .slice a461 B.length c462] : Value).cells := rfl
  rw [hE477] at S476
  refine T_nil (TT_done ?_)
  have S478 := S476.swap12
  have S479 := S478.swap01
  have S480 := S479.swap23
  have S481 := S480.swap12
  have S482 := S481.swap23
  exact Ws (J128 _ _ ⟨_, _, _, _, _, _, _, H, rfl, (Hp.le.refl _), S482, hc420, hc456, hv465, (rfl : B.length = _), hc464⟩)
 ·refine Ap 1 2 S417 rfl (T_nil ?_)
  refine TT_fork rfl rfl ?_ ?_
  ·refine Cs g_aumbry_aumbrykeep_Copy_byte ((copyB_ok S417.le h1 (by omega)).mono ?_)
   rintro e w488 ⟨a483, c484, hc485, rfl, ho486, hB487⟩
   have S489 := S417.own hB487 ho486
   refine ⟨_, rfl, trivial, ?_⟩
   refine T_nil (TT_fork rfl rfl ?_ ?_)
   ·refine Cs g_aumbry_aumbrykeep_Copy_aumbry_api_Hash ((copyH_ok S489.le h2 (by omega)).mono ?_)
    rintro e w495 ⟨a490, c491, hc492, rfl, ho493, hB494⟩
    have S496 := S489.own hB494 ho493
    refine ⟨_, rfl, trivial, ?_⟩
    refine Nt rfl (Ap 3 3 S496 rfl ?_)
    refine Nt rfl (Cs g_aumbry_aumbrykeep_CopyRows_byte ((copyRows_ok S496.le h3 (by omega) hx1000).mono ?_))
    rintro e w504 ⟨a497, c498, vs499, _, rfl, _, hc500, hv501, S502⟩
    have S503 : St w H H (.row 27 32 (.slice a490 p.length c491) p.length (hcells p) :: .row 5 1 (.slice a483 u.length c484) u.length (u.map bV) :: .blk b84 (.agg #[.int .i64 0, .slice none 0 0, .slice none 0 0, .slice none 0 0] : Value).cells 37 :: .blk b81 (.agg #[.int .i64 sn, .slice a1 u.length c1, .slice a2 p.length c2, .slice a3 B.length c3] : Value).cells 37 :: .row 24 1 (.slice a497 B.length c498) B.length vs499 :: (mrows 5 vs499 B ++ [])) w504 := S496.join S502
    refine ⟨_, rfl, trivial, ?_⟩
    refine Nt rfl (Fl 1 ?_)
    refine Nt rfl (Ae (hfit := by exact show 1 < 4 by decide) 3 1 S503 fun w505 S506 => ?_)
    have hE507 : (.agg #[.int .i64 sn, .slice a1 u.length c1, .slice a2 p.length c2, .slice a3 B.length c3] : Value).cells.setIfInBounds 1 (.slice a483 u.length c484) = (.agg #[.int .i64 sn, .slice a483 u.length c484, .slice a2 p.length c2, .slice a3 B.length c3] : Value).cells := rfl
    rw [hE507] at S506
    refine Nt rfl (Fl 2 ?_)
    refine Nt rfl (Ae (hfit := by exact show 2 < 4 by decide) 3 2 S506 fun w508 S509 => ?_)
    have hE510 : (.agg #[.int .i64 sn, .slice a483 u.length c484, .slice a2 p.length c2, .slice a3 B.length c3] : Value).cells.setIfInBounds 2 (.slice a490 p.length c491) = (.agg #[.int .i64 sn, .slice a483 u.length c484, .slice a490 p.length c491, .slice a3 B.length c3] : Value).cells := rfl
    rw [hE510] at S509
    refine Nt rfl (Fl 3 ?_)
    refine Nt rfl (Ae (hfit := by exact show 3 < 4 by decide) 3 3 S509 fun w511 S512 => ?_)
    have hE513 : (.agg #[.int .i64 sn, .slice a483 u.length c484, .slice a490 p.length c491, .slice a3 B.length c3] : Value).cells.setIfInBounds 3 (.slice a497 B.length c498) = (.agg #[.int .i64 sn, .slice a483 u.length c484, .slice a490 p.length c491, .slice a497 B.length c498] : Value).cells := rfl
    rw [hE513] at S512
    refine T_nil (TT_done ?_)
    have S514 := S512.swap12
    have S515 := S514.swap01
    have S516 := S515.swap23
    have S517 := S516.swap12
    have S518 := S517.swap23
    exact Ws (J128 _ _ ⟨_, _, _, _, _, _, _, H, rfl, (Hp.le.refl _), S518, hc485, hc492, hv501, (rfl : B.length = _), hc500⟩)
   refine Ap 2 3 S489 rfl ?_
   refine Nt rfl (Cs g_aumbry_aumbrykeep_Copy_aumbry_api_Hash ((copyH_ok S489.le h2 (by omega)).mono ?_))
   rintro e w524 ⟨a519, c520, hc521, rfl, ho522, hB523⟩
   have S525 := S489.own hB523 ho522
   refine ⟨_, rfl, trivial, ?_⟩
   refine Nt rfl (Cs g_aumbry_aumbrykeep_CopyRows_byte ((copyRows_ok S525.le h3 (by omega) hx1000).mono ?_))
   rintro e w533 ⟨a526, c527, vs528, _, rfl, _, hc529, hv530, S531⟩
   have S532 : St w H H (.row 27 32 (.slice a519 p.length c520) p.length (hcells p) :: .row 5 1 (.slice a483 u.length c484) u.length (u.map bV) :: .blk b84 (.agg #[.int .i64 0, .slice none 0 0, .slice none 0 0, .slice none 0 0] : Value).cells 37 :: .blk b81 (.agg #[.int .i64 sn, .slice a1 u.length c1, .slice a2 p.length c2, .slice a3 B.length c3] : Value).cells 37 :: .row 24 1 (.slice a526 B.length c527) B.length vs528 :: (mrows 5 vs528 B ++ [])) w533 := S525.join S531
   refine ⟨_, rfl, trivial, ?_⟩
   refine Nt rfl (Fl 1 ?_)
   refine Nt rfl (Ae (hfit := by exact show 1 < 4 by decide) 3 1 S532 fun w534 S535 => ?_)
   have hE536 : (.agg #[.int .i64 sn, .slice a1 u.length c1, .slice a2 p.length c2, .slice a3 B.length c3] : Value).cells.setIfInBounds 1 (.slice a483 u.length c484) = (.agg #[.int .i64 sn, .slice a483 u.length c484, .slice a2 p.length c2, .slice a3 B.length c3] : Value).cells := rfl
   rw [hE536] at S535
   refine Nt rfl (Fl 2 ?_)
   refine Nt rfl (Ae (hfit := by exact show 2 < 4 by decide) 3 2 S535 fun w537 S538 => ?_)
   have hE539 : (.agg #[.int .i64 sn, .slice a483 u.length c484, .slice a2 p.length c2, .slice a3 B.length c3] : Value).cells.setIfInBounds 2 (.slice a519 p.length c520) = (.agg #[.int .i64 sn, .slice a483 u.length c484, .slice a519 p.length c520, .slice a3 B.length c3] : Value).cells := rfl
   rw [hE539] at S538
   refine Nt rfl (Fl 3 ?_)
   refine Nt rfl (Ae (hfit := by exact show 3 < 4 by decide) 3 3 S538 fun w540 S541 => ?_)
   have hE542 : (.agg #[.int .i64 sn, .slice a483 u.length c484, .slice a519 p.length c520, .slice a3 B.length c3] : Value).cells.setIfInBounds 3 (.slice a526 B.length c527) = (.agg #[.int .i64 sn, .slice a483 u.length c484, .slice a519 p.length c520, .slice a526 B.length c527] : Value).cells := rfl
   rw [hE542] at S541
   refine T_nil (TT_done ?_)
   have S543 := S541.swap12
   have S544 := S543.swap01
   have S545 := S544.swap23
   have S546 := S545.swap12
   have S547 := S546.swap23
   exact Ws (J128 _ _ ⟨_, _, _, _, _, _, _, H, rfl, (Hp.le.refl _), S547, hc485, hc521, hv530, (rfl : B.length = _), hc529⟩)
  refine Ap 1 3 S417 rfl ?_
  refine Nt rfl (Cs g_aumbry_aumbrykeep_Copy_byte ((copyB_ok S417.le h1 (by omega)).mono ?_))
  rintro e w553 ⟨a548, c549, hc550, rfl, ho551, hB552⟩
  have S554 := S417.own hB552 ho551
  refine ⟨_, rfl, trivial, ?_⟩
  refine Nt rfl (Cs g_aumbry_aumbrykeep_Copy_aumbry_api_Hash ((copyH_ok S554.le h2 (by omega)).mono ?_))
  rintro e w560 ⟨a555, c556, hc557, rfl, ho558, hB559⟩
  have S561 := S554.own hB559 ho558
  refine ⟨_, rfl, trivial, ?_⟩
  refine Nt rfl (Cs g_aumbry_aumbrykeep_CopyRows_byte ((copyRows_ok S561.le h3 (by omega) hx1000).mono ?_))
  rintro e w569 ⟨a562, c563, vs564, _, rfl, _, hc565, hv566, S567⟩
  have S568 : St w H H (.row 27 32 (.slice a555 p.length c556) p.length (hcells p) :: .row 5 1 (.slice a548 u.length c549) u.length (u.map bV) :: .blk b84 (.agg #[.int .i64 0, .slice none 0 0, .slice none 0 0, .slice none 0 0] : Value).cells 37 :: .blk b81 (.agg #[.int .i64 sn, .slice a1 u.length c1, .slice a2 p.length c2, .slice a3 B.length c3] : Value).cells 37 :: .row 24 1 (.slice a562 B.length c563) B.length vs564 :: (mrows 5 vs564 B ++ [])) w569 := S561.join S567
  refine ⟨_, rfl, trivial, ?_⟩
  refine Nt rfl (Fl 1 ?_)
  refine Nt rfl (Ae (hfit := by exact show 1 < 4 by decide) 3 1 S568 fun w570 S571 => ?_)
  have hE572 : (.agg #[.int .i64 sn, .slice a1 u.length c1, .slice a2 p.length c2, .slice a3 B.length c3] : Value).cells.setIfInBounds 1 (.slice a548 u.length c549) = (.agg #[.int .i64 sn, .slice a548 u.length c549, .slice a2 p.length c2, .slice a3 B.length c3] : Value).cells := rfl
  rw [hE572] at S571
  refine Nt rfl (Fl 2 ?_)
  refine Nt rfl (Ae (hfit := by exact show 2 < 4 by decide) 3 2 S571 fun w573 S574 => ?_)
  have hE575 : (.agg #[.int .i64 sn, .slice a548 u.length c549, .slice a2 p.length c2, .slice a3 B.length c3] : Value).cells.setIfInBounds 2 (.slice a555 p.length c556) = (.agg #[.int .i64 sn, .slice a548 u.length c549, .slice a555 p.length c556, .slice a3 B.length c3] : Value).cells := rfl
  rw [hE575] at S574
  refine Nt rfl (Fl 3 ?_)
  refine Nt rfl (Ae (hfit := by exact show 3 < 4 by decide) 3 3 S574 fun w576 S577 => ?_)
  have hE578 : (.agg #[.int .i64 sn, .slice a548 u.length c549, .slice a555 p.length c556, .slice a3 B.length c3] : Value).cells.setIfInBounds 3 (.slice a562 B.length c563) = (.agg #[.int .i64 sn, .slice a548 u.length c549, .slice a555 p.length c556, .slice a562 B.length c563] : Value).cells := rfl
  rw [hE578] at S577
  refine T_nil (TT_done ?_)
  have S579 := S577.swap12
  have S580 := S579.swap01
  have S581 := S580.swap23
  have S582 := S581.swap12
  have S583 := S582.swap23
  exact Ws (J128 _ _ ⟨_, _, _, _, _, _, _, H, rfl, (Hp.le.refl _), S583, hc550, hc557, hv566, (rfl : B.length = _), hc565⟩)
 refine Ap 1 3 S417 rfl (T_nil ?_)
 refine TT_fork rfl rfl ?_ ?_
 ·refine Cs g_aumbry_aumbrykeep_Copy_byte ((copyB_ok S417.le h1 (by omega)).mono ?_)
  rintro e w589 ⟨a584, c585, hc586, rfl, ho587, hB588⟩
  have S590 := S417.own hB588 ho587
  refine ⟨_, rfl, trivial, ?_⟩
  refine Nt rfl (Ap 2 2 S590 rfl ?_)
  refine Nt rfl (Cs g_aumbry_aumbrykeep_Copy_aumbry_api_Hash ((copyH_ok S590.le h2 (by omega)).mono ?_))
  rintro e w596 ⟨a591, c592, hc593, rfl, ho594, hB595⟩
  have S597 := S590.own hB595 ho594
  refine ⟨_, rfl, trivial, ?_⟩
  refine Nt rfl (Cs g_aumbry_aumbrykeep_CopyRows_byte ((copyRows_ok S597.le h3 (by omega) hx1000).mono ?_))
  rintro e w605 ⟨a598, c599, vs600, _, rfl, _, hc601, hv602, S603⟩
  have S604 : St w H H (.row 27 32 (.slice a591 p.length c592) p.length (hcells p) :: .row 5 1 (.slice a584 u.length c585) u.length (u.map bV) :: .blk b84 (.agg #[.int .i64 0, .slice none 0 0, .slice none 0 0, .slice none 0 0] : Value).cells 37 :: .blk b81 (.agg #[.int .i64 sn, .slice a1 u.length c1, .slice a2 p.length c2, .slice a3 B.length c3] : Value).cells 37 :: .row 24 1 (.slice a598 B.length c599) B.length vs600 :: (mrows 5 vs600 B ++ [])) w605 := S597.join S603
  refine ⟨_, rfl, trivial, ?_⟩
  refine Nt rfl (Fl 1 ?_)
  refine Nt rfl (Ae (hfit := by exact show 1 < 4 by decide) 3 1 S604 fun w606 S607 => ?_)
  have hE608 : (.agg #[.int .i64 sn, .slice a1 u.length c1, .slice a2 p.length c2, .slice a3 B.length c3] : Value).cells.setIfInBounds 1 (.slice a584 u.length c585) = (.agg #[.int .i64 sn, .slice a584 u.length c585, .slice a2 p.length c2, .slice a3 B.length c3] : Value).cells := rfl
  rw [hE608] at S607
  refine Nt rfl (Fl 2 ?_)
  refine Nt rfl (Ae (hfit := by exact show 2 < 4 by decide) 3 2 S607 fun w609 S610 => ?_)
  have hE611 : (.agg #[.int .i64 sn, .slice a584 u.length c585, .slice a2 p.length c2, .slice a3 B.length c3] : Value).cells.setIfInBounds 2 (.slice a591 p.length c592) = (.agg #[.int .i64 sn, .slice a584 u.length c585, .slice a591 p.length c592, .slice a3 B.length c3] : Value).cells := rfl
  rw [hE611] at S610
  refine Nt rfl (Fl 3 ?_)
  refine Nt rfl (Ae (hfit := by exact show 3 < 4 by decide) 3 3 S610 fun w612 S613 => ?_)
  have hE614 : (.agg #[.int .i64 sn, .slice a584 u.length c585, .slice a591 p.length c592, .slice a3 B.length c3] : Value).cells.setIfInBounds 3 (.slice a598 B.length c599) = (.agg #[.int .i64 sn, .slice a584 u.length c585, .slice a591 p.length c592, .slice a598 B.length c599] : Value).cells := rfl
  rw [hE614] at S613
  refine T_nil (TT_done ?_)
  have S615 := S613.swap12
  have S616 := S615.swap01
  have S617 := S616.swap23
  have S618 := S617.swap12
  have S619 := S618.swap23
  exact Ws (J128 _ _ ⟨_, _, _, _, _, _, _, H, rfl, (Hp.le.refl _), S619, hc586, hc593, hv602, (rfl : B.length = _), hc601⟩)
 refine Ap 1 2 S417 rfl ?_
 refine Nt rfl (Cs g_aumbry_aumbrykeep_Copy_byte ((copyB_ok S417.le h1 (by omega)).mono ?_))
 rintro e w625 ⟨a620, c621, hc622, rfl, ho623, hB624⟩
 have S626 := S417.own hB624 ho623
 refine ⟨_, rfl, trivial, ?_⟩
 refine Nt rfl (Cs g_aumbry_aumbrykeep_Copy_aumbry_api_Hash ((copyH_ok S626.le h2 (by omega)).mono ?_))
 rintro e w632 ⟨a627, c628, hc629, rfl, ho630, hB631⟩
 have S633 := S626.own hB631 ho630
 refine ⟨_, rfl, trivial, ?_⟩
 refine Nt rfl (Cs g_aumbry_aumbrykeep_CopyRows_byte ((copyRows_ok S633.le h3 (by omega) hx1000).mono ?_))
 rintro e w641 ⟨a634, c635, vs636, _, rfl, _, hc637, hv638, S639⟩
 have S640 : St w H H (.row 27 32 (.slice a627 p.length c628) p.length (hcells p) :: .row 5 1 (.slice a620 u.length c621) u.length (u.map bV) :: .blk b84 (.agg #[.int .i64 0, .slice none 0 0, .slice none 0 0, .slice none 0 0] : Value).cells 37 :: .blk b81 (.agg #[.int .i64 sn, .slice a1 u.length c1, .slice a2 p.length c2, .slice a3 B.length c3] : Value).cells 37 :: .row 24 1 (.slice a634 B.length c635) B.length vs636 :: (mrows 5 vs636 B ++ [])) w641 := S633.join S639
 refine ⟨_, rfl, trivial, ?_⟩
 refine Nt rfl (Fl 1 ?_)
 refine Nt rfl (Ae (hfit := by exact show 1 < 4 by decide) 3 1 S640 fun w642 S643 => ?_)
 have hE644 : (.agg #[.int .i64 sn, .slice a1 u.length c1, .slice a2 p.length c2, .slice a3 B.length c3] : Value).cells.setIfInBounds 1 (.slice a620 u.length c621) = (.agg #[.int .i64 sn, .slice a620 u.length c621, .slice a2 p.length c2, .slice a3 B.length c3] : Value).cells := rfl
 rw [hE644] at S643
 refine Nt rfl (Fl 2 ?_)
 refine Nt rfl (Ae (hfit := by exact show 2 < 4 by decide) 3 2 S643 fun w645 S646 => ?_)
 have hE647 : (.agg #[.int .i64 sn, .slice a620 u.length c621, .slice a2 p.length c2, .slice a3 B.length c3] : Value).cells.setIfInBounds 2 (.slice a627 p.length c628) = (.agg #[.int .i64 sn, .slice a620 u.length c621, .slice a627 p.length c628, .slice a3 B.length c3] : Value).cells := rfl
 rw [hE647] at S646
 refine Nt rfl (Fl 3 ?_)
 refine Nt rfl (Ae (hfit := by exact show 3 < 4 by decide) 3 3 S646 fun w648 S649 => ?_)
 have hE650 : (.agg #[.int .i64 sn, .slice a620 u.length c621, .slice a627 p.length c628, .slice a3 B.length c3] : Value).cells.setIfInBounds 3 (.slice a634 B.length c635) = (.agg #[.int .i64 sn, .slice a620 u.length c621, .slice a627 p.length c628, .slice a634 B.length c635] : Value).cells := rfl
 rw [hE650] at S649
 refine T_nil (TT_done ?_)
 have S651 := S649.swap12
 have S652 := S651.swap01
 have S653 := S652.swap23
 have S654 := S653.swap12
 have S655 := S654.swap23
 exact Ws (J128 _ _ ⟨_, _, _, _, _, _, _, H, rfl, (Hp.le.refl _), S655, hc622, hc629, hv638, (rfl : B.length = _), hc637⟩)


theorem g_aumbry_gf_twice : goFn Tryz.prog 163 = true := by kernel_rfl
theorem g_aumbry_gf_Add : goFn Tryz.prog 165 = true := by kernel_rfl
theorem g_aumbry_gf_New : goFn Tryz.prog 134 = true := by kernel_rfl
theorem g_aumbry_gf_Field_Pow : goFn Tryz.prog 135 = true := by kernel_rfl
theorem g_aumbry_gf_Field_Inv : goFn Tryz.prog 143 = true := by kernel_rfl
theorem g_aumbry_gf_Field_Mul : goFn Tryz.prog 142 = true := by kernel_rfl
theorem g_aumbry_gf_sum : goFn Tryz.prog 166 = true := by kernel_rfl
theorem g_aumbry_gf_Field_Dot : goFn Tryz.prog 145 = true := by kernel_rfl
theorem g_aumbry_matrix_in : goFn Tryz.prog 133 = true := by kernel_rfl
theorem g_aumbry_matrix_made : goFn Tryz.prog 136 = true := by kernel_rfl
theorem g_aumbry_matrix_Vandermonde_1 : goFn Tryz.prog 137 = true := by kernel_rfl
theorem g_aumbry_matrix_Vandermonde : goFn Tryz.prog 107 = true := by kernel_rfl
theorem g_aumbry_matrix_may : goFn Tryz.prog 138 = true := by kernel_rfl
theorem g_aumbry_matrix_Unit_1 : goFn Tryz.prog 164 = true := by kernel_rfl
theorem g_aumbry_matrix_Unit : goFn Tryz.prog 140 = true := by kernel_rfl
theorem g_aumbry_matrix_column : goFn Tryz.prog 147 = true := by kernel_rfl
theorem g_aumbry_matrix_scale : goFn Tryz.prog 141 = true := by kernel_rfl
theorem g_aumbry_matrix_take : goFn Tryz.prog 144 = true := by kernel_rfl
theorem g_aumbry_matrix_Inverse_1 : goFn Tryz.prog 139 = true := by kernel_rfl
theorem g_aumbry_matrix_Inverse : goFn Tryz.prog 108 = true := by kernel_rfl
theorem g_aumbry_matrix_Mul_1 : goFn Tryz.prog 146 = true := by kernel_rfl
theorem g_aumbry_matrix_Mul : goFn Tryz.prog 109 = true := by kernel_rfl
theorem g_aumbry_rs_New : goFn Tryz.prog 68 = true := by kernel_rfl
theorem gtwice_w {W : World} {H : Hp} {B : Bp} {w : World} (C0 : Wk W H B w) (x : UInt8) :
  Calls Tryz.prog 163 #[bV x] w fun e w' => ∃ B', B.le B' ∧ Wk W H B' w' ∧ ∃ x : UInt8, e = .returned (bV x) := by
 refine Aa Tryz.func163 Tryz.ntmps163 Tryz.results163 (Wr ?_)
 refine Pv (T_nil (W_seq (Wr ?_)))
 refine Pv ?_
 have hb_x := x.toNat_lt
 refine Pv ?_
 refine T_gen8 (wk_wrap _) fun x21 => (Pv (T_nil ?_))
 refine W_cond_not rfl (fun h22 => ?_) (fun h22 => ?_)
 ·refine Wr (Pv ?_)
  have hb_x := x.toNat_lt
  refine T_shl rfl rfl rfl rfl rfl rfl (by omega) ?_
  refine T_gen8 (wk_wrap _) fun x23 => ?_
  have hb_x23 := x23.toNat_lt
  refine Pv ?_
  refine T_gen8 (wk_wrap _) fun x24 => (Pv (T_nil (W_ret ?_)))
  refine ⟨_, ⟨_, _, rfl, rfl, rfl⟩, B, (Bp.le.refl _), C0, ?_⟩
  exact ⟨(x24 : UInt8), rfl⟩
 refine W_skip (Wr (Pv ?_))
 have hb_x := x.toNat_lt
 refine T_shl rfl rfl rfl rfl rfl rfl (by omega) ?_
 refine T_gen8 (wk_wrap _) fun x25 => (Pv (T_nil (W_ret ?_)))
 refine ⟨_, ⟨_, _, rfl, rfl, rfl⟩, B, (Bp.le.refl _), C0, ?_⟩
 exact ⟨(x25 : UInt8), rfl⟩


theorem gadd_w {W : World} {H : Hp} {B : Bp} {w : World} (C0 : Wk W H B w) (x y : UInt8) :
  Calls Tryz.prog 165 #[bV x, bV y] w fun e w' => ∃ B', B.le B' ∧ Wk W H B' w' ∧ ∃ x : UInt8, e = .returned (bV x) := by
 refine enter2 _ Tryz.func165 rfl Tryz.ntmps165 Tryz.results165 rfl (Wr (Pv (Nr ?_)))
 refine P2 ?_
 have hb_x := x.toNat_lt
 have hb_y := y.toNat_lt
 refine Pv ?_
 refine T_gen8 (wk_wrap _) fun x21 => (Pv (T_nil (W_ret ?_)))
 refine ⟨_, ⟨_, _, rfl, rfl, rfl⟩, B, (Bp.le.refl _), C0, ?_⟩
 exact ⟨(x21 : UInt8), rfl⟩


theorem gnew_w {W : World} {H : Hp} {B : Bp} {w : World} (C0 : Wk W H B w)  :
  Calls Tryz.prog 134 #[] w fun e w' => ∃ B', B.le B' ∧ Wk W H B' w' ∧ ∃ b, e = .returned (.pointer (some ⟨b, 0, none⟩)) ∧ GfB B' b := by
 refine enter0 _ Tryz.func134 rfl Tryz.ntmps134 Tryz.results134 (Wr (Pv (Nr ?_)))
 refine T_buildS (cells := gfZ) rfl rfl rfl rfl rfl rfl (by kernel_rfl) rfl rfl rfl ?_
 refine T_boxK C0 (.gf 185) (fun _ => trivial) rfl rfl rfl rfl rfl rfl rfl gfZ_ok fun b21 w26 B23 hl24 hb22 C25 => ?_
 have hb22' : GfB B23 b21 := ⟨_, hb22⟩
 refine Pv (Nr ?_)
 refine Pv (T_nil (W_seq (Wr ?_)))
 refine Pv (T_nil (W_block ?_))
 refine W_loop (fun M ρ w' => ∃ (k : Nat) (x31 : UInt8) (B27 : Bp), M = 255 - k ∧ k ≤ 255 ∧ ρ = [(1, .pointer (some ⟨b21, 0, none⟩)), (2, bV x31), (6, .int .i64 (k : Int))] ∧ B23.le B27 ∧ Wk W H B27 w')
  (255 - 0) [(1, .pointer (some ⟨b21, 0, none⟩)), (2, .int .u8 1), (6, .int .i64 ((0 : Nat) : Int))] ⟨rfl, rfl, ciI, trivial⟩ ⟨0, 1, B23, rfl, (by exact Nat.zero_le _), rfl, Bp.le.refl _, C25⟩ ?_
 rintro M ρ w30 ⟨k, x31, B27, rfl, hp32, rfl, hl28, C29⟩
 refine Wr (Pv (T_nil (W_seq ?_)))
 refine Ab (fun h33 => ?_) (fun h33 => ?_)
 ·refine W_skip (W_seq (W_block (Wr (P2 (T_nil (W_seq ?_))))))
  refine W_plan (planW Tryz.prog) rfl (by kernel_rfl) trivial ?_
  have C34 := C29.drew
  iterate 4 refine Pv ?_
  refine Ar ?_
  refine P3 ?_
  refine Fl 0 ?_
  refine Ac ?_
  refine T_storeFPK (u := x31) C34 (hb22'.mono hl28) (fun _ => trivial) rfl rfl rfl rfl rfl rfl rfl rfl (by omega) fun w35 C36 => ?_
  refine Pv ?_
  refine Fl 0 ?_
  refine Ac ?_
  refine T_storeFPK (u := x31) C36 (hb22'.mono hl28) (fun _ => trivial) rfl rfl rfl rfl rfl rfl rfl rfl (by omega) fun w37 C38 => (Nr ?_)
  iterate 4 refine Pv ?_
  refine Fl 510 ?_
  have hb_x31 := x31.toNat_lt
  refine Ac ?_
  refine T_storeFLK (((x31.toNat : Int)).toNat) k C38 (hb22'.mono hl28) (fun _ => trivial) rfl rfl rfl rfl rfl rfl rfl rfl (by omega) (by omega) (by omega) (by omega) fun w39 C40 => (T_nil (W_region ?_))
  refine Pv ?_
  refine Cw g_aumbry_gf_twice ((gtwice_w C40 x31).mono ?_)
  rintro e w44 ⟨B41, hl42, C43, x45, rfl⟩
  refine ⟨_, rfl, ?_⟩
  refine Pv (T_nil (W_region ?_))
  refine Ar ?_
  refine Pv (T_nil ?_)
  exact ⟨255 - (k + 1), [(1, .pointer (some ⟨b21, 0, none⟩)), (2, bV x45), (6, .int .i64 ((k + 1 : Nat) : Int))], by omega, ⟨rfl, rfl, ciI, trivial⟩, k + 1, x45, B41, rfl, (by omega), rfl, (hl28.trans hl42), C43⟩
 refine W_exit (Wr (P2 (T_nil (W_ret ?_))))
 refine ⟨_, ⟨_, _, rfl, rfl, rfl⟩, B27, (hl24.trans hl28), C29, ?_⟩
 exact ⟨_, rfl, (hb22'.mono hl28)⟩


theorem gpow_w {W : World} {H : Hp} {B : Bp} {w : World} (C0 : Wk W H B w) {fb : Nat} (hf : GfB B fb) (x : UInt8) (k : Int) (hk : -9223372036854775808 ≤ k ∧ k ≤ 9223372036854775807) :
  Calls Tryz.prog 135 #[.pointer (some ⟨fb, 0, none⟩), bV x, .int .i64 k] w fun e w' => ∃ B', B.le B' ∧ Wk W H B' w' ∧ ∃ x : UInt8, e = .returned (bV x) := by
 refine enter3 _ Tryz.func135 rfl Tryz.ntmps135 Tryz.results135 rfl (Wr (Pv (T_nil (W_seq (W_block (Wr ?_))))))
 refine P3 (T_nil ?_)
 refine Ab (fun h21 => ?_) (fun h21 => ?_)
 ·refine Wr (Pv (T_nil (W_ret ?_)))
  refine ⟨_, ⟨_, _, rfl, rfl, rfl⟩, B, (Bp.le.refl _), C0, ?_⟩
  exact ⟨(1 : UInt8), rfl⟩
 refine Wr (P3 (T_nil ?_))
 refine Ab (fun h22 => ?_) (fun h22 => ?_)
 ·refine Wr (Pv (T_nil (W_ret ?_)))
  refine ⟨_, ⟨_, _, rfl, rfl, rfl⟩, B, (Bp.le.refl _), C0, ?_⟩
  exact ⟨(0 : UInt8), rfl⟩
 refine W_skip (W_seq (W_plan (planW Tryz.prog) rfl (by kernel_rfl) trivial ?_))
 have C23 := C0.drew
 iterate 4 refine Pv ?_
 refine Fl 510 ?_
 have hb_x := x.toNat_lt
 refine Ac ?_
 refine T_loadLK (((x.toNat : Int)).toNat) C23 hf rfl rfl rfl rfl rfl rfl rfl (by omega) (by omega) fun z24 hz25 => ?_
 refine Pv ?_
 refine T_rem rfl rfl rfl rfl rfl rfl (by omega) ?_
 have hm1 : (0 : Int) ≤ ((z24 : Nat) : Int) * (k % 255) := Int.mul_nonneg (by omega) (by omega)
 have hm2 : ((z24 : Nat) : Int) * (k % 255) ≤ 254 * 254 := Int.mul_le_mul (by omega) (by omega) (by omega) (by omega)
 refine Ar ?_
 refine T_rem rfl rfl rfl rfl rfl rfl (by omega) ?_
 refine Pv ?_
 refine Fl 0 ?_
 refine Ac ?_
 refine T_loadPK C23 hf rfl rfl rfl rfl rfl rfl rfl (by omega) fun x26 => ?_
 refine Pv (T_nil (W_ret ?_))
 refine ⟨_, ⟨_, _, rfl, rfl, rfl⟩, B, (Bp.le.refl _), C23, ?_⟩
 exact ⟨(x26 : UInt8), rfl⟩


theorem ginv_w {W : World} {H : Hp} {B : Bp} {w : World} (C0 : Wk W H B w) {fb : Nat} (hf : GfB B fb) (x : UInt8) :
  Calls Tryz.prog 143 #[.pointer (some ⟨fb, 0, none⟩), bV x] w fun e w' => ∃ B', B.le B' ∧ Wk W H B' w' ∧ ∃ x : UInt8, e = .returned (bV x) := by
 refine enter2 _ Tryz.func143 rfl Tryz.ntmps143 Tryz.results143 rfl (Wr (Pv (T_nil (W_seq (Wr ?_)))))
 refine P2 (T_nil ?_)
 refine Ab (fun h21 => ?_) (fun h21 => ?_)
 ·refine Wr (Pv (T_nil (W_ret ?_)))
  refine ⟨_, ⟨_, _, rfl, rfl, rfl⟩, B, (Bp.le.refl _), C0, ?_⟩
  exact ⟨(0 : UInt8), rfl⟩
 refine W_skip (W_seq (W_plan (planW Tryz.prog) rfl (by kernel_rfl) trivial ?_))
 have C22 := C0.drew
 iterate 4 refine Pv ?_
 refine Fl 510 ?_
 have hb_x := x.toNat_lt
 refine Ac ?_
 refine T_loadLK (((x.toNat : Int)).toNat) C22 hf rfl rfl rfl rfl rfl rfl rfl (by omega) (by omega) fun z23 hz24 => ?_
 refine Ar ?_
 refine Pv ?_
 refine Fl 0 ?_
 refine Ac ?_
 refine T_loadPK C22 hf rfl rfl rfl rfl rfl rfl rfl (by omega) fun x25 => ?_
 refine Pv (T_nil (W_ret ?_))
 refine ⟨_, ⟨_, _, rfl, rfl, rfl⟩, B, (Bp.le.refl _), C22, ?_⟩
 exact ⟨(x25 : UInt8), rfl⟩


theorem gmul_w {W : World} {H : Hp} {B : Bp} {w : World} (C0 : Wk W H B w) {fb : Nat} (hf : GfB B fb) (x y : UInt8) :
  Calls Tryz.prog 142 #[.pointer (some ⟨fb, 0, none⟩), bV x, bV y] w fun e w' => ∃ B', B.le B' ∧ Wk W H B' w' ∧ ∃ x : UInt8, e = .returned (bV x) := by
 refine enter3 _ Tryz.func142 rfl Tryz.ntmps142 Tryz.results142 rfl (Wr (Pv (T_nil (W_seq (Wr ?_)))))
 refine P3 ?_
 refine Td 9 (fun h21 => ?_) (fun h21 => ?_)
 ·iterate 2 refine No ?_
  refine Pv (T_nil ?_)
  refine W_cond_true rfl (Wr (Pv (T_nil (W_ret ?_))))
  refine ⟨_, ⟨_, _, rfl, rfl, rfl⟩, B, (Bp.le.refl _), C0, ?_⟩
  exact ⟨(0 : UInt8), rfl⟩
 iterate 2 (refine Ys ?_; refine Pv ?_)
 refine Pv (T_nil ?_)
 refine Ab (fun h22 => ?_) (fun h22 => ?_)
 ·refine Wr (Pv (T_nil (W_ret ?_)))
  refine ⟨_, ⟨_, _, rfl, rfl, rfl⟩, B, (Bp.le.refl _), C0, ?_⟩
  exact ⟨(0 : UInt8), rfl⟩
 refine W_skip (W_seq (W_plan (planW Tryz.prog) rfl (by kernel_rfl) trivial ?_))
 have C23 := C0.drew
 iterate 4 refine Pv ?_
 refine Fl 510 ?_
 have hb_x := x.toNat_lt
 refine Ac ?_
 refine T_loadLK (((x.toNat : Int)).toNat) C23 hf rfl rfl rfl rfl rfl rfl rfl (by omega) (by omega) fun z24 hz25 => ?_
 refine P3 ?_
 refine Fl 510 ?_
 have hb_y := y.toNat_lt
 refine Ac ?_
 refine T_loadLK (((y.toNat : Int)).toNat) C23 hf rfl rfl rfl rfl rfl rfl rfl (by omega) (by omega) fun z26 hz27 => ?_
 refine Ar ?_
 refine Pv ?_
 refine Fl 0 ?_
 refine Ac ?_
 refine T_loadPK C23 hf rfl rfl rfl rfl rfl rfl rfl (by omega) fun x28 => ?_
 refine Pv (T_nil (W_ret ?_))
 refine ⟨_, ⟨_, _, rfl, rfl, rfl⟩, B, (Bp.le.refl _), C23, ?_⟩
 exact ⟨(x28 : UInt8), rfl⟩


theorem gsum_w {W : World} {H : Hp} {B : Bp} {w : World} (C0 : Wk W H B w) {fv : Value} (hf : FnB Tryz.prog W H B fv ABB) {a1 : Option Addr} {n c1 : Nat} (h1 : SlB B (.slice a1 n c1) n) {a2 : Option Addr} {m c2 : Nat} (h2 : SlB B (.slice a2 m c2) m) (hn : n ≤ 1000) (hm : m ≤ 1000) :
  Calls Tryz.prog 166 #[fv, .slice a1 n c1, .slice a2 m c2] w fun e w' => ∃ B', B.le B' ∧ Wk W H B' w' ∧ ∃ x : UInt8, e = .returned (bV x) := by
 obtain ⟨fvf, fva, fvc, rfl⟩ := hf.shape
 refine enter3 _ Tryz.func166 rfl Tryz.ntmps166 Tryz.results166 rfl (Wr (Pv (Nr ?_)))
 refine Pv (T_nil (W_seq (Wr ?_)))
 iterate 6 refine Pv ?_
 refine T_nil (W_block ?_)
 refine W_loop (fun M ρ w' => ∃ (k : Nat) (x25 : UInt8) (B21 : Bp), M = (min n m) - k ∧ k ≤ (min n m) ∧ ρ = [(0, .func (.func fvf) fva fvc), (1, .slice a1 n c1), (2, .slice a2 m c2), (7, bV x25), (13, .int .i64 (min ((n : Nat) : Int) ((m : Nat) : Int))), (14, .int .i64 (k : Int))] ∧ B.le B21 ∧ Wk W H B21 w')
  ((min n m) - 0) [(0, .func (.func fvf) fva fvc), (1, .slice a1 n c1), (2, .slice a2 m c2), (7, .int .u8 0), (13, .int .i64 (min ((n : Nat) : Int) ((m : Nat) : Int))), (14, .int .i64 ((0 : Nat) : Int))] ⟨rfl, rfl, rfl, rfl, ciI, ciI, trivial⟩ ⟨0, 0, B, rfl, (by exact Nat.zero_le _), rfl, Bp.le.refl _, C0⟩ ?_
 rintro M ρ w24 ⟨k, x25, B21, rfl, hp26, rfl, hl22, C23⟩
 refine Wr (Pv (T_nil (W_seq ?_)))
 refine Ab (fun h27 => ?_) (fun h27 => ?_)
 ·refine W_skip (W_seq (W_block (Wr (P2 (T_nil ?_)))))
  refine W_plan (planW Tryz.prog) rfl (by kernel_rfl) trivial ?_
  have C28 := C23.drew
  iterate 4 refine Pv ?_
  refine At (h1.mono hl22) fun b29 o30 q31 hb32 hq33 => ?_
  refine As C28 hb32 fun x34 => ?_
  refine P2 ?_
  refine At (h2.mono hl22) fun b35 o36 q37 hb38 hq39 => ?_
  refine As C28 hb38 fun x40 => ?_
  refine T_callF C28 (hf.mono hl22) (fun _ => trivial) rfl rfl rfl ⟨x34, x40, rfl⟩ rfl rfl rfl rfl fun x41 w45 B42 hl43 C44 => (Cw g_aumbry_gf_Add ((gadd_w C44 x25 x41).mono ?_))
  rintro e w49 ⟨B46, hl47, C48, x50, rfl⟩
  refine ⟨_, rfl, ?_⟩
  refine Pv (T_nil (W_region ?_))
  refine Ar ?_
  refine Pv (T_nil ?_)
  exact ⟨(min n m) - (k + 1), [(0, .func (.func fvf) fva fvc), (1, .slice a1 n c1), (2, .slice a2 m c2), (7, bV x50), (13, .int .i64 (min ((n : Nat) : Int) ((m : Nat) : Int))), (14, .int .i64 ((k + 1 : Nat) : Int))], by omega, ⟨rfl, rfl, rfl, rfl, ciI, ciI, trivial⟩, k + 1, x50, B46, rfl, (by omega), rfl, (hl22.trans (hl43.trans hl47)), C48⟩
 refine W_exit (Wr (P2 (T_nil (W_ret ?_))))
 refine ⟨_, ⟨_, _, rfl, rfl, rfl⟩, B21, hl22, C23, ?_⟩
 exact ⟨(x25 : UInt8), rfl⟩


theorem gdot_w {W : World} {H : Hp} {B : Bp} {w : World} (C0 : Wk W H B w) {fb : Nat} (hf : GfB B fb) {a1 : Option Addr} {n c1 : Nat} (h1 : SlB B (.slice a1 n c1) n) {a2 : Option Addr} {m c2 : Nat} (h2 : SlB B (.slice a2 m c2) m) (hn : n ≤ 1000) (hm : m ≤ 1000) :
  Calls Tryz.prog 145 #[.pointer (some ⟨fb, 0, none⟩), .slice a1 n c1, .slice a2 m c2] w fun e w' => ∃ B', B.le B' ∧ Wk W H B' w' ∧ ∃ x : UInt8, e = .returned (bV x) := by
 refine enter3 _ Tryz.func145 rfl Tryz.ntmps145 Tryz.results145 rfl (Wr (Pv (Nr ?_)))
 refine Pv ?_
 refine T_makeF rfl rfl rfl rfl rfl rfl ?_
 have hf21 : FnB Tryz.prog W H B (.func (.func 142) #[.pointer (some ⟨fb, 0, none⟩)] #[]) ABB := ⟨_, [.pointer (some ⟨fb, 0, none⟩)], [], rfl, g_aumbry_gf_Field_Mul, fun B1 w1 hl C1 args hA => by obtain ⟨x, y, rfl⟩ := hA; exact gmul_w C1 (hf.mono hl) x y⟩
 refine P2 ?_
 refine Cw g_aumbry_gf_sum ((gsum_w C0 hf21 h1 h2 (by omega) (by omega)).mono ?_)
 rintro e w25 ⟨B22, hl23, C24, x26, rfl⟩
 refine ⟨_, rfl, ?_⟩
 refine Pv (T_nil (W_ret ?_))
 refine ⟨_, ⟨_, _, rfl, rfl, rfl⟩, B22, hl23, C24, ?_⟩
 exact ⟨(x26 : UInt8), rfl⟩


theorem min_w {W : World} {H : Hp} {B : Bp} {w : World} (C0 : Wk W H B w) (z : Int) :
  Calls Tryz.prog 133 #[.int .i64 z] w fun e w' => ∃ B', B.le B' ∧ Wk W H B' w' ∧ e = .returned (.bool (decide (1 ≤ z ∧ z ≤ 16))) := by
 refine Aa Tryz.func133 Tryz.ntmps133 Tryz.results133 (Wr ?_)
 refine Pv (Nr ?_)
 refine P3 ?_
 refine Td 5 (fun h21 => ?_) (fun h21 => ?_)
 ·iterate 2 (refine Ys ?_; refine Pv ?_)
  refine P2 (T_nil (W_ret ?_))
  refine ⟨_, ⟨_, _, rfl, rfl, rfl⟩, B, (Bp.le.refl _), C0, ?_⟩
  first | exact congrArg (fun q => Ending.returned (Value.bool q)) (decide_eq_true (by omega)).symm | exact congrArg (fun q => Ending.returned (Value.bool q)) (decide_eq_false (by omega)).symm | exact congrArg (fun q => Ending.returned (Value.bool q)) (decide_eq_decide.2 (by omega))
 iterate 2 refine No ?_
 refine P2 (T_nil (W_ret ?_))
 refine ⟨_, ⟨_, _, rfl, rfl, rfl⟩, B, (Bp.le.refl _), C0, ?_⟩
 first | exact congrArg (fun q => Ending.returned (Value.bool q)) (decide_eq_true (by omega)).symm | exact congrArg (fun q => Ending.returned (Value.bool q)) (decide_eq_false (by omega)).symm | exact congrArg (fun q => Ending.returned (Value.bool q)) (decide_eq_decide.2 (by omega))


theorem made_w {W : World} {H : Hp} {B : Bp} {w : World} (C0 : Wk W H B w) (n m : Nat) {fv : Value} (hf : FnB Tryz.prog W H B fv (AIJ n m)) (hn : n ≤ 16) (hm : m ≤ 16) :
  Calls Tryz.prog 136 #[.int .i64 ((n : Nat) : Int), .int .i64 ((m : Nat) : Int), fv] w fun e w' => ∃ B', B.le B' ∧ Wk W H B' w' ∧ ∃ a c, e = .returned (.slice a n c) ∧ RoB B' (.slice a n c) n m := by
 obtain ⟨fvf, fva, fvc, rfl⟩ := hf.shape
 refine enter3 _ Tryz.func136 rfl Tryz.ntmps136 Tryz.results136 rfl (Wr (Pv (Nr ?_)))
 refine Pv ?_
 refine T_makeKR C0 n m (fun _ => trivial) rfl rfl rfl rfl rfl rfl rfl rfl rfl rfl rfl (by omega) (by omega) (by show 24 * _ ≤ _; omega) (by unfold maxLen; omega) fun b21 w27 B24 hl25 hb22 C26 => ?_
 have hr23 : RpB B24 b21 n m (fun i => i < 0) := ⟨_, _, hb22, fun i hi => absurd hi (Nat.not_lt_zero _)⟩
 refine Pv (T_nil (W_seq (Wr ?_)))
 refine P3 (T_nil (W_block ?_))
 refine W_loop (fun M ρ w' => ∃ (k : Nat) (B28 : Bp), M = n - k ∧ k ≤ n ∧ ρ = [(1, .int .i64 ((m : Nat) : Int)), (2, .func (.func fvf) fva fvc), (7, .slice (some ⟨b21, 0, none⟩) n n), (13, .int .i64 ((n : Nat) : Int)), (14, .int .i64 (k : Int))] ∧ B24.le B28 ∧ Wk W H B28 w' ∧ RpB B28 b21 n m (fun i => i < k))
  (n - 0) [(1, .int .i64 ((m : Nat) : Int)), (2, .func (.func fvf) fva fvc), (7, .slice (some ⟨b21, 0, none⟩) n n), (13, .int .i64 ((n : Nat) : Int)), (14, .int .i64 ((0 : Nat) : Int))] ⟨ciI, rfl, rfl, ciI, ciI, trivial⟩ ⟨0, B24, rfl, (by exact Nat.zero_le _), rfl, Bp.le.refl _, C26, (RpB.sub hr23 (fun i hi => by omega))⟩ ?_
 rintro M ρ w31 ⟨k, B28, rfl, hp33, rfl, hl29, C30, hr32⟩
 refine Wr (Pv (T_nil (W_seq ?_)))
 refine Ab (fun h34 => ?_) (fun h34 => ?_)
 ·refine W_skip (W_seq (W_block (Wr (P2 (Nr ?_)))))
  refine P3 ?_
  refine T_makeK C30 m (fun _ => trivial) rfl rfl rfl rfl rfl rfl rfl rfl rfl rfl rfl (by omega) (by omega) (by show 1 * _ ≤ _; omega) (by unfold maxLen; omega) fun b35 w40 B37 hl38 r36 C39 => ?_
  refine Al (hm := by show 0 + Int.toNat _ * 1 = _; omega) k ?_
  refine T_storePK C39 (hr32.mono hl38) (r36).sl (fun _ => trivial) rfl rfl rfl rfl rfl rfl rfl rfl (by omega) fun w45 B42 hl43 hr41 C44 => (Nr ?_)
  refine P2 ?_
  refine Al (hm := by show 0 + Int.toNat _ * 1 = _; omega) k ?_
  refine T_loadWK C44 ((hr41).at (i := k) (by omega) (by omega)) rfl rfl rfl rfl rfl rfl rfl fun a46 c47 r48 => ?_
  refine P2 (T_nil (W_block ?_))
  refine W_loop (fun M ρ w' => ∃ (j : Nat) (B49 : Bp), M = m - j ∧ j ≤ m ∧ ρ = [(1, .int .i64 ((m : Nat) : Int)), (2, .func (.func fvf) fva fvc), (7, .slice (some ⟨b21, 0, none⟩) n n), (8, .int .i64 (k : Int)), (13, .int .i64 ((n : Nat) : Int)), (14, .int .i64 (k : Int)), (26, .int .i64 ((m : Nat) : Int)), (27, .int .i64 (j : Int))] ∧ B42.le B49 ∧ Wk W H B49 w')
   (m - 0) [(1, .int .i64 ((m : Nat) : Int)), (2, .func (.func fvf) fva fvc), (7, .slice (some ⟨b21, 0, none⟩) n n), (8, .int .i64 (k : Int)), (13, .int .i64 ((n : Nat) : Int)), (14, .int .i64 (k : Int)), (26, .int .i64 ((m : Nat) : Int)), (27, .int .i64 ((0 : Nat) : Int))] ⟨ciI, rfl, rfl, ciI, ciI, ciI, ciI, ciI, trivial⟩ ⟨0, B42, rfl, (by exact Nat.zero_le _), rfl, Bp.le.refl _, C44⟩ ?_
  rintro M ρ w52 ⟨j, B49, rfl, hp53, rfl, hl50, C51⟩
  refine Wr (Pv (T_nil (W_seq ?_)))
  refine Ab (fun h54 => ?_) (fun h54 => ?_)
  ·refine W_skip (W_seq (W_block (Wr (P2 (T_nil ?_)))))
   refine W_tree (planW Tryz.prog) (.step 0 (.step 1 (.step 2 (.step 4 (.step 5 (.step 6 (.step 7 (.fork 3 8 (.step 8 (.step 9 (.step 10 .done))) (.step 3 (.step 9 (.step 10 .done))))))))))) rfl (by kernel_rfl) trivial ?_
   have C55 := C51.drew
   iterate 2 (refine TT_step rfl ?_; refine Pv ?_; refine T_nil ?_)
   refine TT_step rfl (Al (hm := by show 0 + Int.toNat _ * 1 = _; omega) k ?_)
   iterate 4 (refine T_nil ?_; refine TT_step rfl ?_; refine Pv ?_)
   refine T_nil (TT_fork rfl rfl ?_ ?_)
   ·refine T_loadWK C55 (((hr41.mono hl50)).at (i := k) (by omega) (by omega)) rfl rfl rfl rfl rfl rfl rfl fun a56 c57 r58 => ?_
    refine Nt rfl (T_callF C55 (hf.mono (hl25.trans (hl29.trans (hl38.trans (hl43.trans hl50))))) (fun _ => trivial) rfl rfl rfl ⟨k, j, by omega, by omega, rfl⟩ rfl rfl rfl rfl fun x59 w63 B60 hl61 C62 => ?_)
    refine Nt rfl (At (r58.mono hl61) fun b64 o65 q66 hb67 hq68 => ?_)
    refine Nt rfl (Aq (u := x59) C62 hb67 fun w69 C70 => (T_nil (TT_done (W_region ?_))))
    refine Ar ?_
    refine Pv (T_nil ?_)
    exact ⟨m - (j + 1), [(1, .int .i64 ((m : Nat) : Int)), (2, .func (.func fvf) fva fvc), (7, .slice (some ⟨b21, 0, none⟩) n n), (8, .int .i64 (k : Int)), (13, .int .i64 ((n : Nat) : Int)), (14, .int .i64 (k : Int)), (26, .int .i64 ((m : Nat) : Int)), (27, .int .i64 ((j + 1 : Nat) : Int))], by omega, ⟨ciI, rfl, rfl, ciI, ciI, ciI, ciI, ciI, trivial⟩, j + 1, B60, rfl, (by omega), rfl, (hl50.trans hl61), C70⟩
   refine T_callF C55 (hf.mono (hl25.trans (hl29.trans (hl38.trans (hl43.trans hl50))))) (fun _ => trivial) rfl rfl rfl ⟨k, j, by omega, by omega, rfl⟩ rfl rfl rfl rfl fun x71 w75 B72 hl73 C74 => ?_
   refine Nt rfl (T_loadWK C74 (((hr41.mono (hl50.trans hl73))).at (i := k) (by omega) (by omega)) rfl rfl rfl rfl rfl rfl rfl fun a76 c77 r78 => ?_)
   refine Nt rfl (At r78 fun b79 o80 q81 hb82 hq83 => ?_)
   refine Nt rfl (Aq (u := x71) C74 hb82 fun w84 C85 => (T_nil (TT_done (W_region ?_))))
   refine Ar ?_
   refine Pv (T_nil ?_)
   exact ⟨m - (j + 1), [(1, .int .i64 ((m : Nat) : Int)), (2, .func (.func fvf) fva fvc), (7, .slice (some ⟨b21, 0, none⟩) n n), (8, .int .i64 (k : Int)), (13, .int .i64 ((n : Nat) : Int)), (14, .int .i64 (k : Int)), (26, .int .i64 ((m : Nat) : Int)), (27, .int .i64 ((j + 1 : Nat) : Int))], by omega, ⟨ciI, rfl, rfl, ciI, ciI, ciI, ciI, ciI, trivial⟩, j + 1, B72, rfl, (by omega), rfl, (hl50.trans hl73), C85⟩
  refine W_exit (W_region (Ar ?_))
  refine Pv (T_nil ?_)
  exact ⟨n - (k + 1), [(1, .int .i64 ((m : Nat) : Int)), (2, .func (.func fvf) fva fvc), (7, .slice (some ⟨b21, 0, none⟩) n n), (13, .int .i64 ((n : Nat) : Int)), (14, .int .i64 ((k + 1 : Nat) : Int))], by omega, ⟨ciI, rfl, rfl, ciI, ciI, trivial⟩, k + 1, B49, rfl, (by omega), rfl, (hl29.trans (hl38.trans (hl43.trans hl50))), C51, (RpB.sub (hr41.mono hl50) (fun i hi => by omega))⟩
 refine W_exit (Wr (P2 (T_nil (W_ret ?_))))
 refine ⟨_, ⟨_, _, rfl, rfl, rfl⟩, B28, (hl25.trans hl29), C30, ?_⟩
 exact ⟨_, _, rfl, (hr32).full (fun i hi => by omega)⟩


theorem vand1_w {W : World} {H : Hp} {B : Bp} {w : World} (C0 : Wk W H B w) (i j : Nat) {pb : Nat} {pv : Value} (hp : VaB B pb pv) (hf : FnB Tryz.prog W H B pv ABI) (hi : i < 16) (hj : j < 16) :
  Calls Tryz.prog 137 #[.int .i64 ((i : Nat) : Int), .int .i64 ((j : Nat) : Int), .pointer (some ⟨pb, 0, none⟩)] w fun e w' => ∃ B', B.le B' ∧ Wk W H B' w' ∧ ∃ x : UInt8, e = .returned (bV x) := by
 obtain ⟨pvf, pva, pvc, rfl⟩ := hf.shape
 refine enter3 _ Tryz.func137 rfl Tryz.ntmps137 Tryz.results137 rfl (Wr (Pv (Nr ?_)))
 refine T_loadVK C0 hp rfl rfl rfl rfl rfl rfl rfl (P2 ?_)
 refine T_gen8 (wk_wrap _) fun x21 => (Pv ?_)
 refine T_callF C0 hf (fun _ => trivial) rfl rfl rfl ⟨x21, ((j : Nat) : Int), rfl, by omega, by omega⟩ rfl rfl rfl rfl fun x22 w26 B23 hl24 C25 => ?_
 refine Pv (T_nil (W_ret ?_))
 refine ⟨_, ⟨_, _, rfl, rfl, rfl⟩, B23, hl24, C25, ?_⟩
 exact ⟨(x22 : UInt8), rfl⟩


theorem vand_w {W : World} {H : Hp} {B : Bp} {w : World} (C0 : Wk W H B w) (n k : Nat) (hn : 1 ≤ n ∧ n ≤ 16) (hk : 1 ≤ k ∧ k ≤ 16) :
  Calls Tryz.prog 107 #[.int .i64 ((n : Nat) : Int), .int .i64 ((k : Nat) : Int)] w fun e w' => ∃ B', B.le B' ∧ Wk W H B' w' ∧ ∃ a c, e = .returned (.slice a n c) ∧ RoB B' (.slice a n c) n k := by
 refine enter2 _ Tryz.func107 rfl Tryz.ntmps107 Tryz.results107 rfl (Wr (Pv (T_nil (W_seq (Wr ?_)))))
 refine Pv ?_
 refine Cw g_aumbry_matrix_in ((min_w C0 ((n : Nat) : Int)).mono ?_)
 rintro e w24 ⟨B21, hl22, C23, rfl⟩
 refine ⟨_, rfl, ?_⟩
 refine P2 ?_
 refine T_bool 9 false rfl (ndec_f (by omega)) ?_
 refine Ys ?_
 refine Pv ?_
 refine Ys ?_
 refine Cw g_aumbry_matrix_in ((min_w C23 ((k : Nat) : Int)).mono ?_)
 rintro e w28 ⟨B25, hl26, C27, rfl⟩
 refine ⟨_, rfl, ?_⟩
 refine Ys ?_
 refine P2 (T_nil ?_)
 refine W_bool 13 false rfl (ndec_f (by omega)) ?_
 refine W_cond_false rfl (W_skip (Wr (Cw g_aumbry_gf_New ((gnew_w C27 ).mono ?_))))
 rintro e w32 ⟨B29, hl30, C31, b33, rfl, hg34⟩
 refine ⟨_, rfl, ?_⟩
 refine T_makeF rfl rfl rfl rfl rfl rfl ?_
 have hf35 : FnB Tryz.prog W H B29 (.func (.func 135) #[.pointer (some ⟨b33, 0, none⟩)] #[]) ABI := ⟨_, [.pointer (some ⟨b33, 0, none⟩)], [], rfl, g_aumbry_gf_Field_Pow, fun B1 w1 hl C1 args hA => by obtain ⟨x, z, rfl, hz⟩ := hA; exact gpow_w C1 (hg34.mono hl) x z hz⟩
 refine T_allocVK C31 (fun _ => trivial) rfl rfl rfl rfl rfl rfl rfl rfl fun b36 w41 B38 hl39 hb37 C40 => (T_storeVK C40 hb37 (fun _ => trivial) rfl rfl rfl rfl rfl rfl rfl rfl rfl rfl fun w46 B43 hl44 hv42 C45 => (Nr (P2 ?_)))
 refine T_makeF rfl rfl rfl rfl rfl rfl ?_
 have hf47 : FnB Tryz.prog W H B43 (.func (.func 137) #[] #[.pointer (some ⟨b36, 0, none⟩)]) (AIJ n k) := ⟨_, [], [.pointer (some ⟨b36, 0, none⟩)], rfl, g_aumbry_matrix_Vandermonde_1, fun B1 w1 hl C1 args hA => by obtain ⟨i, j, hi, hj, rfl⟩ := hA; exact vand1_w C1 i j (hv42.mono hl) ((hf35.mono (hl39.trans hl44)).mono hl) (by omega) (by omega)⟩
 refine Cw g_aumbry_matrix_made ((made_w C45 n k hf47 (by omega) (by omega)).mono ?_)
 rintro e w51 ⟨B48, hl49, C50, a52, c53, rfl, r54⟩
 refine ⟨_, rfl, ?_⟩
 refine Pv (T_nil (W_ret ?_))
 refine ⟨_, ⟨_, _, rfl, rfl, rfl⟩, B48, (hl22.trans (hl26.trans (hl30.trans (hl39.trans (hl44.trans hl49))))), C50, ?_⟩
 exact ⟨_, _, rfl, r54⟩


theorem may_w {W : World} {H : Hp} {B : Bp} {w : World} (C0 : Wk W H B w) {a1 : Option Addr} {n m c1 : Nat} (h1 : RoB B (.slice a1 n c1) n m) (hn : n ≤ 16) (hm : m ≤ 16) :
  Calls Tryz.prog 138 #[.slice a1 n c1] w fun e w' => ∃ B', B.le B' ∧ Wk W H B' w' ∧ ∃ b : Bool, e = .returned (.bool b) ∧ (b = true → 1 ≤ n ∧ 1 ≤ m) := by
 refine Aa Tryz.func138 Tryz.ntmps138 Tryz.results138 (Wr ?_)
 refine Pv (T_nil (W_seq (Wr ?_)))
 iterate 4 refine Pv ?_
 refine Td 8 (fun h21 => ?_) (fun h21 => ?_)
 ·iterate 3 refine No ?_
  refine P2 ?_
  iterate 5 refine No ?_
  refine P2 ?_
  iterate 5 refine No ?_
  refine Pv (T_nil ?_)
  refine W_cond_true rfl (Wr (Pv (T_nil (W_ret ?_))))
  refine ⟨_, ⟨_, _, rfl, rfl, rfl⟩, B, (Bp.le.refl _), C0, ?_⟩
  exact ⟨_, rfl, fun h => by first | (cases h; done) | omega⟩
 iterate 3 (refine Ys ?_; refine Pv ?_)
 refine P2 ?_
 refine Td 13 (fun h22 => ?_) (fun h22 => ?_)
 ·iterate 5 refine No ?_
  refine P2 ?_
  iterate 5 refine No ?_
  refine Pv (T_nil ?_)
  refine W_cond_true rfl (Wr (Pv (T_nil (W_ret ?_))))
  refine ⟨_, ⟨_, _, rfl, rfl, rfl⟩, B, (Bp.le.refl _), C0, ?_⟩
  exact ⟨_, rfl, fun h => by first | (cases h; done) | omega⟩
 refine Ys ?_
 refine Pv ?_
 refine Ys ?_
 refine Aw h1 fun b23 o24 t25 q26 f27 hb28 hq29 hf30 => ?_
 have hr31 : RwB B b23 o24 m := ⟨_, _, _, hb28, hq29, hf30⟩
 refine Ys ?_
 refine Av C0 hr31 fun a32 c33 r34 => ?_
 iterate 2 (refine Ys ?_; refine Pv ?_)
 refine P2 ?_
 refine Td 20 (fun h35 => ?_) (fun h35 => ?_)
 ·iterate 5 refine No ?_
  refine Pv (T_nil ?_)
  refine W_cond_true rfl (Wr (Pv (T_nil (W_ret ?_))))
  refine ⟨_, ⟨_, _, rfl, rfl, rfl⟩, B, (Bp.le.refl _), C0, ?_⟩
  exact ⟨_, rfl, fun h => by first | (cases h; done) | omega⟩
 refine Ys ?_
 refine Pv ?_
 refine Ys ?_
 refine Aw h1 fun b36 o37 t38 q39 f40 hb41 hq42 hf43 => ?_
 have hr44 : RwB B b36 o37 m := ⟨_, _, _, hb41, hq42, hf43⟩
 refine Ys ?_
 refine Av C0 hr44 fun a45 c46 r47 => ?_
 iterate 2 (refine Ys ?_; refine Pv ?_)
 refine Pv (T_nil ?_)
 refine Ab (fun h48 => ?_) (fun h48 => ?_)
 ·refine Wr (Pv (T_nil (W_ret ?_)))
  refine ⟨_, ⟨_, _, rfl, rfl, rfl⟩, B, (Bp.le.refl _), C0, ?_⟩
  exact ⟨_, rfl, fun h => by first | (cases h; done) | omega⟩
 refine W_skip (W_seq (Wr (P3 (T_nil (W_block ?_)))))
 refine W_loop (fun M ρ w' => ∃ (k : Nat) (B49 : Bp), M = n - k ∧ k ≤ n ∧ ρ = [(0, .slice a1 n c1), (27, .slice a1 n c1), (28, .int .i64 ((n : Nat) : Int)), (29, .int .i64 (k : Int))] ∧ B.le B49 ∧ Wk W H B49 w')
  (n - 0) [(0, .slice a1 n c1), (27, .slice a1 n c1), (28, .int .i64 ((n : Nat) : Int)), (29, .int .i64 ((0 : Nat) : Int))] ⟨rfl, rfl, ciI, ciI, trivial⟩ ⟨0, B, rfl, (by exact Nat.zero_le _), rfl, Bp.le.refl _, C0⟩ ?_
 rintro M ρ w52 ⟨k, B49, rfl, hp53, rfl, hl50, C51⟩
 refine Wr (Pv (T_nil (W_seq ?_)))
 refine Ab (fun h54 => ?_) (fun h54 => ?_)
 ·refine W_skip (W_seq (W_block (Wr (Aw (h1.mono hl50) fun b55 o56 t57 q58 f59 hb60 hq61 hf62 => ?_))))
  have hr63 : RwB B49 b55 o56 m := ⟨_, _, _, hb60, hq61, hf62⟩
  refine Av C51 hr63 fun a64 c65 r66 => ?_
  refine Pv (Nr ?_)
  refine P3 ?_
  refine Aw (h1.mono hl50) fun b67 o68 t69 q70 f71 hb72 hq73 hf74 => ?_
  have hr75 : RwB B49 b67 o68 m := ⟨_, _, _, hb72, hq73, hf74⟩
  refine Av C51 hr75 fun a76 c77 r78 => ?_
  refine P2 (T_nil ?_)
  refine W_cond_not rfl (fun h79 => ?_) (fun h79 => ?_)
  ·refine Wr (Pv (T_nil (W_ret ?_)))
   refine ⟨_, ⟨_, _, rfl, rfl, rfl⟩, B49, hl50, C51, ?_⟩
   exact ⟨_, rfl, fun h => by first | (cases h; done) | omega⟩
  refine W_skip (W_region (Ar ?_))
  refine Pv (T_nil ?_)
  exact ⟨n - (k + 1), [(0, .slice a1 n c1), (27, .slice a1 n c1), (28, .int .i64 ((n : Nat) : Int)), (29, .int .i64 ((k + 1 : Nat) : Int))], by omega, ⟨rfl, rfl, ciI, ciI, trivial⟩, k + 1, B49, rfl, (by omega), rfl, hl50, C51⟩
 refine W_exit (Wr (Pv (T_nil (W_ret ?_))))
 refine ⟨_, ⟨_, _, rfl, rfl, rfl⟩, B49, hl50, C51, ?_⟩
 exact ⟨_, rfl, fun h => by first | (cases h; done) | omega⟩


theorem unit1_w {W : World} {H : Hp} {B : Bp} {w : World} (C0 : Wk W H B w) (i j : Nat) :
  Calls Tryz.prog 164 #[.int .i64 ((i : Nat) : Int), .int .i64 ((j : Nat) : Int)] w fun e w' => ∃ B', B.le B' ∧ Wk W H B' w' ∧ ∃ x : UInt8, e = .returned (bV x) := by
 refine enter2 _ Tryz.func164 rfl Tryz.ntmps164 Tryz.results164 rfl (Wr (Pv (T_nil (W_seq (Wr ?_)))))
 refine P3 (T_nil ?_)
 refine Ab (fun h21 => ?_) (fun h21 => ?_)
 ·refine Wr (Pv (T_nil (W_ret ?_)))
  refine ⟨_, ⟨_, _, rfl, rfl, rfl⟩, B, (Bp.le.refl _), C0, ?_⟩
  exact ⟨(1 : UInt8), rfl⟩
 refine W_skip (Wr (Pv (T_nil (W_ret ?_))))
 refine ⟨_, ⟨_, _, rfl, rfl, rfl⟩, B, (Bp.le.refl _), C0, ?_⟩
 exact ⟨(0 : UInt8), rfl⟩


theorem unit_w {W : World} {H : Hp} {B : Bp} {w : World} (C0 : Wk W H B w) (n : Nat) (hn : 1 ≤ n ∧ n ≤ 16) :
  Calls Tryz.prog 140 #[.int .i64 ((n : Nat) : Int)] w fun e w' => ∃ B', B.le B' ∧ Wk W H B' w' ∧ ∃ a c, e = .returned (.slice a n c) ∧ RoB B' (.slice a n c) n n := by
 refine Aa Tryz.func140 Tryz.ntmps140 Tryz.results140 (Wr ?_)
 refine Pv (T_nil (W_seq (Wr ?_)))
 refine Pv ?_
 refine Cw g_aumbry_matrix_in ((min_w C0 ((n : Nat) : Int)).mono ?_)
 rintro e w24 ⟨B21, hl22, C23, rfl⟩
 refine ⟨_, rfl, ?_⟩
 refine Pv (T_nil ?_)
 refine W_bool 5 false rfl (ndec_f (by omega)) ?_
 refine W_cond_false rfl (W_skip (Wr (P2 ?_)))
 have hf25 : FnB Tryz.prog W H B21 (.func (.func 164) #[] #[]) (AIJ n n) := ⟨_, [], [], rfl, g_aumbry_matrix_Unit_1, fun B1 w1 hl C1 args hA => by obtain ⟨i, j, hi, hj, rfl⟩ := hA; exact unit1_w C1 i j⟩
 refine Cw g_aumbry_matrix_made ((made_w C23 n n hf25 (by omega) (by omega)).mono ?_)
 rintro e w29 ⟨B26, hl27, C28, a30, c31, rfl, r32⟩
 refine ⟨_, rfl, ?_⟩
 refine Pv (T_nil (W_ret ?_))
 refine ⟨_, ⟨_, _, rfl, rfl, rfl⟩, B26, (hl22.trans hl27), C28, ?_⟩
 exact ⟨_, _, rfl, r32⟩


theorem mcol_w {W : World} {H : Hp} {B : Bp} {w : World} (C0 : Wk W H B w) {a1 : Option Addr} {n m c1 : Nat} (h1 : RoB B (.slice a1 n c1) n m) (j : Nat) (hj : j < m) (hn : n ≤ 16) :
  Calls Tryz.prog 147 #[.slice a1 n c1, .int .i64 ((j : Nat) : Int)] w fun e w' => ∃ B', B.le B' ∧ Wk W H B' w' ∧ ∃ a c, e = .returned (.slice a n c) ∧ ApB 5 B' (.slice a n c) n := by
 refine enter2 _ Tryz.func147 rfl Tryz.ntmps147 Tryz.results147 rfl (Wr (Pv (Nr ?_)))
 refine P2 ?_
 refine T_makeK C0 n (fun _ => trivial) rfl rfl rfl rfl rfl rfl rfl rfl rfl rfl rfl (by omega) (by omega) (by show 1 * _ ≤ _; omega) (by unfold maxLen; omega) fun b21 w26 B23 hl24 r22 C25 => ?_
 refine Pv (T_nil (W_seq (Wr ?_)))
 refine P3 (T_nil (W_block ?_))
 refine W_loop (fun M ρ w' => ∃ (k : Nat) (B27 : Bp), M = n - k ∧ k ≤ n ∧ ρ = [(1, .int .i64 ((j : Nat) : Int)), (5, .slice (some ⟨b21, 0, none⟩) n n), (11, .slice a1 n c1), (12, .int .i64 ((n : Nat) : Int)), (13, .int .i64 (k : Int))] ∧ B23.le B27 ∧ Wk W H B27 w')
  (n - 0) [(1, .int .i64 ((j : Nat) : Int)), (5, .slice (some ⟨b21, 0, none⟩) n n), (11, .slice a1 n c1), (12, .int .i64 ((n : Nat) : Int)), (13, .int .i64 ((0 : Nat) : Int))] ⟨ciI, rfl, rfl, ciI, ciI, trivial⟩ ⟨0, B23, rfl, (by exact Nat.zero_le _), rfl, Bp.le.refl _, C25⟩ ?_
 rintro M ρ w30 ⟨k, B27, rfl, hp31, rfl, hl28, C29⟩
 refine Wr (Pv (T_nil (W_seq ?_)))
 refine Ab (fun h32 => ?_) (fun h32 => ?_)
 ·refine W_skip (W_seq (W_block (Wr (Pv ?_))))
  refine Aw (h1.mono (hl24.trans hl28)) fun b33 o34 t35 q36 f37 hb38 hq39 hf40 => ?_
  have hr41 : RwB B27 b33 o34 m := ⟨_, _, _, hb38, hq39, hf40⟩
  refine Av C29 hr41 fun a42 c43 r44 => ?_
  refine P2 (T_nil (W_region ?_))
  iterate 4 refine Pv ?_
  refine At r44 fun b45 o46 q47 hb48 hq49 => ?_
  refine As C29 hb48 fun x50 => ?_
  refine At ((r22.mono hl28)).sl fun b51 o52 q53 hb54 hq55 => ?_
  refine Aq (u := x50) C29 hb54 fun w56 C57 => (T_nil (W_region ?_))
  refine Ar ?_
  refine Pv (T_nil ?_)
  exact ⟨n - (k + 1), [(1, .int .i64 ((j : Nat) : Int)), (5, .slice (some ⟨b21, 0, none⟩) n n), (11, .slice a1 n c1), (12, .int .i64 ((n : Nat) : Int)), (13, .int .i64 ((k + 1 : Nat) : Int))], by omega, ⟨ciI, rfl, rfl, ciI, ciI, trivial⟩, k + 1, B27, rfl, (by omega), rfl, hl28, C57⟩
 refine W_exit (Wr (P2 (T_nil (W_ret ?_))))
 refine ⟨_, ⟨_, _, rfl, rfl, rfl⟩, B27, (hl24.trans hl28), C29, ?_⟩
 exact ⟨_, _, rfl, (r22.mono hl28)⟩


theorem scale_w {W : World} {H : Hp} {B : Bp} {w : World} (C0 : Wk W H B w) {fv : Value} (hf : FnB Tryz.prog W H B fv ABB) (x : UInt8) {a1 : Option Addr} {n m c1 : Nat} (h1 : RoB B (.slice a1 n c1) n m) (hn : n ≤ 16) (hm : m ≤ 16) :
  Calls Tryz.prog 141 #[fv, bV x, .slice a1 n c1] w fun e w' => ∃ B', B.le B' ∧ Wk W H B' w' ∧ e = .returned (.tuple #[]) := by
 obtain ⟨fvf, fva, fvc, rfl⟩ := hf.shape
 refine enter3 _ Tryz.func141 rfl Tryz.ntmps141 Tryz.results141 rfl (Wr (P3 (T_nil (W_block ?_))))
 refine W_loop (fun M ρ w' => ∃ (k : Nat) (B21 : Bp), M = n - k ∧ k ≤ n ∧ ρ = [(0, .func (.func fvf) fva fvc), (1, bV x), (9, .slice a1 n c1), (10, .int .i64 ((n : Nat) : Int)), (11, .int .i64 (k : Int))] ∧ B.le B21 ∧ Wk W H B21 w')
  (n - 0) [(0, .func (.func fvf) fva fvc), (1, bV x), (9, .slice a1 n c1), (10, .int .i64 ((n : Nat) : Int)), (11, .int .i64 ((0 : Nat) : Int))] ⟨rfl, rfl, rfl, ciI, ciI, trivial⟩ ⟨0, B, rfl, (by exact Nat.zero_le _), rfl, Bp.le.refl _, C0⟩ ?_
 rintro M ρ w24 ⟨k, B21, rfl, hp25, rfl, hl22, C23⟩
 refine Wr (Pv (T_nil (W_seq ?_)))
 refine Ab (fun h26 => ?_) (fun h26 => ?_)
 ·refine W_skip (W_seq (W_block (Wr (Aw (h1.mono hl22) fun b27 o28 t29 q30 f31 hb32 hq33 hf34 => ?_))))
  have hr35 : RwB B21 b27 o28 m := ⟨_, _, _, hb32, hq33, hf34⟩
  refine Av C23 hr35 fun a36 c37 r38 => ?_
  refine Pv (Nr ?_)
  refine P3 (T_nil (W_block ?_))
  refine W_loop (fun M ρ w' => ∃ (j : Nat) (B39 : Bp), M = m - j ∧ j ≤ m ∧ ρ = [(0, .func (.func fvf) fva fvc), (1, bV x), (7, .slice a36 m c37), (9, .slice a1 n c1), (10, .int .i64 ((n : Nat) : Int)), (11, .int .i64 (k : Int)), (16, .int .i64 ((m : Nat) : Int)), (17, .int .i64 (j : Int))] ∧ B21.le B39 ∧ Wk W H B39 w')
   (m - 0) [(0, .func (.func fvf) fva fvc), (1, bV x), (7, .slice a36 m c37), (9, .slice a1 n c1), (10, .int .i64 ((n : Nat) : Int)), (11, .int .i64 (k : Int)), (16, .int .i64 ((m : Nat) : Int)), (17, .int .i64 ((0 : Nat) : Int))] ⟨rfl, rfl, rfl, rfl, ciI, ciI, ciI, ciI, trivial⟩ ⟨0, B21, rfl, (by exact Nat.zero_le _), rfl, Bp.le.refl _, C23⟩ ?_
  rintro M ρ w42 ⟨j, B39, rfl, hp43, rfl, hl40, C41⟩
  refine Wr (Pv (T_nil (W_seq ?_)))
  refine Ab (fun h44 => ?_) (fun h44 => ?_)
  ·refine W_skip (W_seq (W_block (Wr (P2 (T_nil (W_region ?_))))))
   iterate 5 refine Pv ?_
   refine At (r38.mono hl40) fun b45 o46 q47 hb48 hq49 => ?_
   refine As C41 hb48 fun x50 => ?_
   refine Pv ?_
   refine T_callF C41 (hf.mono (hl22.trans hl40)) (fun _ => trivial) rfl rfl rfl ⟨x50, x, rfl⟩ rfl rfl rfl rfl fun x51 w55 B52 hl53 C54 => (At (r38.mono (hl40.trans hl53)) fun b56 o57 q58 hb59 hq60 => ?_)
   refine Aq (u := x51) C54 hb59 fun w61 C62 => (T_nil (W_region ?_))
   refine Ar ?_
   refine Pv (T_nil ?_)
   exact ⟨m - (j + 1), [(0, .func (.func fvf) fva fvc), (1, bV x), (7, .slice a36 m c37), (9, .slice a1 n c1), (10, .int .i64 ((n : Nat) : Int)), (11, .int .i64 (k : Int)), (16, .int .i64 ((m : Nat) : Int)), (17, .int .i64 ((j + 1 : Nat) : Int))], by omega, ⟨rfl, rfl, rfl, rfl, ciI, ciI, ciI, ciI, trivial⟩, j + 1, B52, rfl, (by omega), rfl, (hl40.trans hl53), C62⟩
  refine W_exit (W_region (Ar ?_))
  refine Pv (T_nil ?_)
  exact ⟨n - (k + 1), [(0, .func (.func fvf) fva fvc), (1, bV x), (9, .slice a1 n c1), (10, .int .i64 ((n : Nat) : Int)), (11, .int .i64 ((k + 1 : Nat) : Int))], by omega, ⟨rfl, rfl, rfl, ciI, ciI, trivial⟩, k + 1, B39, rfl, (by omega), rfl, (hl22.trans hl40), C41⟩
 refine W_exit ?_
 refine ⟨_, rfl, B21, hl22, C23, ?_⟩
 exact rfl


theorem take_w {W : World} {H : Hp} {B : Bp} {w : World} (C0 : Wk W H B w) {fv : Value} (hf : FnB Tryz.prog W H B fv ABB) (x : UInt8) {n : Nat} {a1 : Option Addr} {c1 : Nat} (h1 : SlB B (.slice a1 n c1) n) {a2 : Option Addr} {c2 : Nat} (h2 : SlB B (.slice a2 n c2) n) {a3 : Option Addr} {c3 : Nat} (h3 : SlB B (.slice a3 n c3) n) {a4 : Option Addr} {c4 : Nat} (h4 : SlB B (.slice a4 n c4) n) (hn : n ≤ 16) :
  Calls Tryz.prog 144 #[fv, bV x, .slice a1 n c1, .slice a2 n c2, .slice a3 n c3, .slice a4 n c4] w fun e w' => ∃ B', B.le B' ∧ Wk W H B' w' ∧ e = .returned (.tuple #[]) := by
 obtain ⟨fvf, fva, fvc, rfl⟩ := hf.shape
 refine enter6 _ Tryz.func144 rfl Tryz.ntmps144 Tryz.results144 rfl (Wr (P3 (T_nil (W_block ?_))))
 refine W_loop (fun M ρ w' => ∃ (k : Nat) (B21 : Bp), M = n - k ∧ k ≤ n ∧ ρ = [(0, .func (.func fvf) fva fvc), (1, bV x), (2, .slice a1 n c1), (3, .slice a2 n c2), (4, .slice a3 n c3), (5, .slice a4 n c4), (14, .int .i64 ((n : Nat) : Int)), (15, .int .i64 (k : Int))] ∧ B.le B21 ∧ Wk W H B21 w')
  (n - 0) [(0, .func (.func fvf) fva fvc), (1, bV x), (2, .slice a1 n c1), (3, .slice a2 n c2), (4, .slice a3 n c3), (5, .slice a4 n c4), (14, .int .i64 ((n : Nat) : Int)), (15, .int .i64 ((0 : Nat) : Int))] ⟨rfl, rfl, rfl, rfl, rfl, rfl, ciI, ciI, trivial⟩ ⟨0, B, rfl, (by exact Nat.zero_le _), rfl, Bp.le.refl _, C0⟩ ?_
 rintro M ρ w24 ⟨k, B21, rfl, hp25, rfl, hl22, C23⟩
 refine Wr (Pv (T_nil (W_seq ?_)))
 refine Ab (fun h26 => ?_) (fun h26 => ?_)
 ·refine W_skip (W_seq (W_block (Wr (P2 (T_nil (W_seq ?_))))))
  refine W_tree (planW Tryz.prog) (.step 0 (.step 1 (.step 2 (.step 3 (.step 4 (.step 6 (.step 7 (.step 8 (.step 9 (.step 10 (.step 11 (.fork 5 12 (.step 12 (.step 13 (.step 14 (.step 15 .done)))) (.step 5 (.step 13 (.step 14 (.step 15 .done)))))))))))))))) rfl (by kernel_rfl) trivial ?_
  have C27 := C23.drew
  iterate 4 (refine TT_step rfl ?_; refine Pv ?_; refine T_nil ?_)
  refine TT_step rfl (At (h1.mono hl22) fun b28 o29 q30 hb31 hq32 => ?_)
  iterate 4 (refine T_nil ?_; refine TT_step rfl ?_; refine Pv ?_)
  refine Nt rfl (At (h2.mono hl22) fun b33 o34 q35 hb36 hq37 => ?_)
  refine Nt rfl (As C27 hb36 fun x38 => (T_nil ?_))
  refine TT_fork rfl rfl ?_ ?_
  ·refine As C27 hb31 fun x39 => ?_
   refine Nt rfl (T_callF C27 (hf.mono hl22) (fun _ => trivial) rfl rfl rfl ⟨x, x38, rfl⟩ rfl rfl rfl rfl fun x40 w44 B41 hl42 C43 => (Nt rfl (Cw g_aumbry_gf_Add ((gadd_w C43 x39 x40).mono ?_))))
   rintro e w48 ⟨B45, hl46, C47, x49, rfl⟩
   refine ⟨_, rfl, ?_⟩
   refine Nt rfl (At (h1.mono (hl22.trans (hl42.trans hl46))) fun b50 o51 q52 hb53 hq54 => ?_)
   refine Nt rfl (Aq (u := x49) C47 hb53 fun w55 C56 => (T_nil (TT_done ?_)))
   refine W_tree (planW Tryz.prog) (.step 0 (.step 1 (.step 2 (.step 3 (.step 4 (.step 6 (.step 7 (.step 8 (.step 9 (.step 10 (.step 11 (.fork 5 12 (.step 12 (.step 13 (.step 14 (.step 15 .done)))) (.step 5 (.step 13 (.step 14 (.step 15 .done)))))))))))))))) rfl (by kernel_rfl) trivial ?_
   have C57 := C56.drew
   iterate 4 (refine TT_step rfl ?_; refine Pv ?_; refine T_nil ?_)
   refine TT_step rfl (At (h3.mono (hl22.trans (hl42.trans hl46))) fun b58 o59 q60 hb61 hq62 => ?_)
   iterate 4 (refine T_nil ?_; refine TT_step rfl ?_; refine Pv ?_)
   refine Nt rfl (At (h4.mono (hl22.trans (hl42.trans hl46))) fun b63 o64 q65 hb66 hq67 => ?_)
   refine Nt rfl (As C57 hb66 fun x68 => (T_nil ?_))
   refine TT_fork rfl rfl ?_ ?_
   ·refine As C57 hb61 fun x69 => ?_
    refine Nt rfl (T_callF C57 (hf.mono (hl22.trans (hl42.trans hl46))) (fun _ => trivial) rfl rfl rfl ⟨x, x68, rfl⟩ rfl rfl rfl rfl fun x70 w74 B71 hl72 C73 => (Nt rfl (Cw g_aumbry_gf_Add ((gadd_w C73 x69 x70).mono ?_))))
    rintro e w78 ⟨B75, hl76, C77, x79, rfl⟩
    refine ⟨_, rfl, ?_⟩
    refine Nt rfl (At (h3.mono (hl22.trans (hl42.trans (hl46.trans (hl72.trans hl76))))) fun b80 o81 q82 hb83 hq84 => ?_)
    refine Nt rfl (Aq (u := x79) C77 hb83 fun w85 C86 => (T_nil (TT_done (W_region ?_))))
    refine Ar ?_
    refine Pv (T_nil ?_)
    exact ⟨n - (k + 1), [(0, .func (.func fvf) fva fvc), (1, bV x), (2, .slice a1 n c1), (3, .slice a2 n c2), (4, .slice a3 n c3), (5, .slice a4 n c4), (14, .int .i64 ((n : Nat) : Int)), (15, .int .i64 ((k + 1 : Nat) : Int))], by omega, ⟨rfl, rfl, rfl, rfl, rfl, rfl, ciI, ciI, trivial⟩, k + 1, B75, rfl, (by omega), rfl, (hl22.trans (hl42.trans (hl46.trans (hl72.trans hl76)))), C86⟩
   refine T_callF C57 (hf.mono (hl22.trans (hl42.trans hl46))) (fun _ => trivial) rfl rfl rfl ⟨x, x68, rfl⟩ rfl rfl rfl rfl fun x87 w91 B88 hl89 C90 => (Nt rfl (As C90 (hb61.mono hl89) fun x92 => ?_))
   refine Nt rfl (Cw g_aumbry_gf_Add ((gadd_w C90 x92 x87).mono ?_))
   rintro e w96 ⟨B93, hl94, C95, x97, rfl⟩
   refine ⟨_, rfl, ?_⟩
   refine Nt rfl (At (h3.mono (hl22.trans (hl42.trans (hl46.trans (hl89.trans hl94))))) fun b98 o99 q100 hb101 hq102 => ?_)
   refine Nt rfl (Aq (u := x97) C95 hb101 fun w103 C104 => (T_nil (TT_done (W_region ?_))))
   refine Ar ?_
   refine Pv (T_nil ?_)
   exact ⟨n - (k + 1), [(0, .func (.func fvf) fva fvc), (1, bV x), (2, .slice a1 n c1), (3, .slice a2 n c2), (4, .slice a3 n c3), (5, .slice a4 n c4), (14, .int .i64 ((n : Nat) : Int)), (15, .int .i64 ((k + 1 : Nat) : Int))], by omega, ⟨rfl, rfl, rfl, rfl, rfl, rfl, ciI, ciI, trivial⟩, k + 1, B93, rfl, (by omega), rfl, (hl22.trans (hl42.trans (hl46.trans (hl89.trans hl94)))), C104⟩
  refine T_callF C27 (hf.mono hl22) (fun _ => trivial) rfl rfl rfl ⟨x, x38, rfl⟩ rfl rfl rfl rfl fun x105 w109 B106 hl107 C108 => (Nt rfl (As C108 (hb31.mono hl107) fun x110 => ?_))
  refine Nt rfl (Cw g_aumbry_gf_Add ((gadd_w C108 x110 x105).mono ?_))
  rintro e w114 ⟨B111, hl112, C113, x115, rfl⟩
  refine ⟨_, rfl, ?_⟩
  refine Nt rfl (At (h1.mono (hl22.trans (hl107.trans hl112))) fun b116 o117 q118 hb119 hq120 => ?_)
  refine Nt rfl (Aq (u := x115) C113 hb119 fun w121 C122 => (T_nil (TT_done ?_)))
  refine W_tree (planW Tryz.prog) (.step 0 (.step 1 (.step 2 (.step 3 (.step 4 (.step 6 (.step 7 (.step 8 (.step 9 (.step 10 (.step 11 (.fork 5 12 (.step 12 (.step 13 (.step 14 (.step 15 .done)))) (.step 5 (.step 13 (.step 14 (.step 15 .done)))))))))))))))) rfl (by kernel_rfl) trivial ?_
  have C123 := C122.drew
  iterate 4 (refine TT_step rfl ?_; refine Pv ?_; refine T_nil ?_)
  refine TT_step rfl (At (h3.mono (hl22.trans (hl107.trans hl112))) fun b124 o125 q126 hb127 hq128 => ?_)
  iterate 4 (refine T_nil ?_; refine TT_step rfl ?_; refine Pv ?_)
  refine Nt rfl (At (h4.mono (hl22.trans (hl107.trans hl112))) fun b129 o130 q131 hb132 hq133 => ?_)
  refine Nt rfl (As C123 hb132 fun x134 => (T_nil ?_))
  refine TT_fork rfl rfl ?_ ?_
  ·refine As C123 hb127 fun x135 => ?_
   refine Nt rfl (T_callF C123 (hf.mono (hl22.trans (hl107.trans hl112))) (fun _ => trivial) rfl rfl rfl ⟨x, x134, rfl⟩ rfl rfl rfl rfl fun x136 w140 B137 hl138 C139 => (Nt rfl (Cw g_aumbry_gf_Add ((gadd_w C139 x135 x136).mono ?_))))
   rintro e w144 ⟨B141, hl142, C143, x145, rfl⟩
   refine ⟨_, rfl, ?_⟩
   refine Nt rfl (At (h3.mono (hl22.trans (hl107.trans (hl112.trans (hl138.trans hl142))))) fun b146 o147 q148 hb149 hq150 => ?_)
   refine Nt rfl (Aq (u := x145) C143 hb149 fun w151 C152 => (T_nil (TT_done (W_region ?_))))
   refine Ar ?_
   refine Pv (T_nil ?_)
   exact ⟨n - (k + 1), [(0, .func (.func fvf) fva fvc), (1, bV x), (2, .slice a1 n c1), (3, .slice a2 n c2), (4, .slice a3 n c3), (5, .slice a4 n c4), (14, .int .i64 ((n : Nat) : Int)), (15, .int .i64 ((k + 1 : Nat) : Int))], by omega, ⟨rfl, rfl, rfl, rfl, rfl, rfl, ciI, ciI, trivial⟩, k + 1, B141, rfl, (by omega), rfl, (hl22.trans (hl107.trans (hl112.trans (hl138.trans hl142)))), C152⟩
  refine T_callF C123 (hf.mono (hl22.trans (hl107.trans hl112))) (fun _ => trivial) rfl rfl rfl ⟨x, x134, rfl⟩ rfl rfl rfl rfl fun x153 w157 B154 hl155 C156 => (Nt rfl (As C156 (hb127.mono hl155) fun x158 => ?_))
  refine Nt rfl (Cw g_aumbry_gf_Add ((gadd_w C156 x158 x153).mono ?_))
  rintro e w162 ⟨B159, hl160, C161, x163, rfl⟩
  refine ⟨_, rfl, ?_⟩
  refine Nt rfl (At (h3.mono (hl22.trans (hl107.trans (hl112.trans (hl155.trans hl160))))) fun b164 o165 q166 hb167 hq168 => ?_)
  refine Nt rfl (Aq (u := x163) C161 hb167 fun w169 C170 => (T_nil (TT_done (W_region ?_))))
  refine Ar ?_
  refine Pv (T_nil ?_)
  exact ⟨n - (k + 1), [(0, .func (.func fvf) fva fvc), (1, bV x), (2, .slice a1 n c1), (3, .slice a2 n c2), (4, .slice a3 n c3), (5, .slice a4 n c4), (14, .int .i64 ((n : Nat) : Int)), (15, .int .i64 ((k + 1 : Nat) : Int))], by omega, ⟨rfl, rfl, rfl, rfl, rfl, rfl, ciI, ciI, trivial⟩, k + 1, B159, rfl, (by omega), rfl, (hl22.trans (hl107.trans (hl112.trans (hl155.trans hl160)))), C170⟩
 refine W_exit ?_
 refine ⟨_, rfl, B21, hl22, C23, ?_⟩
 exact rfl

end Go.Proofs.YtmjmjjkigblbgaaGreatDoor
