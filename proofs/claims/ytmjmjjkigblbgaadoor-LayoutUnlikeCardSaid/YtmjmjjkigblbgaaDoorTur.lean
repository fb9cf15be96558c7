/- A share, one thing of which is turned. -/
import Derived.Test.YtmjmjjkigblbgaaDoorMad
import Derived.Test.YtmjmjjkigblbgaaDoorFTurn
set_option linter.unusedVariables false
set_option linter.unusedSimpArgs false
set_option maxRecDepth 8192
namespace Go.Proofs.YtmjmjjkigblbgaaDoor
open Go Go.F Go.RowKit

theorem copyRows_ok {H : Hp} {w : World} (hH : H.le (hw w)) {l : List (List UInt8)} {aa0 : Option Addr} {nn0 cc0 : Nat} (hv : RdL H (.slice aa0 nn0 cc0) l) (hl : l.length ≤ 1000) (hx : ∀ x ∈ l, x.length ≤ 1000) :
  Calls Tryd.prog 55 #[.slice aa0 nn0 cc0] w fun e w' => ∃ a c vs, ∃ G' : Hp, e = .returned (.slice a l.length c) ∧ H.le G' ∧ l.length ≤ c ∧ vs.length = l.length ∧ St w H G' (.row 26 1 (.slice a l.length c) l.length vs :: (mrows 5 vs l ++ [])) w' := by
 obtain rfl : nn0 = l.length := hv.len
 refine enter1 _ Tryd.func55 rfl Tryd.ntmps55 Tryd.results55 rfl ?_
 have S0 := St.start w hH
 refine Wr (Pv (Nr ?_))
 refine Pv (T_nil (W_seq (Wr ?_)))
 iterate 3 refine Pv ?_
 refine T_nil (W_block ?_)
 have S1 := S0.nilRow 26 1
 refine W_loop (fun M ρ w' => ∃ (i : Nat) (a4 : Option Addr) (c5 : Nat) (vs6 : List Value) (G2 : Hp), M = l.length - i ∧ i ≤ l.length ∧ ρ = [(0, .slice aa0 l.length cc0), (3, .slice a4 i c5), (6, .int .i64 ((l.length : Nat) : Int)), (7, .int .i64 (i : Int))] ∧ H.le G2 ∧ St w H G2 (.row 26 1 (.slice a4 i c5) i vs6 :: (mrows 5 vs6 (l.take i) ++ [])) w' ∧ i ≤ c5 ∧ vs6.length = i ∧ (l.take i).length = i)
  (l.length - 0) [(0, .slice aa0 l.length cc0), (3, .slice none 0 0), (6, .int .i64 ((l.length : Nat) : Int)), (7, .int .i64 ((0 : Nat) : Int))] ⟨rfl, rfl, ciI, ciI, trivial⟩ ⟨0, none, 0, [], H, rfl, (by omega), rfl, Hp.le.refl _, S1, (Nat.le_refl _), rfl, rfl⟩ ?_
 rintro M ρ w10 ⟨i, a4, c5, vs6, G2, rfl, hp12, rfl, hl3, S11, hc7, hv8, hs9⟩
 refine Wr (Pv (T_nil (W_seq ?_)))
 refine Aa (fun h13 => ?_) (fun h13 => ?_)
 ·refine W_skip (W_seq (W_block (Wr ?_)))
  iterate 2 refine Pv ?_
  refine T_nil (W_region ?_)
  iterate 3 refine Pv ?_
  obtain ⟨hs17, r18, r19⟩ := (hv.mono hl3)
  refine Ah i r18 fun b14 o15 hc16 => ?_
  obtain ⟨a22, c23, hc25, hv21, r24⟩ := r19.at i (by omega)
  have hc26 := hc16 0 (.slice a22 (l.getD i []).length c23) (by simpa using hv21)
  simp only [Nat.add_zero] at hc26
  have hel := el_le1 hx (k := i) (by omega)
  refine Ac S11 hc26 ?_
  refine Cs g_aumbry_aumbrykeep_Copy_byte ((copyB_ok S11.le r24 (by omega)).mono ?_)
  rintro e w32 ⟨a27, c28, hc29, rfl, ho30, hB31⟩
  have S33 := S11.own hB31 ho30
  refine ⟨_, rfl, trivial, ?_⟩
  refine Af (hone := by simp [Value.cells]; rfl) [.slice a27 ((l.getD i []).length) c28] fun a34 w35 hB36 ho37 => ?_
  have S38 := S33.own hB36 ho37
  refine ⟨trivial, ?_⟩
  refine Ag (h1 := by exact one_all rfl) (hn' := by omega) (hx' := by exact rfl) (hbytes := by show _ * 24 ≤ _; omega) 2 (i + 1) (vs6 ++ [(Value.slice a27 ((l.getD i []).length) c28)]) S38 (S38.rd 0 rfl) fun a39 c40 w41 hc42 S43 => ?_
  have S44 := (S43.drop 0).matPush0 (uT := 5) (vs := vs6) (D := (l.take i)) (its := []) (v := (Value.slice a27 ((l.getD i []).length) c28)) (l := (l.getD i [])) (by rw [hv8, hs9])
  have hv45 : (vs6 ++ [(Value.slice a27 ((l.getD i []).length) c28)]).length = (i + 1) := by rw [List.length_append, hv8]; rfl
  have hs46 : ((l.take i) ++ [(l.getD i [])]).length = (i + 1) := by rw [List.length_append, hs9]; rfl
  have hD47 : ((l.take i) ++ [(l.getD i [])]) = (l.take (i + 1)) := (take_row (by omega))
  rw [hD47] at S44 hs46
  refine Pv (T_nil (W_region ?_))
  refine Ar ?_
  refine Pv (T_nil ?_)
  exact ⟨l.length - (i + 1), [(0, .slice aa0 l.length cc0), (3, .slice a39 (i + 1) c40), (6, .int .i64 ((l.length : Nat) : Int)), (7, .int .i64 ((i + 1 : Nat) : Int))], by omega, ⟨rfl, rfl, ciI, ciI, trivial⟩, i + 1, a39, c40, (vs6 ++ [(Value.slice a27 ((l.getD i []).length) c28)]), G2, rfl, (by omega), rfl, hl3, S44, hc42, hv45, hs46⟩
 refine W_exit (Wr ?_)
 iterate 2 refine Pv ?_
 refine T_nil (W_ret ?_)
 refine ⟨_, ⟨_, _, rfl, rfl, rfl⟩, ?_⟩
 obtain rfl : l.length = i := by omega
 rw [List.take_length] at S11
 exact ⟨_, _, _, _, rfl, hl3, hc7, hv8, S11⟩


set_option maxHeartbeats 2000000 in
theorem turned_ok {H : Hp} {w : World} (hH : H.le (hw w)) (sn : Int) {u : List UInt8} {p B : List (List UInt8)} {a1 a2 a3 : Option Addr} {n1 n2 n3 c1 c2 c3 : Nat} (h1 : Rd H (.slice a1 n1 c1) n1 1 (u.map bV)) (h2 : RdH H (.slice a2 n2 c2) 32 p) (h3 : RdL H (.slice a3 n3 c3) B) (hn : 0 ≤ sn ∧ sn ≤ 16) (hu : 1 ≤ u.length ∧ u.length ≤ 200) (hp : p.length ≤ 5) (hB : 1 ≤ B.length ∧ B.length ≤ 4) (hx : ∀ x ∈ B, 1 ≤ x.length ∧ x.length ≤ 64) (w0 at0 : Int) (hat : -9223372036854775808 ≤ at0 ∧ at0 ≤ 9223372036854775807) :
  Calls Tryd.prog 20 #[.agg #[.int .i64 sn, .slice a1 n1 c1, .slice a2 n2 c2, .slice a3 n3 c3], .int .i64 w0, .int .i64 at0] w fun e w' => ∃ (z : Int) (u' : List UInt8) (P' B' : List (List UInt8)) (b1 b2 b3 : Option Addr) (d1 d2 d3 m1 m2 m3 : Nat), e = .returned (.agg #[.int .i64 z, .slice b1 m1 d1, .slice b2 m2 d2, .slice b3 m3 d3]) ∧ Rd (F.ext H w.heap.size w') (.slice b1 m1 d1) m1 1 (u'.map bV) ∧ RdH (F.ext H w.heap.size w') (.slice b2 m2 d2) 32 P' ∧ RdL (F.ext H w.heap.size w') (.slice b3 m3 d3) B' ∧ (sn - 1 ≤ z ∧ z ≤ sn + 1) ∧ u'.length ≤ 200 ∧ P'.length ≤ 6 ∧ B'.length ≤ 4 ∧ (∀ x ∈ B', x.length ≤ 65) ∧ Below w.heap.size w w' := by
 obtain rfl : n1 = u.length := h1.lenB
 obtain rfl : n2 = p.length := h2.len
 obtain rfl : n3 = B.length := h3.len
 have hx1000 : ∀ x ∈ B, x.length ≤ 1000 := fun x h => by have := hx x h; omega
 have hmem : ∀ q, q < B.length → B.getD q [] ∈ B := fun q hq => List.mem_of_getElem? (i := q) (by rw [List.getD_eq_getElem?_getD, List.getElem?_eq_getElem hq]; rfl)
 have hpos : ∀ q, q < B.length → 0 < (B.getD q []).length := fun q hq => (hx _ (hmem q hq)).1
 refine enter3 _ Tryd.func20 rfl Tryd.ntmps20 Tryd.results20 rfl ?_
 have S0 := St.start w hH
 refine Wr (T_boxS S0 (fun _ _ => trivial) rfl rfl rfl rfl rfl rfl fun b81 w82 S83 => (Ae S83 fun b84 w85 S86 => (T_nil ?_)))
 refine W_j1 (fun ρ w' => ∃ (a88 : Option Addr) (c89 : Nat) (a95 : Option Addr) (c96 : Nat) (a102 : Option Addr) (c103 : Nat) (vs104 : List Value) (G124 : Hp), ρ = [(1, .int .i64 w0), (2, .int .i64 at0), (6, .pointer (some ⟨b84, 0, none⟩)), (3, .pointer (some ⟨b81, 0, none⟩))] ∧ H.le G124 ∧ St w H G124 (.blk b84 (.agg #[.int .i64 0, .slice none 0 0, .slice none 0 0, .slice none 0 0] : Value).cells 45 :: .blk b81 (.agg #[.int .i64 sn, .slice a88 u.length c89, .slice a95 p.length c96, .slice a102 B.length c103] : Value).cells 45 :: .row 5 1 (.slice a88 u.length c89) u.length (u.map bV) :: .row 23 32 (.slice a95 p.length c96) p.length (hcells p) :: .row 26 1 (.slice a102 B.length c103) B.length vs104 :: (mrows 5 vs104 B ++ [])) w' ∧ u.length ≤ c89 ∧ p.length ≤ c96 ∧ vs104.length = B.length ∧ B.length = B.length ∧ B.length ≤ c103) ?_ (fun J128 => ?_)
 ·rintro ρ w127 ⟨a88, c89, a95, c96, a102, c103, vs104, G124, rfl, hl125, S126, hc129, hc130, hv131, hs132, hc133⟩
  refine W_seq (Wr (Pv ?_))
  refine Cs g_aumbry_aumbrykeep_Within ((withinN_ok S126.le w0 (8 : Int) (by omega)).mono ?_)
  rintro e w135 ⟨rfl, hB134⟩
  have S136 := S126.call hB134
  refine ⟨_, rfl, trivial, ?_⟩
  refine T_nil (W_block (Wr ?_))
  iterate 2 refine Pv ?_
  refine T_nil (Aa (fun h137 => ?_) (fun h137 => ?_))
  ·refine W_region (Fl 0 ?_)
   refine Ak 1 0 S136 ?_
   iterate 2 refine Pv ?_
   refine T_re (v' := .int .i64 (at0 % 2)) (congrArg (Value.int .i64) (andI1 hat)) ?_
   iterate 3 refine Ar ?_
   refine Fl 0 ?_
   refine Ad (hfit := by exact show 0 < 4 by decide) 1 0 S136 fun w138 S139 => ?_
   have hE140 : (.agg #[.int .i64 sn, .slice a88 u.length c89, .slice a95 p.length c96, .slice a102 B.length c103] : Value).cells.setIfInBounds 0 (.int .i64 (sn + ((1 : Int) - ((2 : Int) * (at0 % 2))))) = (.agg #[.int .i64 (sn + ((1 : Int) - ((2 : Int) * (at0 % 2)))), .slice a88 u.length c89, .slice a95 p.length c96, .slice a102 B.length c103] : Value).cells := rfl
   rw [hE140] at S139
   refine T_nil (W_seq ?_)
   obtain ⟨G142, hl143, S141, r144⟩ := S139.stillRow 2 rfl
   obtain ⟨G146, hl147, S145, r148⟩ := S141.stillRow 2 rfl
   have r149 := RdH.mk h2.1 (by decide) r148
   obtain ⟨G150, hl151, S152, r153⟩ := St.ragAll (p := [.blk b84 (.agg #[.int .i64 0, .slice none 0 0, .slice none 0 0, .slice none 0 0] : Value).cells 45, .blk b81 (.agg #[.int .i64 (sn + ((1 : Int) - ((2 : Int) * (at0 % 2)))), .slice a88 u.length c89, .slice a95 p.length c96, .slice a102 B.length c103] : Value).cells 45]) (its := []) S145 (hv131.trans hs132.symm)
   refine W_region (T_loadFS 1 S152 rfl rfl rfl rfl rfl rfl rfl rfl rfl (by first | rfl | simp [hVs, *]) ?_)
   refine T_storeFS 0 S152 (fun _ _ => trivial) rfl rfl rfl rfl rfl rfl rfl rfl rfl (by first | rfl | simp [hVs, *]) (by first | rfl | simp [hVs, *]) (one_all rfl) fun w154 S155 => ?_
   refine T_nil (W_ret ?_)
   refine ⟨_, ⟨_, _, _, rfl, rfl, run_loadVarA rfl rfl (by first | rfl | simp [hVs, *]) (S155.cells 0 rfl), rfl⟩, ?_⟩
   exact ⟨_, _, _, _, _, _, _, _, _, _, _, _, _, rfl, ((r144.mono (hl147.trans hl151))).mono S155.fin, ((r149.mono hl151)).mono S155.fin, (r153).mono S155.fin, (by omega), (by first | omega | (simp only [List.length_append, List.length_cons, List.length_nil, List.length_set, List.length_drop, List.length_take]; omega)), (by first | omega | (simp only [List.length_append, List.length_cons, List.length_nil, List.length_set, List.length_drop, List.length_take]; omega)), (by first | omega | (simp only [List.length_append, List.length_cons, List.length_nil, List.length_set, List.length_drop, List.length_take]; omega)), (by first | exact fun x h => Nat.le_succ_of_le (hx x h).2 | exact set_le (m := 64) (fun x h => (hx x h).2) (by first | (rw [List.length_set]; omega) | (rw [List.length_append]; show _ + 1 ≤ _; omega)) | exact fun x h => Nat.le_succ_of_le (hx x (List.mem_of_mem_drop h)).2 | exact fun x h => Nat.le_succ_of_le (hx x (List.mem_of_mem_drop (List.mem_of_mem_take h))).2), S155.below⟩
  refine Wr ?_
  iterate 2 refine Pv ?_
  refine T_nil (Aa (fun h156 => ?_) (fun h156 => ?_))
  ·have hz1 := Int.emod_nonneg at0 (show ((u.length : Nat) : Int) ≠ 0 by omega)
   have hz2 := Int.emod_lt_of_pos at0 (show 0 < ((u.length : Nat) : Int) by omega)
   obtain ⟨z, hz⟩ : ∃ zz : Nat, at0 % ((u.length : Nat) : Int) = (zz : Int) := ⟨(at0 % ((u.length : Nat) : Int)).toNat, by omega⟩
   refine W_tree (plan Tryd.prog) (.step 0 (.step 2 (.step 3 (.step 4 (.step 5 (.fork 1 6 (.step 6 (.step 7 (.step 8 (.step 9 (.step 10 (.step 11 .done)))))) (.step 1 (.step 7 (.step 8 (.step 9 (.step 10 (.step 11 .done)))))))))))) rfl (by kernel_rfl) trivial ?_
   have S157 := S136.drew
   refine TT_step rfl (Fl 1 ?_)
   refine Nt rfl (Pv ?_)
   refine Nt rfl (Fl 1 ?_)
   refine Nt rfl (Ak 1 1 S157 ?_)
   refine Nt rfl (Pv (T_nil ?_))
   refine TT_fork rfl rfl ?_ ?_
   ·refine Ak 1 1 S157 ?_
    refine Nt rfl (Cs g_aumbry_aumbrykeep_Within ((withinN_ok S157.le at0 ((u.length : Nat) : Int) (by omega)).mono ?_))
    rintro e w159 ⟨rfl, hB158⟩
    have S160 := S157.call hB158
    refine ⟨_, rfl, trivial, ?_⟩
    refine T_re (v' := .int .i64 ((z : Nat) : Int)) (congrArg (Value.int .i64) hz) (Nt rfl ?_)
    obtain ⟨g161, rfl⟩ := S160.rowAt 2 rfl (by omega)
    refine Ai (hm := by show 0 + Int.toNat _ * 1 = _; omega) (z * 1) ?_
    refine Nt rfl (T_load rfl rfl rfl rfl rfl rfl rfl (S160.rowCell 2 rfl (cellB_at (by omega))) ?_)
    refine Nt rfl (Pv ?_)
    refine T_re (v' := bV ((u.getD z 0) ^^^ 1)) (congrArg (Value.int .u8) (xorU8 _ 1)) (Nt rfl (Ai (hm := by show 0 + Int.toNat _ * 1 = _; omega) (z * 1) ?_))
    refine Nt rfl (T_storeRow 2 ((u.set z ((u.getD z 0) ^^^ 1)).map bV) S160 (fun _ _ => trivial) rfl rfl rfl rfl rfl rfl rfl rfl rfl (by show _ + 1 ≤ _ * 1; omega) (one_bV1 (b := (u.getD z 0) ^^^ 1)) (set_bytes (l := u) (q := z) (x := (u.getD z 0) ^^^ 1) (by omega)) fun w162 S163 => (T_nil (TT_done (W_seq ?_))))
    obtain ⟨G165, hl166, S164, r167⟩ := S163.stillRow 2 rfl
    obtain ⟨G169, hl170, S168, r171⟩ := S164.stillRow 2 rfl
    have r172 := RdH.mk h2.1 (by decide) r171
    obtain ⟨G173, hl174, S175, r176⟩ := St.ragAll (p := [.blk b84 (.agg #[.int .i64 0, .slice none 0 0, .slice none 0 0, .slice none 0 0] : Value).cells 45, .blk b81 (.agg #[.int .i64 sn, .slice (some ⟨g161, 0, none⟩) u.length c89, .slice a95 p.length c96, .slice a102 B.length c103] : Value).cells 45]) (its := []) S168 (hv131.trans hs132.symm)
    refine W_region (T_loadFS 1 S175 rfl rfl rfl rfl rfl rfl rfl rfl rfl (by first | rfl | simp [hVs, *]) ?_)
    refine T_storeFS 0 S175 (fun _ _ => trivial) rfl rfl rfl rfl rfl rfl rfl rfl rfl (by first | rfl | simp [hVs, *]) (by first | rfl | simp [hVs, *]) (one_all rfl) fun w177 S178 => ?_
    refine T_nil (W_ret ?_)
    refine ⟨_, ⟨_, _, _, rfl, rfl, run_loadVarA rfl rfl (by first | rfl | simp [hVs, *]) (S178.cells 0 rfl), rfl⟩, ?_⟩
    exact ⟨_, _, _, _, _, _, _, _, _, _, _, _, _, rfl, ((r167.mono (hl170.trans hl174))).mono S178.fin, ((r172.mono hl174)).mono S178.fin, (r176).mono S178.fin, (by omega), (by first | omega | (simp only [List.length_append, List.length_cons, List.length_nil, List.length_set, List.length_drop, List.length_take]; omega)), (by first | omega | (simp only [List.length_append, List.length_cons, List.length_nil, List.length_set, List.length_drop, List.length_take]; omega)), (by first | omega | (simp only [List.length_append, List.length_cons, List.length_nil, List.length_set, List.length_drop, List.length_take]; omega)), (by first | exact fun x h => Nat.le_succ_of_le (hx x h).2 | exact set_le (m := 64) (fun x h => (hx x h).2) (by first | (rw [List.length_set]; omega) | (rw [List.length_append]; show _ + 1 ≤ _; omega)) | exact fun x h => Nat.le_succ_of_le (hx x (List.mem_of_mem_drop h)).2 | exact fun x h => Nat.le_succ_of_le (hx x (List.mem_of_mem_drop (List.mem_of_mem_take h))).2), S178.below⟩
   refine Cs g_aumbry_aumbrykeep_Within ((withinN_ok S157.le at0 ((u.length : Nat) : Int) (by omega)).mono ?_)
   rintro e w180 ⟨rfl, hB179⟩
   have S181 := S157.call hB179
   refine ⟨_, rfl, trivial, ?_⟩
   refine T_re (v' := .int .i64 ((z : Nat) : Int)) (congrArg (Value.int .i64) hz) (Nt rfl (Ak 1 1 S181 ?_))
   refine Nt rfl ?_
   obtain ⟨g182, rfl⟩ := S181.rowAt 2 rfl (by omega)
   refine Ai (hm := by show 0 + Int.toNat _ * 1 = _; omega) (z * 1) ?_
   refine Nt rfl (T_load rfl rfl rfl rfl rfl rfl rfl (S181.rowCell 2 rfl (cellB_at (by omega))) ?_)
   refine Nt rfl (Pv ?_)
   refine T_re (v' := bV ((u.getD z 0) ^^^ 1)) (congrArg (Value.int .u8) (xorU8 _ 1)) (Nt rfl (Ai (hm := by show 0 + Int.toNat _ * 1 = _; omega) (z * 1) ?_))
   refine Nt rfl (T_storeRow 2 ((u.set z ((u.getD z 0) ^^^ 1)).map bV) S181 (fun _ _ => trivial) rfl rfl rfl rfl rfl rfl rfl rfl rfl (by show _ + 1 ≤ _ * 1; omega) (one_bV1 (b := (u.getD z 0) ^^^ 1)) (set_bytes (l := u) (q := z) (x := (u.getD z 0) ^^^ 1) (by omega)) fun w183 S184 => (T_nil (TT_done (W_seq ?_))))
   obtain ⟨G186, hl187, S185, r188⟩ := S184.stillRow 2 rfl
   obtain ⟨G190, hl191, S189, r192⟩ := S185.stillRow 2 rfl
   have r193 := RdH.mk h2.1 (by decide) r192
   obtain ⟨G194, hl195, S196, r197⟩ := St.ragAll (p := [.blk b84 (.agg #[.int .i64 0, .slice none 0 0, .slice none 0 0, .slice none 0 0] : Value).cells 45, .blk b81 (.agg #[.int .i64 sn, .slice (some ⟨g182, 0, none⟩) u.length c89, .slice a95 p.length c96, .slice a102 B.length c103] : Value).cells 45]) (its := []) S189 (hv131.trans hs132.symm)
   refine W_region (T_loadFS 1 S196 rfl rfl rfl rfl rfl rfl rfl rfl rfl (by first | rfl | simp [hVs, *]) ?_)
   refine T_storeFS 0 S196 (fun _ _ => trivial) rfl rfl rfl rfl rfl rfl rfl rfl rfl (by first | rfl | simp [hVs, *]) (by first | rfl | simp [hVs, *]) (one_all rfl) fun w198 S199 => ?_
   refine T_nil (W_ret ?_)
   refine ⟨_, ⟨_, _, _, rfl, rfl, run_loadVarA rfl rfl (by first | rfl | simp [hVs, *]) (S199.cells 0 rfl), rfl⟩, ?_⟩
   exact ⟨_, _, _, _, _, _, _, _, _, _, _, _, _, rfl, ((r188.mono (hl191.trans hl195))).mono S199.fin, ((r193.mono hl195)).mono S199.fin, (r197).mono S199.fin, (by omega), (by first | omega | (simp only [List.length_append, List.length_cons, List.length_nil, List.length_set, List.length_drop, List.length_take]; omega)), (by first | omega | (simp only [List.length_append, List.length_cons, List.length_nil, List.length_set, List.length_drop, List.length_take]; omega)), (by first | omega | (simp only [List.length_append, List.length_cons, List.length_nil, List.length_set, List.length_drop, List.length_take]; omega)), (by first | exact fun x h => Nat.le_succ_of_le (hx x h).2 | exact set_le (m := 64) (fun x h => (hx x h).2) (by first | (rw [List.length_set]; omega) | (rw [List.length_append]; show _ + 1 ≤ _; omega)) | exact fun x h => Nat.le_succ_of_le (hx x (List.mem_of_mem_drop h)).2 | exact fun x h => Nat.le_succ_of_le (hx x (List.mem_of_mem_drop (List.mem_of_mem_take h))).2), S199.below⟩
  refine Wr ?_
  iterate 2 refine Pv ?_
  refine T_nil (Aa (fun h200 => ?_) (fun h200 => ?_))
  ·refine Wr (Fl 2 ?_)
   refine Ak 1 2 S136 ?_
   iterate 2 refine Pv ?_
   refine T_nil (Aa (fun h201 => ?_) (fun h201 => ?_))
   ·have hz1 := Int.emod_nonneg at0 (show ((p.length : Nat) : Int) ≠ 0 by omega)
    have hz2 := Int.emod_lt_of_pos at0 (show 0 < ((p.length : Nat) : Int) by omega)
    obtain ⟨z, hz⟩ : ∃ zz : Nat, at0 % ((p.length : Nat) : Int) = (zz : Int) := ⟨(at0 % ((p.length : Nat) : Int)).toNat, by omega⟩
    refine W_tree (plan Tryd.prog) (.step 0 (.step 2 (.step 3 (.step 4 (.step 5 (.fork 1 6 (.step 6 (.step 7 (.step 8 (.step 9 (.step 10 (.step 11 (.step 12 (.step 13 .done)))))))) (.step 1 (.step 7 (.step 8 (.step 9 (.step 10 (.step 11 (.step 12 (.step 13 .done)))))))))))))) rfl (by kernel_rfl) trivial ?_
    have S202 := S136.drew
    refine TT_step rfl (Fl 2 ?_)
    refine Nt rfl (Pv ?_)
    refine Nt rfl (Fl 2 ?_)
    refine Nt rfl (Ak 1 2 S202 ?_)
    refine Nt rfl (Pv (T_nil ?_))
    refine TT_fork rfl rfl ?_ ?_
    ·refine Ak 1 2 S202 ?_
     refine Nt rfl (Cs g_aumbry_aumbrykeep_Within ((withinN_ok S202.le at0 ((p.length : Nat) : Int) (by omega)).mono ?_))
     rintro e w204 ⟨rfl, hB203⟩
     have S205 := S202.call hB203
     refine ⟨_, rfl, trivial, ?_⟩
     refine T_re (v' := .int .i64 ((z : Nat) : Int)) (congrArg (Value.int .i64) hz) (Nt rfl ?_)
     obtain ⟨g206, rfl⟩ := S205.rowAt 3 rfl (by omega)
     refine Ai (hm := by show 0 + Int.toNat _ * 32 = _; omega) (z * 32) ?_
     refine Nt rfl (T_idxAm (z * 32 + 5) rfl rfl rfl rfl rfl rfl rfl rfl (by omega) (by show _ + Int.toNat _ * 1 = _; omega) ?_)
     refine Nt rfl (T_load rfl rfl rfl rfl rfl rfl rfl (S205.rowCell 3 rfl (hcells_at1 h2.1 (by omega) (by omega))) ?_)
     refine Nt rfl (Pv ?_)
     refine T_re (v' := bV (((p.getD z []).getD 5 0) ^^^ 1)) (congrArg (Value.int .u8) (xorU8 _ 1)) (Nt rfl (Ai (hm := by show 0 + Int.toNat _ * 32 = _; omega) (z * 32) ?_))
     refine Nt rfl (T_idxAm (z * 32 + 5) rfl rfl rfl rfl rfl rfl rfl rfl (by omega) (by show _ + Int.toNat _ * 1 = _; omega) ?_)
     refine Nt rfl (T_storeRow 3 (hcells (p.set z ((p.getD z []).set 5 (((p.getD z []).getD 5 0) ^^^ 1)))) S205 (fun _ _ => trivial) rfl rfl rfl rfl rfl rfl rfl rfl rfl (by show _ + 1 ≤ _ * 32; omega) one_bV1 (hcells_set1 h2.1 (by omega) (by omega)) fun w207 S208 => (T_nil (TT_done (W_seq ?_))))
     obtain ⟨G210, hl211, S209, r212⟩ := S208.stillRow 2 rfl
     obtain ⟨G214, hl215, S213, r216⟩ := S209.stillRow 2 rfl
     have r217 := RdH.mk (set_all (h := (p.getD z []).set 5 (((p.getD z []).getD 5 0) ^^^ 1)) h2.1 z (by rw [List.length_set]; exact len_h h2.1 z (by omega))) (by decide) r216
     obtain ⟨G218, hl219, S220, r221⟩ := St.ragAll (p := [.blk b84 (.agg #[.int .i64 0, .slice none 0 0, .slice none 0 0, .slice none 0 0] : Value).cells 45, .blk b81 (.agg #[.int .i64 sn, .slice a88 u.length c89, .slice (some ⟨g206, 0, none⟩) p.length c96, .slice a102 B.length c103] : Value).cells 45]) (its := []) S213 (hv131.trans hs132.symm)
     refine W_region (T_loadFS 1 S220 rfl rfl rfl rfl rfl rfl rfl rfl rfl (by first | rfl | simp [hVs, *]) ?_)
     refine T_storeFS 0 S220 (fun _ _ => trivial) rfl rfl rfl rfl rfl rfl rfl rfl rfl (by first | rfl | simp [hVs, *]) (by first | rfl | simp [hVs, *]) (one_all rfl) fun w222 S223 => ?_
     refine T_nil (W_ret ?_)
     refine ⟨_, ⟨_, _, _, rfl, rfl, run_loadVarA rfl rfl (by first | rfl | simp [hVs, *]) (S223.cells 0 rfl), rfl⟩, ?_⟩
     exact ⟨_, _, _, _, _, _, _, _, _, _, _, _, _, rfl, ((r212.mono (hl215.trans hl219))).mono S223.fin, ((r217.mono hl219)).mono S223.fin, (r221).mono S223.fin, (by omega), (by first | omega | (simp only [List.length_append, List.length_cons, List.length_nil, List.length_set, List.length_drop, List.length_take]; omega)), (by first | omega | (simp only [List.length_append, List.length_cons, List.length_nil, List.length_set, List.length_drop, List.length_take]; omega)), (by first | omega | (simp only [List.length_append, List.length_cons, List.length_nil, List.length_set, List.length_drop, List.length_take]; omega)), (by first | exact fun x h => Nat.le_succ_of_le (hx x h).2 | exact set_le (m := 64) (fun x h => (hx x h).2) (by first | (rw [List.length_set]; omega) | (rw [List.length_append]; show _ + 1 ≤ _; omega)) | exact fun x h => Nat.le_succ_of_le (hx x (List.mem_of_mem_drop h)).2 | exact fun x h => Nat.le_succ_of_le (hx x (List.mem_of_mem_drop (List.mem_of_mem_take h))).2), S223.below⟩
    refine Cs g_aumbry_aumbrykeep_Within ((withinN_ok S202.le at0 ((p.length : Nat) : Int) (by omega)).mono ?_)
    rintro e w225 ⟨rfl, hB224⟩
    have S226 := S202.call hB224
    refine ⟨_, rfl, trivial, ?_⟩
    refine T_re (v' := .int .i64 ((z : Nat) : Int)) (congrArg (Value.int .i64) hz) (Nt rfl (Ak 1 2 S226 ?_))
    refine Nt rfl ?_
    obtain ⟨g227, rfl⟩ := S226.rowAt 3 rfl (by omega)
    refine Ai (hm := by show 0 + Int.toNat _ * 32 = _; omega) (z * 32) ?_
    refine Nt rfl (T_idxAm (z * 32 + 5) rfl rfl rfl rfl rfl rfl rfl rfl (by omega) (by show _ + Int.toNat _ * 1 = _; omega) ?_)
    refine Nt rfl (T_load rfl rfl rfl rfl rfl rfl rfl (S226.rowCell 3 rfl (hcells_at1 h2.1 (by omega) (by omega))) ?_)
    refine Nt rfl (Pv ?_)
    refine T_re (v' := bV (((p.getD z []).getD 5 0) ^^^ 1)) (congrArg (Value.int .u8) (xorU8 _ 1)) (Nt rfl (Ai (hm := by show 0 + Int.toNat _ * 32 = _; omega) (z * 32) ?_))
    refine Nt rfl (T_idxAm (z * 32 + 5) rfl rfl rfl rfl rfl rfl rfl rfl (by omega) (by show _ + Int.toNat _ * 1 = _; omega) ?_)
    refine Nt rfl (T_storeRow 3 (hcells (p.set z ((p.getD z []).set 5 (((p.getD z []).getD 5 0) ^^^ 1)))) S226 (fun _ _ => trivial) rfl rfl rfl rfl rfl rfl rfl rfl rfl (by show _ + 1 ≤ _ * 32; omega) one_bV1 (hcells_set1 h2.1 (by omega) (by omega)) fun w228 S229 => (T_nil (TT_done (W_seq ?_))))
    obtain ⟨G231, hl232, S230, r233⟩ := S229.stillRow 2 rfl
    obtain ⟨G235, hl236, S234, r237⟩ := S230.stillRow 2 rfl
    have r238 := RdH.mk (set_all (h := (p.getD z []).set 5 (((p.getD z []).getD 5 0) ^^^ 1)) h2.1 z (by rw [List.length_set]; exact len_h h2.1 z (by omega))) (by decide) r237
    obtain ⟨G239, hl240, S241, r242⟩ := St.ragAll (p := [.blk b84 (.agg #[.int .i64 0, .slice none 0 0, .slice none 0 0, .slice none 0 0] : Value).cells 45, .blk b81 (.agg #[.int .i64 sn, .slice a88 u.length c89, .slice (some ⟨g227, 0, none⟩) p.length c96, .slice a102 B.length c103] : Value).cells 45]) (its := []) S234 (hv131.trans hs132.symm)
    refine W_region (T_loadFS 1 S241 rfl rfl rfl rfl rfl rfl rfl rfl rfl (by first | rfl | simp [hVs, *]) ?_)
    refine T_storeFS 0 S241 (fun _ _ => trivial) rfl rfl rfl rfl rfl rfl rfl rfl rfl (by first | rfl | simp [hVs, *]) (by first | rfl | simp [hVs, *]) (one_all rfl) fun w243 S244 => ?_
    refine T_nil (W_ret ?_)
    refine ⟨_, ⟨_, _, _, rfl, rfl, run_loadVarA rfl rfl (by first | rfl | simp [hVs, *]) (S244.cells 0 rfl), rfl⟩, ?_⟩
    exact ⟨_, _, _, _, _, _, _, _, _, _, _, _, _, rfl, ((r233.mono (hl236.trans hl240))).mono S244.fin, ((r238.mono hl240)).mono S244.fin, (r242).mono S244.fin, (by omega), (by first | omega | (simp only [List.length_append, List.length_cons, List.length_nil, List.length_set, List.length_drop, List.length_take]; omega)), (by first | omega | (simp only [List.length_append, List.length_cons, List.length_nil, List.length_set, List.length_drop, List.length_take]; omega)), (by first | omega | (simp only [List.length_append, List.length_cons, List.length_nil, List.length_set, List.length_drop, List.length_take]; omega)), (by first | exact fun x h => Nat.le_succ_of_le (hx x h).2 | exact set_le (m := 64) (fun x h => (hx x h).2) (by first | (rw [List.length_set]; omega) | (rw [List.length_append]; show _ + 1 ≤ _; omega)) | exact fun x h => Nat.le_succ_of_le (hx x (List.mem_of_mem_drop h)).2 | exact fun x h => Nat.le_succ_of_le (hx x (List.mem_of_mem_drop (List.mem_of_mem_take h))).2), S244.below⟩
   refine W_skip (W_seq ?_)
   obtain ⟨G246, hl247, S245, r248⟩ := S136.stillRow 2 rfl
   obtain ⟨G250, hl251, S249, r252⟩ := S245.stillRow 2 rfl
   have r253 := RdH.mk h2.1 (by decide) r252
   obtain ⟨G254, hl255, S256, r257⟩ := St.ragAll (p := [.blk b84 (.agg #[.int .i64 0, .slice none 0 0, .slice none 0 0, .slice none 0 0] : Value).cells 45, .blk b81 (.agg #[.int .i64 sn, .slice a88 u.length c89, .slice a95 p.length c96, .slice a102 B.length c103] : Value).cells 45]) (its := []) S249 (hv131.trans hs132.symm)
   refine W_region (T_loadFS 1 S256 rfl rfl rfl rfl rfl rfl rfl rfl rfl (by first | rfl | simp [hVs, *]) ?_)
   refine T_storeFS 0 S256 (fun _ _ => trivial) rfl rfl rfl rfl rfl rfl rfl rfl rfl (by first | rfl | simp [hVs, *]) (by first | rfl | simp [hVs, *]) (one_all rfl) fun w258 S259 => ?_
   refine T_nil (W_ret ?_)
   refine ⟨_, ⟨_, _, _, rfl, rfl, run_loadVarA rfl rfl (by first | rfl | simp [hVs, *]) (S259.cells 0 rfl), rfl⟩, ?_⟩
   exact ⟨_, _, _, _, _, _, _, _, _, _, _, _, _, rfl, ((r248.mono (hl251.trans hl255))).mono S259.fin, ((r253.mono hl255)).mono S259.fin, (r257).mono S259.fin, (by omega), (by first | omega | (simp only [List.length_append, List.length_cons, List.length_nil, List.length_set, List.length_drop, List.length_take]; omega)), (by first | omega | (simp only [List.length_append, List.length_cons, List.length_nil, List.length_set, List.length_drop, List.length_take]; omega)), (by first | omega | (simp only [List.length_append, List.length_cons, List.length_nil, List.length_set, List.length_drop, List.length_take]; omega)), (by first | exact fun x h => Nat.le_succ_of_le (hx x h).2 | exact set_le (m := 64) (fun x h => (hx x h).2) (by first | (rw [List.length_set]; omega) | (rw [List.length_append]; show _ + 1 ≤ _; omega)) | exact fun x h => Nat.le_succ_of_le (hx x (List.mem_of_mem_drop h)).2 | exact fun x h => Nat.le_succ_of_le (hx x (List.mem_of_mem_drop (List.mem_of_mem_take h))).2), S259.below⟩
  refine Wr ?_
  iterate 2 refine Pv ?_
  refine T_nil (Aa (fun h260 => ?_) (fun h260 => ?_))
  ·refine W_seq ?_
   have hz1 := Int.emod_nonneg at0 (show ((B.length : Nat) : Int) ≠ 0 by omega)
   have hz2 := Int.emod_lt_of_pos at0 (show 0 < ((B.length : Nat) : Int) by omega)
   obtain ⟨z, hz⟩ : ∃ zz : Nat, at0 % ((B.length : Nat) : Int) = (zz : Int) := ⟨(at0 % ((B.length : Nat) : Int)).toNat, by omega⟩
   refine W_tree (plan Tryd.prog) (.step 0 (.step 2 (.step 3 (.step 4 (.step 5 (.fork 1 6 (.step 6 (.step 7 (.step 8 (.step 9 .done)))) (.step 1 (.step 7 (.step 8 (.step 9 .done)))))))))) rfl (by kernel_rfl) trivial ?_
   have S261 := S136.drew
   refine TT_step rfl (Fl 3 ?_)
   refine Nt rfl (Pv ?_)
   refine Nt rfl (Fl 3 ?_)
   refine Nt rfl (Ak 1 3 S261 ?_)
   refine Nt rfl (Pv (T_nil ?_))
   refine TT_fork rfl rfl ?_ ?_
   ·refine Ak 1 3 S261 ?_
    refine Nt rfl (Cs g_aumbry_aumbrykeep_Within ((withinN_ok S261.le at0 ((B.length : Nat) : Int) (by omega)).mono ?_))
    rintro e w263 ⟨rfl, hB262⟩
    have S264 := S261.call hB262
    refine ⟨_, rfl, trivial, ?_⟩
    refine T_re (v' := .int .i64 ((z : Nat) : Int)) (congrArg (Value.int .i64) hz) (Nt rfl ?_)
    obtain ⟨g265, rfl⟩ := S264.rowAt 4 rfl (by omega)
    refine Ai (hm := by show 0 + Int.toNat _ * 1 = _; omega) (z * 1) ?_
    refine Nt rfl ?_
    obtain ⟨g266, c267, hv268, hc269, hr270⟩ := St.ragCell (p := [.blk b84 (.agg #[.int .i64 0, .slice none 0 0, .slice none 0 0, .slice none 0 0] : Value).cells 45, .blk b81 (.agg #[.int .i64 sn, .slice a88 u.length c89, .slice a95 p.length c96, .slice (some ⟨g265, 0, none⟩) B.length c103] : Value).cells 45, .row 5 1 (.slice a88 u.length c89) u.length (u.map bV), .row 23 32 (.slice a95 p.length c96) p.length (hcells p), .row 26 1 (.slice (some ⟨g265, 0, none⟩) B.length c103) B.length vs104]) (its := []) S264 (hv131.trans hs132.symm) (show z < B.length by omega) (hpos z (by omega))
    refine T_load rfl rfl rfl rfl rfl rfl rfl (S264.rowCell 4 rfl (by rw [Nat.mul_one]; exact hv268)) ?_
    refine Nt rfl (Pv (T_nil (TT_done ?_)))
    have hel := hx _ (List.mem_of_getElem? hr270)
    have hy1 := Int.emod_nonneg at0 (show (((B.getD z []).length : Nat) : Int) ≠ 0 by omega)
    have hy2 := Int.emod_lt_of_pos at0 (show 0 < (((B.getD z []).length : Nat) : Int) by omega)
    obtain ⟨y, hy⟩ : ∃ zz : Nat, at0 % (((B.getD z []).length : Nat) : Int) = (zz : Int) := ⟨(at0 % (((B.getD z []).length : Nat) : Int)).toNat, by omega⟩
    refine W_region ?_
    iterate 4 refine Pv ?_
    refine Cs g_aumbry_aumbrykeep_Within ((withinN_ok S264.le at0 (((B.getD z []).length : Nat) : Int) (by omega)).mono ?_)
    rintro e w273 ⟨rfl, hB272⟩
    have S274 := S264.call hB272
    refine ⟨_, rfl, trivial, ?_⟩
    refine T_re (v' := .int .i64 ((y : Nat) : Int)) (congrArg (Value.int .i64) hy) (Ai (hm := by show 0 + Int.toNat _ * 1 = _; omega) (y * 1) ?_)
    refine T_load rfl rfl rfl rfl rfl rfl rfl (St.ragRead (p := [.blk b84 (.agg #[.int .i64 0, .slice none 0 0, .slice none 0 0, .slice none 0 0] : Value).cells 45, .blk b81 (.agg #[.int .i64 sn, .slice a88 u.length c89, .slice a95 p.length c96, .slice (some ⟨g265, 0, none⟩) B.length c103] : Value).cells 45, .row 5 1 (.slice a88 u.length c89) u.length (u.map bV), .row 23 32 (.slice a95 p.length c96) p.length (hcells p), .row 26 1 (.slice (some ⟨g265, 0, none⟩) B.length c103) B.length vs104]) (its := []) S274 hv268 hr270 rfl (by omega)) ?_
    refine Pv ?_
    refine T_re (v' := bV (((B.getD z []).getD y 0) ^^^ 16)) (congrArg (Value.int .u8) (xorU8 _ 16)) (Ai (hm := by show 0 + Int.toNat _ * 1 = _; omega) (y * 1) ?_)
    refine T_ragStore (u := ((B.getD z []).getD y 0) ^^^ 16) (its := []) [.blk b84 (.agg #[.int .i64 0, .slice none 0 0, .slice none 0 0, .slice none 0 0] : Value).cells 45, .blk b81 (.agg #[.int .i64 sn, .slice a88 u.length c89, .slice a95 p.length c96, .slice (some ⟨g265, 0, none⟩) B.length c103] : Value).cells 45, .row 5 1 (.slice a88 u.length c89) u.length (u.map bV), .row 23 32 (.slice a95 p.length c96) p.length (hcells p), .row 26 1 (.slice (some ⟨g265, 0, none⟩) B.length c103) B.length vs104] z y S274 (fun _ _ => trivial) hv268 hr270 rfl (by omega) rfl rfl rfl rfl rfl rfl rfl rfl rfl fun w275 S276 => ?_
    have hs277 : (B.set z ((B.getD z []).set y (((B.getD z []).getD y 0) ^^^ 16))).length = B.length := List.length_set.trans hs132
    have S278 : St w H G124 (.blk b84 (.agg #[.int .i64 0, .slice none 0 0, .slice none 0 0, .slice none 0 0] : Value).cells 45 :: .blk b81 (.agg #[.int .i64 sn, .slice a88 u.length c89, .slice a95 p.length c96, .slice (some ⟨g265, 0, none⟩) B.length c103] : Value).cells 45 :: .row 5 1 (.slice a88 u.length c89) u.length (u.map bV) :: .row 23 32 (.slice a95 p.length c96) p.length (hcells p) :: .row 26 1 (.slice (some ⟨g265, 0, none⟩) B.length c103) B.length vs104 :: (mrows 5 vs104 (B.set z ((B.getD z []).set y (((B.getD z []).getD y 0) ^^^ 16))) ++ [])) w275 := S276
    refine T_nil (W_seq ?_)
    obtain ⟨G280, hl281, S279, r282⟩ := S278.stillRow 2 rfl
    obtain ⟨G284, hl285, S283, r286⟩ := S279.stillRow 2 rfl
    have r287 := RdH.mk h2.1 (by decide) r286
    obtain ⟨G288, hl289, S290, r291⟩ := St.ragAll (p := [.blk b84 (.agg #[.int .i64 0, .slice none 0 0, .slice none 0 0, .slice none 0 0] : Value).cells 45, .blk b81 (.agg #[.int .i64 sn, .slice a88 u.length c89, .slice a95 p.length c96, .slice (some ⟨g265, 0, none⟩) B.length c103] : Value).cells 45]) (its := []) S283 (hv131.trans hs277.symm)
    refine W_region (T_loadFS 1 S290 rfl rfl rfl rfl rfl rfl rfl rfl rfl (by first | rfl | simp [hVs, *]) ?_)
    refine T_storeFS 0 S290 (fun _ _ => trivial) rfl rfl rfl rfl rfl rfl rfl rfl rfl (by first | rfl | simp [hVs, *]) (by first | rfl | simp [hVs, *]) (one_all rfl) fun w292 S293 => ?_
    refine T_nil (W_ret ?_)
    refine ⟨_, ⟨_, _, _, rfl, rfl, run_loadVarA rfl rfl (by first | rfl | simp [hVs, *]) (S293.cells 0 rfl), rfl⟩, ?_⟩
    exact ⟨_, _, _, _, _, _, _, _, _, _, _, _, _, rfl, ((r282.mono (hl285.trans hl289))).mono S293.fin, ((r287.mono hl289)).mono S293.fin, (r291).mono S293.fin, (by omega), (by first | omega | (simp only [List.length_append, List.length_cons, List.length_nil, List.length_set, List.length_drop, List.length_take]; omega)), (by first | omega | (simp only [List.length_append, List.length_cons, List.length_nil, List.length_set, List.length_drop, List.length_take]; omega)), (by first | omega | (simp only [List.length_append, List.length_cons, List.length_nil, List.length_set, List.length_drop, List.length_take]; omega)), (by first | exact fun x h => Nat.le_succ_of_le (hx x h).2 | exact set_le (m := 64) (fun x h => (hx x h).2) (by first | (rw [List.length_set]; omega) | (rw [List.length_append]; show _ + 1 ≤ _; omega)) | exact fun x h => Nat.le_succ_of_le (hx x (List.mem_of_mem_drop h)).2 | exact fun x h => Nat.le_succ_of_le (hx x (List.mem_of_mem_drop (List.mem_of_mem_take h))).2), S293.below⟩
   refine Cs g_aumbry_aumbrykeep_Within ((withinN_ok S261.le at0 ((B.length : Nat) : Int) (by omega)).mono ?_)
   rintro e w295 ⟨rfl, hB294⟩
   have S296 := S261.call hB294
   refine ⟨_, rfl, trivial, ?_⟩
   refine T_re (v' := .int .i64 ((z : Nat) : Int)) (congrArg (Value.int .i64) hz) (Nt rfl (Ak 1 3 S296 ?_))
   refine Nt rfl ?_
   obtain ⟨g297, rfl⟩ := S296.rowAt 4 rfl (by omega)
   refine Ai (hm := by show 0 + Int.toNat _ * 1 = _; omega) (z * 1) ?_
   refine Nt rfl ?_
   obtain ⟨g298, c299, hv300, hc301, hr302⟩ := St.ragCell (p := [.blk b84 (.agg #[.int .i64 0, .slice none 0 0, .slice none 0 0, .slice none 0 0] : Value).cells 45, .blk b81 (.agg #[.int .i64 sn, .slice a88 u.length c89, .slice a95 p.length c96, .slice (some ⟨g297, 0, none⟩) B.length c103] : Value).cells 45, .row 5 1 (.slice a88 u.length c89) u.length (u.map bV), .row 23 32 (.slice a95 p.length c96) p.length (hcells p), .row 26 1 (.slice (some ⟨g297, 0, none⟩) B.length c103) B.length vs104]) (its := []) S296 (hv131.trans hs132.symm) (show z < B.length by omega) (hpos z (by omega))
   refine T_load rfl rfl rfl rfl rfl rfl rfl (S296.rowCell 4 rfl (by rw [Nat.mul_one]; exact hv300)) ?_
   refine Nt rfl (Pv (T_nil (TT_done ?_)))
   have hel := hx _ (List.mem_of_getElem? hr302)
   have hy1 := Int.emod_nonneg at0 (show (((B.getD z []).length : Nat) : Int) ≠ 0 by omega)
   have hy2 := Int.emod_lt_of_pos at0 (show 0 < (((B.getD z []).length : Nat) : Int) by omega)
   obtain ⟨y, hy⟩ : ∃ zz : Nat, at0 % (((B.getD z []).length : Nat) : Int) = (zz : Int) := ⟨(at0 % (((B.getD z []).length : Nat) : Int)).toNat, by omega⟩
   refine W_region ?_
   iterate 4 refine Pv ?_
   refine Cs g_aumbry_aumbrykeep_Within ((withinN_ok S296.le at0 (((B.getD z []).length : Nat) : Int) (by omega)).mono ?_)
   rintro e w305 ⟨rfl, hB304⟩
   have S306 := S296.call hB304
   refine ⟨_, rfl, trivial, ?_⟩
   refine T_re (v' := .int .i64 ((y : Nat) : Int)) (congrArg (Value.int .i64) hy) (Ai (hm := by show 0 + Int.toNat _ * 1 = _; omega) (y * 1) ?_)
   refine T_load rfl rfl rfl rfl rfl rfl rfl (St.ragRead (p := [.blk b84 (.agg #[.int .i64 0, .slice none 0 0, .slice none 0 0, .slice none 0 0] : Value).cells 45, .blk b81 (.agg #[.int .i64 sn, .slice a88 u.length c89, .slice a95 p.length c96, .slice (some ⟨g297, 0, none⟩) B.length c103] : Value).cells 45, .row 5 1 (.slice a88 u.length c89) u.length (u.map bV), .row 23 32 (.slice a95 p.length c96) p.length (hcells p), .row 26 1 (.slice (some ⟨g297, 0, none⟩) B.length c103) B.length vs104]) (its := []) S306 hv300 hr302 rfl (by omega)) ?_
   refine Pv ?_
   refine T_re (v' := bV (((B.getD z []).getD y 0) ^^^ 16)) (congrArg (Value.int .u8) (xorU8 _ 16)) (Ai (hm := by show 0 + Int.toNat _ * 1 = _; omega) (y * 1) ?_)
   refine T_ragStore (u := ((B.getD z []).getD y 0) ^^^ 16) (its := []) [.blk b84 (.agg #[.int .i64 0, .slice none 0 0, .slice none 0 0, .slice none 0 0] : Value).cells 45, .blk b81 (.agg #[.int .i64 sn, .slice a88 u.length c89, .slice a95 p.length c96, .slice (some ⟨g297, 0, none⟩) B.length c103] : Value).cells 45, .row 5 1 (.slice a88 u.length c89) u.length (u.map bV), .row 23 32 (.slice a95 p.length c96) p.length (hcells p), .row 26 1 (.slice (some ⟨g297, 0, none⟩) B.length c103) B.length vs104] z y S306 (fun _ _ => trivial) hv300 hr302 rfl (by omega) rfl rfl rfl rfl rfl rfl rfl rfl rfl fun w307 S308 => ?_
   have hs309 : (B.set z ((B.getD z []).set y (((B.getD z []).getD y 0) ^^^ 16))).length = B.length := List.length_set.trans hs132
   have S310 : St w H G124 (.blk b84 (.agg #[.int .i64 0, .slice none 0 0, .slice none 0 0, .slice none 0 0] : Value).cells 45 :: .blk b81 (.agg #[.int .i64 sn, .slice a88 u.length c89, .slice a95 p.length c96, .slice (some ⟨g297, 0, none⟩) B.length c103] : Value).cells 45 :: .row 5 1 (.slice a88 u.length c89) u.length (u.map bV) :: .row 23 32 (.slice a95 p.length c96) p.length (hcells p) :: .row 26 1 (.slice (some ⟨g297, 0, none⟩) B.length c103) B.length vs104 :: (mrows 5 vs104 (B.set z ((B.getD z []).set y (((B.getD z []).getD y 0) ^^^ 16))) ++ [])) w307 := S308
   refine T_nil (W_seq ?_)
   obtain ⟨G312, hl313, S311, r314⟩ := S310.stillRow 2 rfl
   obtain ⟨G316, hl317, S315, r318⟩ := S311.stillRow 2 rfl
   have r319 := RdH.mk h2.1 (by decide) r318
   obtain ⟨G320, hl321, S322, r323⟩ := St.ragAll (p := [.blk b84 (.agg #[.int .i64 0, .slice none 0 0, .slice none 0 0, .slice none 0 0] : Value).cells 45, .blk b81 (.agg #[.int .i64 sn, .slice a88 u.length c89, .slice a95 p.length c96, .slice (some ⟨g297, 0, none⟩) B.length c103] : Value).cells 45]) (its := []) S315 (hv131.trans hs309.symm)
   refine W_region (T_loadFS 1 S322 rfl rfl rfl rfl rfl rfl rfl rfl rfl (by first | rfl | simp [hVs, *]) ?_)
   refine T_storeFS 0 S322 (fun _ _ => trivial) rfl rfl rfl rfl rfl rfl rfl rfl rfl (by first | rfl | simp [hVs, *]) (by first | rfl | simp [hVs, *]) (one_all rfl) fun w324 S325 => ?_
   refine T_nil (W_ret ?_)
   refine ⟨_, ⟨_, _, _, rfl, rfl, run_loadVarA rfl rfl (by first | rfl | simp [hVs, *]) (S325.cells 0 rfl), rfl⟩, ?_⟩
   exact ⟨_, _, _, _, _, _, _, _, _, _, _, _, _, rfl, ((r314.mono (hl317.trans hl321))).mono S325.fin, ((r319.mono hl321)).mono S325.fin, (r323).mono S325.fin, (by omega), (by first | omega | (simp only [List.length_append, List.length_cons, List.length_nil, List.length_set, List.length_drop, List.length_take]; omega)), (by first | omega | (simp only [List.length_append, List.length_cons, List.length_nil, List.length_set, List.length_drop, List.length_take]; omega)), (by first | omega | (simp only [List.length_append, List.length_cons, List.length_nil, List.length_set, List.length_drop, List.length_take]; omega)), (by first | exact fun x h => Nat.le_succ_of_le (hx x h).2 | exact set_le (m := 64) (fun x h => (hx x h).2) (by first | (rw [List.length_set]; omega) | (rw [List.length_append]; show _ + 1 ≤ _; omega)) | exact fun x h => Nat.le_succ_of_le (hx x (List.mem_of_mem_drop h)).2 | exact fun x h => Nat.le_succ_of_le (hx x (List.mem_of_mem_drop (List.mem_of_mem_take h))).2), S325.below⟩
  refine Wr ?_
  iterate 2 refine Pv ?_
  refine T_nil (Aa (fun h326 => ?_) (fun h326 => ?_))
  ·refine W_region (Fl 3 ?_)
   refine Ak 1 3 S136 ?_
   obtain ⟨G327, hl328, S329, r330⟩ := St.ragAll (p := [.blk b84 (.agg #[.int .i64 0, .slice none 0 0, .slice none 0 0, .slice none 0 0] : Value).cells 45, .blk b81 (.agg #[.int .i64 sn, .slice a88 u.length c89, .slice a95 p.length c96, .slice a102 B.length c103] : Value).cells 45, .row 5 1 (.slice a88 u.length c89) u.length (u.map bV), .row 23 32 (.slice a95 p.length c96) p.length (hcells p)]) (its := []) S136 (hv131.trans hs132.symm)
   obtain ⟨hs335, r336, r337⟩ := (id r330)
   refine T_sliceR 1 B.length r336 rfl rfl rfl rfl rfl rfl rfl rfl rfl rfl (by first | rfl | exact congrArg some (by omega)) (bound_of (by omega)) (by omega) (by omega) fun a331 c332 hc333 r334 => ?_
   have r338 := RdL.mk r334 (r337.cut 1 (B.length - 1))
   refine Fl 3 ?_
   refine Ad (hfit := by exact show 3 < 4 by decide) 1 3 S329 fun w339 S340 => ?_
   have hE341 : (.agg #[.int .i64 sn, .slice a88 u.length c89, .slice a95 p.length c96, .slice a102 B.length c103] : Value).cells.setIfInBounds 3 (.slice a331 (B.length - 1) c332) = (.agg #[.int .i64 sn, .slice a88 u.length c89, .slice a95 p.length c96, .slice a331 (B.length - 1) c332] : Value).cells := rfl
   rw [hE341] at S340
   refine T_nil (W_seq ?_)
   obtain ⟨G343, hl344, S342, r345⟩ := S340.stillRow 2 rfl
   obtain ⟨G347, hl348, S346, r349⟩ := S342.stillRow 2 rfl
   have r350 := RdH.mk h2.1 (by decide) r349
   refine W_region (T_loadFS 1 S346 rfl rfl rfl rfl rfl rfl rfl rfl rfl (by first | rfl | simp [hVs, *]) ?_)
   refine T_storeFS 0 S346 (fun _ _ => trivial) rfl rfl rfl rfl rfl rfl rfl rfl rfl (by first | rfl | simp [hVs, *]) (by first | rfl | simp [hVs, *]) (one_all rfl) fun w351 S352 => ?_
   refine T_nil (W_ret ?_)
   refine ⟨_, ⟨_, _, _, rfl, rfl, run_loadVarA rfl rfl (by first | rfl | simp [hVs, *]) (S352.cells 0 rfl), rfl⟩, ?_⟩
   exact ⟨_, _, _, _, _, _, _, _, _, _, _, _, _, rfl, ((r345.mono hl348)).mono S352.fin, (r350).mono S352.fin, ((r338.mono (hl344.trans hl348))).mono S352.fin, (by omega), (by first | omega | (simp only [List.length_append, List.length_cons, List.length_nil, List.length_set, List.length_drop, List.length_take]; omega)), (by first | omega | (simp only [List.length_append, List.length_cons, List.length_nil, List.length_set, List.length_drop, List.length_take]; omega)), (by first | omega | (simp only [List.length_append, List.length_cons, List.length_nil, List.length_set, List.length_drop, List.length_take]; omega)), (by first | exact fun x h => Nat.le_succ_of_le (hx x h).2 | exact set_le (m := 64) (fun x h => (hx x h).2) (by first | (rw [List.length_set]; omega) | (rw [List.length_append]; show _ + 1 ≤ _; omega)) | exact fun x h => Nat.le_succ_of_le (hx x (List.mem_of_mem_drop h)).2 | exact fun x h => Nat.le_succ_of_le (hx x (List.mem_of_mem_drop (List.mem_of_mem_take h))).2), S352.below⟩
  refine Wr ?_
  iterate 2 refine Pv ?_
  refine T_nil (Aa (fun h353 => ?_) (fun h353 => ?_))
  ·refine W_region (Fl 2 ?_)
   refine Ak 1 2 S136 ?_
   refine T_buildA (cells := (hV (List.replicate 32 0)).cells) rfl rfl rfl rfl rfl rfl rfl rfl rfl rfl (T_litS (hcells [(List.replicate 32 0)]) rfl rfl rfl rfl rfl rfl rfl rfl rfl rfl rfl rfl rfl (one_h List.length_replicate) (by simp [hcells, hV, Value.cells]) fun a354 w355 hB356 ho357 => ?_)
   have S358 := S136.own hB356 ho357
   refine ⟨trivial, ?_⟩
   refine Ag (h1 := by exact one_hcells _) (hn' := by first | rfl | (simp; done) | (simp; omega) | omega) (hx' := by simp [hcells_append, hcells]) (h63 := by unfold maxLen; simp only [List.length_append, List.length_cons, List.length_nil]; omega) (hbytes := by show _ * 32 ≤ _; simp only [List.length_append, List.length_cons, List.length_nil]; omega) 4 ((p ++ [(List.replicate 32 0)]).length) (hcells (p ++ [(List.replicate 32 0)])) S358 (S358.rd 0 rfl) fun a359 c360 w361 hc362 S363 => ?_
   refine Fl 2 ?_
   refine Ad (hfit := by exact show 2 < 4 by decide) 2 2 S363 fun w364 S365 => ?_
   have hE366 : (.agg #[.int .i64 sn, .slice a88 u.length c89, .slice a95 p.length c96, .slice a102 B.length c103] : Value).cells.setIfInBounds 2 (.slice a359 ((p ++ [(List.replicate 32 0)]).length) c360) = (.agg #[.int .i64 sn, .slice a88 u.length c89, .slice a359 ((p ++ [(List.replicate 32 0)]).length) c360, .slice a102 B.length c103] : Value).cells := rfl
   rw [hE366] at S365
   refine T_nil (W_seq ?_)
   obtain ⟨G368, hl369, S367, r370⟩ := S365.stillRow 3 rfl
   obtain ⟨G372, hl373, S371, r374⟩ := S367.stillRow 3 rfl
   have r375 := RdH.mk (all_app h2.1 (all_h1 List.length_replicate)) (by decide) r374
   obtain ⟨G376, hl377, S378, r379⟩ := St.ragAll (p := [.row 23 32 (.slice a354 1 1) 1 (hcells ([(List.replicate 32 0)])), .blk b84 (.agg #[.int .i64 0, .slice none 0 0, .slice none 0 0, .slice none 0 0] : Value).cells 45, .blk b81 (.agg #[.int .i64 sn, .slice a88 u.length c89, .slice a359 ((p ++ [(List.replicate 32 0)]).length) c360, .slice a102 B.length c103] : Value).cells 45]) (its := []) S371 (hv131.trans hs132.symm)
   refine W_region (T_loadFS 2 S378 rfl rfl rfl rfl rfl rfl rfl rfl rfl (by first | rfl | simp [hVs, *]) ?_)
   refine T_storeFS 1 S378 (fun _ _ => trivial) rfl rfl rfl rfl rfl rfl rfl rfl rfl (by first | rfl | simp [hVs, *]) (by first | rfl | simp [hVs, *]) (one_all rfl) fun w380 S381 => ?_
   refine T_nil (W_ret ?_)
   refine ⟨_, ⟨_, _, _, rfl, rfl, run_loadVarA rfl rfl (by first | rfl | simp [hVs, *]) (S381.cells 1 rfl), rfl⟩, ?_⟩
   exact ⟨_, _, _, _, _, _, _, _, _, _, _, _, _, rfl, ((r370.mono (hl373.trans hl377))).mono S381.fin, ((r375.mono hl377)).mono S381.fin, (r379).mono S381.fin, (by omega), (by first | omega | (simp only [List.length_append, List.length_cons, List.length_nil, List.length_set, List.length_drop, List.length_take]; omega)), (by first | omega | (simp only [List.length_append, List.length_cons, List.length_nil, List.length_set, List.length_drop, List.length_take]; omega)), (by first | omega | (simp only [List.length_append, List.length_cons, List.length_nil, List.length_set, List.length_drop, List.length_take]; omega)), (by first | exact fun x h => Nat.le_succ_of_le (hx x h).2 | exact set_le (m := 64) (fun x h => (hx x h).2) (by first | (rw [List.length_set]; omega) | (rw [List.length_append]; show _ + 1 ≤ _; omega)) | exact fun x h => Nat.le_succ_of_le (hx x (List.mem_of_mem_drop h)).2 | exact fun x h => Nat.le_succ_of_le (hx x (List.mem_of_mem_drop (List.mem_of_mem_take h))).2), S381.below⟩
  refine Wr ?_
  iterate 2 refine Pv ?_
  refine T_nil (Aa (fun h382 => ?_) (fun h382 => ?_))
  ·refine W_seq ?_
   have hz1 := Int.emod_nonneg at0 (show ((B.length : Nat) : Int) ≠ 0 by omega)
   have hz2 := Int.emod_lt_of_pos at0 (show 0 < ((B.length : Nat) : Int) by omega)
   obtain ⟨z, hz⟩ : ∃ zz : Nat, at0 % ((B.length : Nat) : Int) = (zz : Int) := ⟨(at0 % ((B.length : Nat) : Int)).toNat, by omega⟩
   have hel := hx _ (hmem z (by omega))
   refine W_region (Pv ?_)
   refine Fl 3 ?_
   refine Ak 1 3 S136 ?_
   refine Pv ?_
   refine Cs g_aumbry_aumbrykeep_Within ((withinN_ok S136.le at0 ((B.length : Nat) : Int) (by omega)).mono ?_)
   rintro e w384 ⟨rfl, hB383⟩
   have S385 := S136.call hB383
   refine ⟨_, rfl, trivial, ?_⟩
   refine T_re (v' := .int .i64 ((z : Nat) : Int)) (congrArg (Value.int .i64) hz) (Pv (T_nil ?_))
   refine W_tree (plan Tryd.prog) (.step 0 (.step 2 (.step 3 (.step 5 (.fork3 1 4 8 (.fork 4 8 (.step 6 (.fork 7 8 (.step 8 (.step 9 (.step 10 (.step 11 .done)))) (.step 7 (.step 9 (.step 10 (.step 11 .done)))))) (.step 4 (.step 6 (.step 7 (.step 9 (.step 10 (.step 11 .done))))))) (.step 6 (.fork3 1 7 8 (.fork 7 8 (.step 8 (.step 9 (.step 10 (.step 11 .done)))) (.step 7 (.step 9 (.step 10 (.step 11 .done))))) (.fork 1 8 (.step 8 (.step 9 (.step 10 (.step 11 .done)))) (.fork 1 9 (.step 9 (.step 10 (.step 11 .done))) (.step 1 (.step 10 (.step 11 .done))))) (.step 7 (.fork 1 9 (.step 9 (.step 10 (.step 11 .done))) (.step 1 (.step 10 (.step 11 .done))))))) (.step 4 (.step 6 (.step 7 (.fork 1 9 (.step 9 (.step 10 (.step 11 .done))) (.step 1 (.step 10 (.step 11 .done)))))))))))) rfl (by kernel_rfl) trivial ?_
   have S386 := S385.drew
   refine TT_step rfl (Fl 3 ?_)
   refine Nt rfl (Pv ?_)
   refine Nt rfl (Fl 3 ?_)
   refine Nt rfl (Pv (T_nil ?_))
   refine TT_fork3 rfl rfl rfl ?_ ?_ ?_
   ·refine Ak 1 3 S386 (T_nil ?_)
    refine TT_fork rfl rfl ?_ ?_
    ·refine Ak 1 3 S386 ?_
     refine Nt rfl ?_
     obtain ⟨g387, rfl⟩ := S386.rowAt 4 rfl (by omega)
     refine Ai (hm := by show 0 + Int.toNat _ * 1 = _; omega) (z * 1) (T_nil ?_)
     refine TT_fork rfl rfl ?_ ?_
     ·obtain ⟨g388, c389, hv390, hc391, hr392⟩ := St.ragCell (p := [.blk b84 (.agg #[.int .i64 0, .slice none 0 0, .slice none 0 0, .slice none 0 0] : Value).cells 45, .blk b81 (.agg #[.int .i64 sn, .slice a88 u.length c89, .slice a95 p.length c96, .slice (some ⟨g387, 0, none⟩) B.length c103] : Value).cells 45, .row 5 1 (.slice a88 u.length c89) u.length (u.map bV), .row 23 32 (.slice a95 p.length c96) p.length (hcells p), .row 26 1 (.slice (some ⟨g387, 0, none⟩) B.length c103) B.length vs104]) (its := []) S386 (hv131.trans hs132.symm) (show z < B.length by omega) (hpos z (by omega))
      refine T_load rfl rfl rfl rfl rfl rfl rfl (S386.rowCell 4 rfl (by rw [Nat.mul_one]; exact hv390)) ?_
      refine Nt rfl (Af (hone := by simp [Value.cells]; rfl) ([(0 : UInt8)].map bV) fun a394 w395 hB396 ho397 => ?_)
      have S398 := S386.own hB396 ho397
      refine ⟨trivial, ?_⟩
      refine Nt rfl (T_ragAppend (nw := [(0 : UInt8)]) (its := []) [.row 5 1 (.slice a394 1 1) 1 (([(0 : UInt8)]).map bV), .blk b84 (.agg #[.int .i64 0, .slice none 0 0, .slice none 0 0, .slice none 0 0] : Value).cells 45, .blk b81 (.agg #[.int .i64 sn, .slice a88 u.length c89, .slice a95 p.length c96, .slice (some ⟨g387, 0, none⟩) B.length c103] : Value).cells 45, .row 5 1 (.slice a88 u.length c89) u.length (u.map bV), .row 23 32 (.slice a95 p.length c96) p.length (hcells p), .row 26 1 (.slice (some ⟨g387, 0, none⟩) B.length c103) B.length vs104] z S398 (fun _ _ => trivial) hv390 hr392 rfl rfl rfl rfl rfl rfl rfl rfl rfl rfl rfl rfl (S398.rd 0 rfl) rfl (by have := hx1000 _ (List.mem_of_getElem? hr392); rw [List.length_append]; unfold maxLen; show _ + 1 ≤ _; omega) (by have := hx1000 _ (List.mem_of_getElem? hr392); rw [List.length_append]; show (_ + 1) * 1 ≤ _; omega) fun a399 c400 w401 hc402 S403 => ?_)
      have hs405 : (B.set z (B.getD z [] ++ [(0 : UInt8)])).length = B.length := List.length_set.trans hs132
      have S404 : St w H G124 (.row 5 1 (.slice a394 1 1) 1 (([(0 : UInt8)]).map bV) :: .blk b84 (.agg #[.int .i64 0, .slice none 0 0, .slice none 0 0, .slice none 0 0] : Value).cells 45 :: .blk b81 (.agg #[.int .i64 sn, .slice a88 u.length c89, .slice a95 p.length c96, .slice (some ⟨g387, 0, none⟩) B.length c103] : Value).cells 45 :: .row 5 1 (.slice a88 u.length c89) u.length (u.map bV) :: .row 23 32 (.slice a95 p.length c96) p.length (hcells p) :: .row 26 1 (.slice (some ⟨g387, 0, none⟩) B.length c103) B.length vs104 :: (mrows 5 (vs104.set z (.slice a399 (B.getD z [] ++ [(0 : UInt8)]).length c400)) (B.set z (B.getD z [] ++ [(0 : UInt8)])) ++ [])) w401 := S403
      refine Nt rfl (Ai (hm := by show 0 + Int.toNat _ * 1 = _; omega) (z * 1) ?_)
      refine Nt rfl (T_storeRow 5 (vs104.set z (.slice a399 (B.getD z [] ++ [(0 : UInt8)]).length c400)) S404 (fun _ _ => trivial) rfl rfl rfl rfl rfl rfl rfl rfl rfl (by show _ + 1 ≤ _ * 1; omega) (one_all rfl) (set_cells (by first | omega | (simp only [List.length_set]; omega)) rfl) fun w406 S407 => ?_)
      have hv408 : (vs104.set z (.slice a399 (B.getD z [] ++ [(0 : UInt8)]).length c400)).length = B.length := List.length_set.trans hv131
      refine T_nil (TT_done (W_seq ?_))
      obtain ⟨G410, hl411, S409, r412⟩ := S407.stillRow 3 rfl
      obtain ⟨G414, hl415, S413, r416⟩ := S409.stillRow 3 rfl
      have r417 := RdH.mk h2.1 (by decide) r416
      obtain ⟨G418, hl419, S420, r421⟩ := St.ragAll (p := [.row 5 1 (.slice a394 1 1) 1 (([(0 : UInt8)]).map bV), .blk b84 (.agg #[.int .i64 0, .slice none 0 0, .slice none 0 0, .slice none 0 0] : Value).cells 45, .blk b81 (.agg #[.int .i64 sn, .slice a88 u.length c89, .slice a95 p.length c96, .slice (some ⟨g387, 0, none⟩) B.length c103] : Value).cells 45]) (its := []) S413 (hv408.trans hs405.symm)
      refine W_region (T_loadFS 2 S420 rfl rfl rfl rfl rfl rfl rfl rfl rfl (by first | rfl | simp [hVs, *]) ?_)
      refine T_storeFS 1 S420 (fun _ _ => trivial) rfl rfl rfl rfl rfl rfl rfl rfl rfl (by first | rfl | simp [hVs, *]) (by first | rfl | simp [hVs, *]) (one_all rfl) fun w422 S423 => ?_
      refine T_nil (W_ret ?_)
      refine ⟨_, ⟨_, _, _, rfl, rfl, run_loadVarA rfl rfl (by first | rfl | simp [hVs, *]) (S423.cells 1 rfl), rfl⟩, ?_⟩
      exact ⟨_, _, _, _, _, _, _, _, _, _, _, _, _, rfl, ((r412.mono (hl415.trans hl419))).mono S423.fin, ((r417.mono hl419)).mono S423.fin, (r421).mono S423.fin, (by omega), (by first | omega | (simp only [List.length_append, List.length_cons, List.length_nil, List.length_set, List.length_drop, List.length_take]; omega)), (by first | omega | (simp only [List.length_append, List.length_cons, List.length_nil, List.length_set, List.length_drop, List.length_take]; omega)), (by first | omega | (simp only [List.length_append, List.length_cons, List.length_nil, List.length_set, List.length_drop, List.length_take]; omega)), (by first | exact fun x h => Nat.le_succ_of_le (hx x h).2 | exact set_le (m := 64) (fun x h => (hx x h).2) (by first | (rw [List.length_set]; omega) | (rw [List.length_append]; show _ + 1 ≤ _; omega)) | exact fun x h => Nat.le_succ_of_le (hx x (List.mem_of_mem_drop h)).2 | exact fun x h => Nat.le_succ_of_le (hx x (List.mem_of_mem_drop (List.mem_of_mem_take h))).2), S423.below⟩
     refine Af (hone := by simp [Value.cells]; rfl) ([(0 : UInt8)].map bV) fun a424 w425 hB426 ho427 => ?_
     have S428 := S386.own hB426 ho427
     refine ⟨trivial, ?_⟩
     refine Nt rfl ?_
     obtain ⟨g429, c430, hv431, hc432, hr433⟩ := St.ragCell (p := [.row 5 1 (.slice a424 1 1) 1 (([(0 : UInt8)]).map bV), .blk b84 (.agg #[.int .i64 0, .slice none 0 0, .slice none 0 0, .slice none 0 0] : Value).cells 45, .blk b81 (.agg #[.int .i64 sn, .slice a88 u.length c89, .slice a95 p.length c96, .slice (some ⟨g387, 0, none⟩) B.length c103] : Value).cells 45, .row 5 1 (.slice a88 u.length c89) u.length (u.map bV), .row 23 32 (.slice a95 p.length c96) p.length (hcells p), .row 26 1 (.slice (some ⟨g387, 0, none⟩) B.length c103) B.length vs104]) (its := []) S428 (hv131.trans hs132.symm) (show z < B.length by omega) (hpos z (by omega))
     refine T_load rfl rfl rfl rfl rfl rfl rfl (S428.rowCell 5 rfl (by rw [Nat.mul_one]; exact hv431)) ?_
     refine Nt rfl (T_ragAppend (nw := [(0 : UInt8)]) (its := []) [.row 5 1 (.slice a424 1 1) 1 (([(0 : UInt8)]).map bV), .blk b84 (.agg #[.int .i64 0, .slice none 0 0, .slice none 0 0, .slice none 0 0] : Value).cells 45, .blk b81 (.agg #[.int .i64 sn, .slice a88 u.length c89, .slice a95 p.length c96, .slice (some ⟨g387, 0, none⟩) B.length c103] : Value).cells 45, .row 5 1 (.slice a88 u.length c89) u.length (u.map bV), .row 23 32 (.slice a95 p.length c96) p.length (hcells p), .row 26 1 (.slice (some ⟨g387, 0, none⟩) B.length c103) B.length vs104] z S428 (fun _ _ => trivial) hv431 hr433 rfl rfl rfl rfl rfl rfl rfl rfl rfl rfl rfl rfl (S428.rd 0 rfl) rfl (by have := hx1000 _ (List.mem_of_getElem? hr433); rw [List.length_append]; unfold maxLen; show _ + 1 ≤ _; omega) (by have := hx1000 _ (List.mem_of_getElem? hr433); rw [List.length_append]; show (_ + 1) * 1 ≤ _; omega) fun a435 c436 w437 hc438 S439 => ?_)
     have hs441 : (B.set z (B.getD z [] ++ [(0 : UInt8)])).length = B.length := List.length_set.trans hs132
     have S440 : St w H G124 (.row 5 1 (.slice a424 1 1) 1 (([(0 : UInt8)]).map bV) :: .blk b84 (.agg #[.int .i64 0, .slice none 0 0, .slice none 0 0, .slice none 0 0] : Value).cells 45 :: .blk b81 (.agg #[.int .i64 sn, .slice a88 u.length c89, .slice a95 p.length c96, .slice (some ⟨g387, 0, none⟩) B.length c103] : Value).cells 45 :: .row 5 1 (.slice a88 u.length c89) u.length (u.map bV) :: .row 23 32 (.slice a95 p.length c96) p.length (hcells p) :: .row 26 1 (.slice (some ⟨g387, 0, none⟩) B.length c103) B.length vs104 :: (mrows 5 (vs104.set z (.slice a435 (B.getD z [] ++ [(0 : UInt8)]).length c436)) (B.set z (B.getD z [] ++ [(0 : UInt8)])) ++ [])) w437 := S439
     refine Nt rfl (Ai (hm := by show 0 + Int.toNat _ * 1 = _; omega) (z * 1) ?_)
     refine Nt rfl (T_storeRow 5 (vs104.set z (.slice a435 (B.getD z [] ++ [(0 : UInt8)]).length c436)) S440 (fun _ _ => trivial) rfl rfl rfl rfl rfl rfl rfl rfl rfl (by show _ + 1 ≤ _ * 1; omega) (one_all rfl) (set_cells (by first | omega | (simp only [List.length_set]; omega)) rfl) fun w442 S443 => ?_)
     have hv444 : (vs104.set z (.slice a435 (B.getD z [] ++ [(0 : UInt8)]).length c436)).length = B.length := List.length_set.trans hv131
     refine T_nil (TT_done (W_seq ?_))
     obtain ⟨G446, hl447, S445, r448⟩ := S443.stillRow 3 rfl
     obtain ⟨G450, hl451, S449, r452⟩ := S445.stillRow 3 rfl
     have r453 := RdH.mk h2.1 (by decide) r452
     obtain ⟨G454, hl455, S456, r457⟩ := St.ragAll (p := [.row 5 1 (.slice a424 1 1) 1 (([(0 : UInt8)]).map bV), .blk b84 (.agg #[.int .i64 0, .slice none 0 0, .slice none 0 0, .slice none 0 0] : Value).cells 45, .blk b81 (.agg #[.int .i64 sn, .slice a88 u.length c89, .slice a95 p.length c96, .slice (some ⟨g387, 0, none⟩) B.length c103] : Value).cells 45]) (its := []) S449 (hv444.trans hs441.symm)
     refine W_region (T_loadFS 2 S456 rfl rfl rfl rfl rfl rfl rfl rfl rfl (by first | rfl | simp [hVs, *]) ?_)
     refine T_storeFS 1 S456 (fun _ _ => trivial) rfl rfl rfl rfl rfl rfl rfl rfl rfl (by first | rfl | simp [hVs, *]) (by first | rfl | simp [hVs, *]) (one_all rfl) fun w458 S459 => ?_
     refine T_nil (W_ret ?_)
     refine ⟨_, ⟨_, _, _, rfl, rfl, run_loadVarA rfl rfl (by first | rfl | simp [hVs, *]) (S459.cells 1 rfl), rfl⟩, ?_⟩
     exact ⟨_, _, _, _, _, _, _, _, _, _, _, _, _, rfl, ((r448.mono (hl451.trans hl455))).mono S459.fin, ((r453.mono hl455)).mono S459.fin, (r457).mono S459.fin, (by omega), (by first | omega | (simp only [List.length_append, List.length_cons, List.length_nil, List.length_set, List.length_drop, List.length_take]; omega)), (by first | omega | (simp only [List.length_append, List.length_cons, List.length_nil, List.length_set, List.length_drop, List.length_take]; omega)), (by first | omega | (simp only [List.length_append, List.length_cons, List.length_nil, List.length_set, List.length_drop, List.length_take]; omega)), (by first | exact fun x h => Nat.le_succ_of_le (hx x h).2 | exact set_le (m := 64) (fun x h => (hx x h).2) (by first | (rw [List.length_set]; omega) | (rw [List.length_append]; show _ + 1 ≤ _; omega)) | exact fun x h => Nat.le_succ_of_le (hx x (List.mem_of_mem_drop h)).2 | exact fun x h => Nat.le_succ_of_le (hx x (List.mem_of_mem_drop (List.mem_of_mem_take h))).2), S459.below⟩
    refine Af (hone := by simp [Value.cells]; rfl) ([(0 : UInt8)].map bV) fun a460 w461 hB462 ho463 => ?_
    have S464 := S386.own hB462 ho463
    refine ⟨trivial, ?_⟩
    refine Nt rfl (Ak 2 3 S464 ?_)
    refine Nt rfl ?_
    obtain ⟨g465, rfl⟩ := S464.rowAt 5 rfl (by omega)
    refine Ai (hm := by show 0 + Int.toNat _ * 1 = _; omega) (z * 1) ?_
    refine Nt rfl ?_
    obtain ⟨g466, c467, hv468, hc469, hr470⟩ := St.ragCell (p := [.row 5 1 (.slice a460 1 1) 1 (([(0 : UInt8)]).map bV), .blk b84 (.agg #[.int .i64 0, .slice none 0 0, .slice none 0 0, .slice none 0 0] : Value).cells 45, .blk b81 (.agg #[.int .i64 sn, .slice a88 u.length c89, .slice a95 p.length c96, .slice (some ⟨g465, 0, none⟩) B.length c103] : Value).cells 45, .row 5 1 (.slice a88 u.length c89) u.length (u.map bV), .row 23 32 (.slice a95 p.length c96) p.length (hcells p), .row 26 1 (.slice (some ⟨g465, 0, none⟩) B.length c103) B.length vs104]) (its := []) S464 (hv131.trans hs132.symm) (show z < B.length by omega) (hpos z (by omega))
    refine T_load rfl rfl rfl rfl rfl rfl rfl (S464.rowCell 5 rfl (by rw [Nat.mul_one]; exact hv468)) ?_
    refine Nt rfl (T_ragAppend (nw := [(0 : UInt8)]) (its := []) [.row 5 1 (.slice a460 1 1) 1 (([(0 : UInt8)]).map bV), .blk b84 (.agg #[.int .i64 0, .slice none 0 0, .slice none 0 0, .slice none 0 0] : Value).cells 45, .blk b81 (.agg #[.int .i64 sn, .slice a88 u.length c89, .slice a95 p.length c96, .slice (some ⟨g465, 0, none⟩) B.length c103] : Value).cells 45, .row 5 1 (.slice a88 u.length c89) u.length (u.map bV), .row 23 32 (.slice a95 p.length c96) p.length (hcells p), .row 26 1 (.slice (some ⟨g465, 0, none⟩) B.length c103) B.length vs104] z S464 (fun _ _ => trivial) hv468 hr470 rfl rfl rfl rfl rfl rfl rfl rfl rfl rfl rfl rfl (S464.rd 0 rfl) rfl (by have := hx1000 _ (List.mem_of_getElem? hr470); rw [List.length_append]; unfold maxLen; show _ + 1 ≤ _; omega) (by have := hx1000 _ (List.mem_of_getElem? hr470); rw [List.length_append]; show (_ + 1) * 1 ≤ _; omega) fun a472 c473 w474 hc475 S476 => ?_)
    have hs478 : (B.set z (B.getD z [] ++ [(0 : UInt8)])).length = B.length := List.length_set.trans hs132
    have S477 : St w H G124 (.row 5 1 (.slice a460 1 1) 1 (([(0 : UInt8)]).map bV) :: .blk b84 (.agg #[.int .i64 0, .slice none 0 0, .slice none 0 0, .slice none 0 0] : Value).cells 45 :: .blk b81 (.agg #[.int .i64 sn, .slice a88 u.length c89, .slice a95 p.length c96, .slice (some ⟨g465, 0, none⟩) B.length c103] : Value).cells 45 :: .row 5 1 (.slice a88 u.length c89) u.length (u.map bV) :: .row 23 32 (.slice a95 p.length c96) p.length (hcells p) :: .row 26 1 (.slice (some ⟨g465, 0, none⟩) B.length c103) B.length vs104 :: (mrows 5 (vs104.set z (.slice a472 (B.getD z [] ++ [(0 : UInt8)]).length c473)) (B.set z (B.getD z [] ++ [(0 : UInt8)])) ++ [])) w474 := S476
    refine Nt rfl (Ai (hm := by show 0 + Int.toNat _ * 1 = _; omega) (z * 1) ?_)
    refine Nt rfl (T_storeRow 5 (vs104.set z (.slice a472 (B.getD z [] ++ [(0 : UInt8)]).length c473)) S477 (fun _ _ => trivial) rfl rfl rfl rfl rfl rfl rfl rfl rfl (by show _ + 1 ≤ _ * 1; omega) (one_all rfl) (set_cells (by first | omega | (simp only [List.length_set]; omega)) rfl) fun w479 S480 => ?_)
    have hv481 : (vs104.set z (.slice a472 (B.getD z [] ++ [(0 : UInt8)]).length c473)).length = B.length := List.length_set.trans hv131
    refine T_nil (TT_done (W_seq ?_))
    obtain ⟨G483, hl484, S482, r485⟩ := S480.stillRow 3 rfl
    obtain ⟨G487, hl488, S486, r489⟩ := S482.stillRow 3 rfl
    have r490 := RdH.mk h2.1 (by decide) r489
    obtain ⟨G491, hl492, S493, r494⟩ := St.ragAll (p := [.row 5 1 (.slice a460 1 1) 1 (([(0 : UInt8)]).map bV), .blk b84 (.agg #[.int .i64 0, .slice none 0 0, .slice none 0 0, .slice none 0 0] : Value).cells 45, .blk b81 (.agg #[.int .i64 sn, .slice a88 u.length c89, .slice a95 p.length c96, .slice (some ⟨g465, 0, none⟩) B.length c103] : Value).cells 45]) (its := []) S486 (hv481.trans hs478.symm)
    refine W_region (T_loadFS 2 S493 rfl rfl rfl rfl rfl rfl rfl rfl rfl (by first | rfl | simp [hVs, *]) ?_)
    refine T_storeFS 1 S493 (fun _ _ => trivial) rfl rfl rfl rfl rfl rfl rfl rfl rfl (by first | rfl | simp [hVs, *]) (by first | rfl | simp [hVs, *]) (one_all rfl) fun w495 S496 => ?_
    refine T_nil (W_ret ?_)
    refine ⟨_, ⟨_, _, _, rfl, rfl, run_loadVarA rfl rfl (by first | rfl | simp [hVs, *]) (S496.cells 1 rfl), rfl⟩, ?_⟩
    exact ⟨_, _, _, _, _, _, _, _, _, _, _, _, _, rfl, ((r485.mono (hl488.trans hl492))).mono S496.fin, ((r490.mono hl492)).mono S496.fin, (r494).mono S496.fin, (by omega), (by first | omega | (simp only [List.length_append, List.length_cons, List.length_nil, List.length_set, List.length_drop, List.length_take]; omega)), (by first | omega | (simp only [List.length_append, List.length_cons, List.length_nil, List.length_set, List.length_drop, List.length_take]; omega)), (by first | omega | (simp only [List.length_append, List.length_cons, List.length_nil, List.length_set, List.length_drop, List.length_take]; omega)), (by first | exact fun x h => Nat.le_succ_of_le (hx x h).2 | exact set_le (m := 64) (fun x h => (hx x h).2) (by first | (rw [List.length_set]; omega) | (rw [List.length_append]; show _ + 1 ≤ _; omega)) | exact fun x h => Nat.le_succ_of_le (hx x (List.mem_of_mem_drop h)).2 | exact fun x h => Nat.le_succ_of_le (hx x (List.mem_of_mem_drop (List.mem_of_mem_take h))).2), S496.below⟩
   ·refine Ak 1 3 S386 ?_
    refine Nt rfl ?_
    obtain ⟨g497, rfl⟩ := S386.rowAt 4 rfl (by omega)
    refine Ai (hm := by show 0 + Int.toNat _ * 1 = _; omega) (z * 1) (T_nil ?_)
    refine TT_fork3 rfl rfl rfl ?_ ?_ ?_
    ·refine Ak 1 3 S386 (T_nil ?_)
     refine TT_fork rfl rfl ?_ ?_
     ·obtain ⟨g498, c499, hv500, hc501, hr502⟩ := St.ragCell (p := [.blk b84 (.agg #[.int .i64 0, .slice none 0 0, .slice none 0 0, .slice none 0 0] : Value).cells 45, .blk b81 (.agg #[.int .i64 sn, .slice a88 u.length c89, .slice a95 p.length c96, .slice (some ⟨g497, 0, none⟩) B.length c103] : Value).cells 45, .row 5 1 (.slice a88 u.length c89) u.length (u.map bV), .row 23 32 (.slice a95 p.length c96) p.length (hcells p), .row 26 1 (.slice (some ⟨g497, 0, none⟩) B.length c103) B.length vs104]) (its := []) S386 (hv131.trans hs132.symm) (show z < B.length by omega) (hpos z (by omega))
      refine T_load rfl rfl rfl rfl rfl rfl rfl (S386.rowCell 4 rfl (by rw [Nat.mul_one]; exact hv500)) ?_
      refine Nt rfl (Af (hone := by simp [Value.cells]; rfl) ([(0 : UInt8)].map bV) fun a504 w505 hB506 ho507 => ?_)
      have S508 := S386.own hB506 ho507
      refine ⟨trivial, ?_⟩
      refine Nt rfl (T_ragAppend (nw := [(0 : UInt8)]) (its := []) [.row 5 1 (.slice a504 1 1) 1 (([(0 : UInt8)]).map bV), .blk b84 (.agg #[.int .i64 0, .slice none 0 0, .slice none 0 0, .slice none 0 0] : Value).cells 45, .blk b81 (.agg #[.int .i64 sn, .slice a88 u.length c89, .slice a95 p.length c96, .slice (some ⟨g497, 0, none⟩) B.length c103] : Value).cells 45, .row 5 1 (.slice a88 u.length c89) u.length (u.map bV), .row 23 32 (.slice a95 p.length c96) p.length (hcells p), .row 26 1 (.slice (some ⟨g497, 0, none⟩) B.length c103) B.length vs104] z S508 (fun _ _ => trivial) hv500 hr502 rfl rfl rfl rfl rfl rfl rfl rfl rfl rfl rfl rfl (S508.rd 0 rfl) rfl (by have := hx1000 _ (List.mem_of_getElem? hr502); rw [List.length_append]; unfold maxLen; show _ + 1 ≤ _; omega) (by have := hx1000 _ (List.mem_of_getElem? hr502); rw [List.length_append]; show (_ + 1) * 1 ≤ _; omega) fun a509 c510 w511 hc512 S513 => ?_)
      have hs515 : (B.set z (B.getD z [] ++ [(0 : UInt8)])).length = B.length := List.length_set.trans hs132
      have S514 : St w H G124 (.row 5 1 (.slice a504 1 1) 1 (([(0 : UInt8)]).map bV) :: .blk b84 (.agg #[.int .i64 0, .slice none 0 0, .slice none 0 0, .slice none 0 0] : Value).cells 45 :: .blk b81 (.agg #[.int .i64 sn, .slice a88 u.length c89, .slice a95 p.length c96, .slice (some ⟨g497, 0, none⟩) B.length c103] : Value).cells 45 :: .row 5 1 (.slice a88 u.length c89) u.length (u.map bV) :: .row 23 32 (.slice a95 p.length c96) p.length (hcells p) :: .row 26 1 (.slice (some ⟨g497, 0, none⟩) B.length c103) B.length vs104 :: (mrows 5 (vs104.set z (.slice a509 (B.getD z [] ++ [(0 : UInt8)]).length c510)) (B.set z (B.getD z [] ++ [(0 : UInt8)])) ++ [])) w511 := S513
      refine Nt rfl (Ai (hm := by show 0 + Int.toNat _ * 1 = _; omega) (z * 1) ?_)
      refine Nt rfl (T_storeRow 5 (vs104.set z (.slice a509 (B.getD z [] ++ [(0 : UInt8)]).length c510)) S514 (fun _ _ => trivial) rfl rfl rfl rfl rfl rfl rfl rfl rfl (by show _ + 1 ≤ _ * 1; omega) (one_all rfl) (set_cells (by first | omega | (simp only [List.length_set]; omega)) rfl) fun w516 S517 => ?_)
      have hv518 : (vs104.set z (.slice a509 (B.getD z [] ++ [(0 : UInt8)]).length c510)).length = B.length := List.length_set.trans hv131
      refine T_nil (TT_done (W_seq ?_))
      obtain ⟨G520, hl521, S519, r522⟩ := S517.stillRow 3 rfl
      obtain ⟨G524, hl525, S523, r526⟩ := S519.stillRow 3 rfl
      have r527 := RdH.mk h2.1 (by decide) r526
      obtain ⟨G528, hl529, S530, r531⟩ := St.ragAll (p := [.row 5 1 (.slice a504 1 1) 1 (([(0 : UInt8)]).map bV), .blk b84 (.agg #[.int .i64 0, .slice none 0 0, .slice none 0 0, .slice none 0 0] : Value).cells 45, .blk b81 (.agg #[.int .i64 sn, .slice a88 u.length c89, .slice a95 p.length c96, .slice (some ⟨g497, 0, none⟩) B.length c103] : Value).cells 45]) (its := []) S523 (hv518.trans hs515.symm)
      refine W_region (T_loadFS 2 S530 rfl rfl rfl rfl rfl rfl rfl rfl rfl (by first | rfl | simp [hVs, *]) ?_)
      refine T_storeFS 1 S530 (fun _ _ => trivial) rfl rfl rfl rfl rfl rfl rfl rfl rfl (by first | rfl | simp [hVs, *]) (by first | rfl | simp [hVs, *]) (one_all rfl) fun w532 S533 => ?_
      refine T_nil (W_ret ?_)
      refine ⟨_, ⟨_, _, _, rfl, rfl, run_loadVarA rfl rfl (by first | rfl | simp [hVs, *]) (S533.cells 1 rfl), rfl⟩, ?_⟩
      exact ⟨_, _, _, _, _, _, _, _, _, _, _, _, _, rfl, ((r522.mono (hl525.trans hl529))).mono S533.fin, ((r527.mono hl529)).mono S533.fin, (r531).mono S533.fin, (by omega), (by first | omega | (simp only [List.length_append, List.length_cons, List.length_nil, List.length_set, List.length_drop, List.length_take]; omega)), (by first | omega | (simp only [List.length_append, List.length_cons, List.length_nil, List.length_set, List.length_drop, List.length_take]; omega)), (by first | omega | (simp only [List.length_append, List.length_cons, List.length_nil, List.length_set, List.length_drop, List.length_take]; omega)), (by first | exact fun x h => Nat.le_succ_of_le (hx x h).2 | exact set_le (m := 64) (fun x h => (hx x h).2) (by first | (rw [List.length_set]; omega) | (rw [List.length_append]; show _ + 1 ≤ _; omega)) | exact fun x h => Nat.le_succ_of_le (hx x (List.mem_of_mem_drop h)).2 | exact fun x h => Nat.le_succ_of_le (hx x (List.mem_of_mem_drop (List.mem_of_mem_take h))).2), S533.below⟩
     refine Af (hone := by simp [Value.cells]; rfl) ([(0 : UInt8)].map bV) fun a534 w535 hB536 ho537 => ?_
     have S538 := S386.own hB536 ho537
     refine ⟨trivial, ?_⟩
     refine Nt rfl ?_
     obtain ⟨g539, c540, hv541, hc542, hr543⟩ := St.ragCell (p := [.row 5 1 (.slice a534 1 1) 1 (([(0 : UInt8)]).map bV), .blk b84 (.agg #[.int .i64 0, .slice none 0 0, .slice none 0 0, .slice none 0 0] : Value).cells 45, .blk b81 (.agg #[.int .i64 sn, .slice a88 u.length c89, .slice a95 p.length c96, .slice (some ⟨g497, 0, none⟩) B.length c103] : Value).cells 45, .row 5 1 (.slice a88 u.length c89) u.length (u.map bV), .row 23 32 (.slice a95 p.length c96) p.length (hcells p), .row 26 1 (.slice (some ⟨g497, 0, none⟩) B.length c103) B.length vs104]) (its := []) S538 (hv131.trans hs132.symm) (show z < B.length by omega) (hpos z (by omega))
     refine T_load rfl rfl rfl rfl rfl rfl rfl (S538.rowCell 5 rfl (by rw [Nat.mul_one]; exact hv541)) ?_
     refine Nt rfl (T_ragAppend (nw := [(0 : UInt8)]) (its := []) [.row 5 1 (.slice a534 1 1) 1 (([(0 : UInt8)]).map bV), .blk b84 (.agg #[.int .i64 0, .slice none 0 0, .slice none 0 0, .slice none 0 0] : Value).cells 45, .blk b81 (.agg #[.int .i64 sn, .slice a88 u.length c89, .slice a95 p.length c96, .slice (some ⟨g497, 0, none⟩) B.length c103] : Value).cells 45, .row 5 1 (.slice a88 u.length c89) u.length (u.map bV), .row 23 32 (.slice a95 p.length c96) p.length (hcells p), .row 26 1 (.slice (some ⟨g497, 0, none⟩) B.length c103) B.length vs104] z S538 (fun _ _ => trivial) hv541 hr543 rfl rfl rfl rfl rfl rfl rfl rfl rfl rfl rfl rfl (S538.rd 0 rfl) rfl (by have := hx1000 _ (List.mem_of_getElem? hr543); rw [List.length_append]; unfold maxLen; show _ + 1 ≤ _; omega) (by have := hx1000 _ (List.mem_of_getElem? hr543); rw [List.length_append]; show (_ + 1) * 1 ≤ _; omega) fun a545 c546 w547 hc548 S549 => ?_)
     have hs551 : (B.set z (B.getD z [] ++ [(0 : UInt8)])).length = B.length := List.length_set.trans hs132
     have S550 : St w H G124 (.row 5 1 (.slice a534 1 1) 1 (([(0 : UInt8)]).map bV) :: .blk b84 (.agg #[.int .i64 0, .slice none 0 0, .slice none 0 0, .slice none 0 0] : Value).cells 45 :: .blk b81 (.agg #[.int .i64 sn, .slice a88 u.length c89, .slice a95 p.length c96, .slice (some ⟨g497, 0, none⟩) B.length c103] : Value).cells 45 :: .row 5 1 (.slice a88 u.length c89) u.length (u.map bV) :: .row 23 32 (.slice a95 p.length c96) p.length (hcells p) :: .row 26 1 (.slice (some ⟨g497, 0, none⟩) B.length c103) B.length vs104 :: (mrows 5 (vs104.set z (.slice a545 (B.getD z [] ++ [(0 : UInt8)]).length c546)) (B.set z (B.getD z [] ++ [(0 : UInt8)])) ++ [])) w547 := S549
     refine Nt rfl (Ai (hm := by show 0 + Int.toNat _ * 1 = _; omega) (z * 1) ?_)
     refine Nt rfl (T_storeRow 5 (vs104.set z (.slice a545 (B.getD z [] ++ [(0 : UInt8)]).length c546)) S550 (fun _ _ => trivial) rfl rfl rfl rfl rfl rfl rfl rfl rfl (by show _ + 1 ≤ _ * 1; omega) (one_all rfl) (set_cells (by first | omega | (simp only [List.length_set]; omega)) rfl) fun w552 S553 => ?_)
     have hv554 : (vs104.set z (.slice a545 (B.getD z [] ++ [(0 : UInt8)]).length c546)).length = B.length := List.length_set.trans hv131
     refine T_nil (TT_done (W_seq ?_))
     obtain ⟨G556, hl557, S555, r558⟩ := S553.stillRow 3 rfl
     obtain ⟨G560, hl561, S559, r562⟩ := S555.stillRow 3 rfl
     have r563 := RdH.mk h2.1 (by decide) r562
     obtain ⟨G564, hl565, S566, r567⟩ := St.ragAll (p := [.row 5 1 (.slice a534 1 1) 1 (([(0 : UInt8)]).map bV), .blk b84 (.agg #[.int .i64 0, .slice none 0 0, .slice none 0 0, .slice none 0 0] : Value).cells 45, .blk b81 (.agg #[.int .i64 sn, .slice a88 u.length c89, .slice a95 p.length c96, .slice (some ⟨g497, 0, none⟩) B.length c103] : Value).cells 45]) (its := []) S559 (hv554.trans hs551.symm)
     refine W_region (T_loadFS 2 S566 rfl rfl rfl rfl rfl rfl rfl rfl rfl (by first | rfl | simp [hVs, *]) ?_)
     refine T_storeFS 1 S566 (fun _ _ => trivial) rfl rfl rfl rfl rfl rfl rfl rfl rfl (by first | rfl | simp [hVs, *]) (by first | rfl | simp [hVs, *]) (one_all rfl) fun w568 S569 => ?_
     refine T_nil (W_ret ?_)
     refine ⟨_, ⟨_, _, _, rfl, rfl, run_loadVarA rfl rfl (by first | rfl | simp [hVs, *]) (S569.cells 1 rfl), rfl⟩, ?_⟩
     exact ⟨_, _, _, _, _, _, _, _, _, _, _, _, _, rfl, ((r558.mono (hl561.trans hl565))).mono S569.fin, ((r563.mono hl565)).mono S569.fin, (r567).mono S569.fin, (by omega), (by first | omega | (simp only [List.length_append, List.length_cons, List.length_nil, List.length_set, List.length_drop, List.length_take]; omega)), (by first | omega | (simp only [List.length_append, List.length_cons, List.length_nil, List.length_set, List.length_drop, List.length_take]; omega)), (by first | omega | (simp only [List.length_append, List.length_cons, List.length_nil, List.length_set, List.length_drop, List.length_take]; omega)), (by first | exact fun x h => Nat.le_succ_of_le (hx x h).2 | exact set_le (m := 64) (fun x h => (hx x h).2) (by first | (rw [List.length_set]; omega) | (rw [List.length_append]; show _ + 1 ≤ _; omega)) | exact fun x h => Nat.le_succ_of_le (hx x (List.mem_of_mem_drop h)).2 | exact fun x h => Nat.le_succ_of_le (hx x (List.mem_of_mem_drop (List.mem_of_mem_take h))).2), S569.below⟩
    ·obtain ⟨g570, c571, hv572, hc573, hr574⟩ := St.ragCell (p := [.blk b84 (.agg #[.int .i64 0, .slice none 0 0, .slice none 0 0, .slice none 0 0] : Value).cells 45, .blk b81 (.agg #[.int .i64 sn, .slice a88 u.length c89, .slice a95 p.length c96, .slice (some ⟨g497, 0, none⟩) B.length c103] : Value).cells 45, .row 5 1 (.slice a88 u.length c89) u.length (u.map bV), .row 23 32 (.slice a95 p.length c96) p.length (hcells p), .row 26 1 (.slice (some ⟨g497, 0, none⟩) B.length c103) B.length vs104]) (its := []) S386 (hv131.trans hs132.symm) (show z < B.length by omega) (hpos z (by omega))
     refine T_load rfl rfl rfl rfl rfl rfl rfl (S386.rowCell 4 rfl (by rw [Nat.mul_one]; exact hv572)) (T_nil ?_)
     refine TT_fork rfl rfl ?_ ?_
     ·refine Ak 1 3 S386 ?_
      refine Nt rfl (Af (hone := by simp [Value.cells]; rfl) ([(0 : UInt8)].map bV) fun a576 w577 hB578 ho579 => ?_)
      have S580 := S386.own hB578 ho579
      refine ⟨trivial, ?_⟩
      refine Nt rfl (T_ragAppend (nw := [(0 : UInt8)]) (its := []) [.row 5 1 (.slice a576 1 1) 1 (([(0 : UInt8)]).map bV), .blk b84 (.agg #[.int .i64 0, .slice none 0 0, .slice none 0 0, .slice none 0 0] : Value).cells 45, .blk b81 (.agg #[.int .i64 sn, .slice a88 u.length c89, .slice a95 p.length c96, .slice (some ⟨g497, 0, none⟩) B.length c103] : Value).cells 45, .row 5 1 (.slice a88 u.length c89) u.length (u.map bV), .row 23 32 (.slice a95 p.length c96) p.length (hcells p), .row 26 1 (.slice (some ⟨g497, 0, none⟩) B.length c103) B.length vs104] z S580 (fun _ _ => trivial) hv572 hr574 rfl rfl rfl rfl rfl rfl rfl rfl rfl rfl rfl rfl (S580.rd 0 rfl) rfl (by have := hx1000 _ (List.mem_of_getElem? hr574); rw [List.length_append]; unfold maxLen; show _ + 1 ≤ _; omega) (by have := hx1000 _ (List.mem_of_getElem? hr574); rw [List.length_append]; show (_ + 1) * 1 ≤ _; omega) fun a581 c582 w583 hc584 S585 => ?_)
      have hs587 : (B.set z (B.getD z [] ++ [(0 : UInt8)])).length = B.length := List.length_set.trans hs132
      have S586 : St w H G124 (.row 5 1 (.slice a576 1 1) 1 (([(0 : UInt8)]).map bV) :: .blk b84 (.agg #[.int .i64 0, .slice none 0 0, .slice none 0 0, .slice none 0 0] : Value).cells 45 :: .blk b81 (.agg #[.int .i64 sn, .slice a88 u.length c89, .slice a95 p.length c96, .slice (some ⟨g497, 0, none⟩) B.length c103] : Value).cells 45 :: .row 5 1 (.slice a88 u.length c89) u.length (u.map bV) :: .row 23 32 (.slice a95 p.length c96) p.length (hcells p) :: .row 26 1 (.slice (some ⟨g497, 0, none⟩) B.length c103) B.length vs104 :: (mrows 5 (vs104.set z (.slice a581 (B.getD z [] ++ [(0 : UInt8)]).length c582)) (B.set z (B.getD z [] ++ [(0 : UInt8)])) ++ [])) w583 := S585
      refine Nt rfl (Ai (hm := by show 0 + Int.toNat _ * 1 = _; omega) (z * 1) ?_)
      refine Nt rfl (T_storeRow 5 (vs104.set z (.slice a581 (B.getD z [] ++ [(0 : UInt8)]).length c582)) S586 (fun _ _ => trivial) rfl rfl rfl rfl rfl rfl rfl rfl rfl (by show _ + 1 ≤ _ * 1; omega) (one_all rfl) (set_cells (by first | omega | (simp only [List.length_set]; omega)) rfl) fun w588 S589 => ?_)
      have hv590 : (vs104.set z (.slice a581 (B.getD z [] ++ [(0 : UInt8)]).length c582)).length = B.length := List.length_set.trans hv131
      refine T_nil (TT_done (W_seq ?_))
      obtain ⟨G592, hl593, S591, r594⟩ := S589.stillRow 3 rfl
      obtain ⟨G596, hl597, S595, r598⟩ := S591.stillRow 3 rfl
      have r599 := RdH.mk h2.1 (by decide) r598
      obtain ⟨G600, hl601, S602, r603⟩ := St.ragAll (p := [.row 5 1 (.slice a576 1 1) 1 (([(0 : UInt8)]).map bV), .blk b84 (.agg #[.int .i64 0, .slice none 0 0, .slice none 0 0, .slice none 0 0] : Value).cells 45, .blk b81 (.agg #[.int .i64 sn, .slice a88 u.length c89, .slice a95 p.length c96, .slice (some ⟨g497, 0, none⟩) B.length c103] : Value).cells 45]) (its := []) S595 (hv590.trans hs587.symm)
      refine W_region (T_loadFS 2 S602 rfl rfl rfl rfl rfl rfl rfl rfl rfl (by first | rfl | simp [hVs, *]) ?_)
      refine T_storeFS 1 S602 (fun _ _ => trivial) rfl rfl rfl rfl rfl rfl rfl rfl rfl (by first | rfl | simp [hVs, *]) (by first | rfl | simp [hVs, *]) (one_all rfl) fun w604 S605 => ?_
      refine T_nil (W_ret ?_)
      refine ⟨_, ⟨_, _, _, rfl, rfl, run_loadVarA rfl rfl (by first | rfl | simp [hVs, *]) (S605.cells 1 rfl), rfl⟩, ?_⟩
      exact ⟨_, _, _, _, _, _, _, _, _, _, _, _, _, rfl, ((r594.mono (hl597.trans hl601))).mono S605.fin, ((r599.mono hl601)).mono S605.fin, (r603).mono S605.fin, (by omega), (by first | omega | (simp only [List.length_append, List.length_cons, List.length_nil, List.length_set, List.length_drop, List.length_take]; omega)), (by first | omega | (simp only [List.length_append, List.length_cons, List.length_nil, List.length_set, List.length_drop, List.length_take]; omega)), (by first | omega | (simp only [List.length_append, List.length_cons, List.length_nil, List.length_set, List.length_drop, List.length_take]; omega)), (by first | exact fun x h => Nat.le_succ_of_le (hx x h).2 | exact set_le (m := 64) (fun x h => (hx x h).2) (by first | (rw [List.length_set]; omega) | (rw [List.length_append]; show _ + 1 ≤ _; omega)) | exact fun x h => Nat.le_succ_of_le (hx x (List.mem_of_mem_drop h)).2 | exact fun x h => Nat.le_succ_of_le (hx x (List.mem_of_mem_drop (List.mem_of_mem_take h))).2), S605.below⟩
     refine Af (hone := by simp [Value.cells]; rfl) ([(0 : UInt8)].map bV) fun a606 w607 hB608 ho609 => ?_
     have S610 := S386.own hB608 ho609
     refine ⟨trivial, ?_⟩
     refine T_nil (TT_fork rfl rfl ?_ ?_)
     ·refine Ak 2 3 S610 ?_
      refine Nt rfl (T_ragAppend (nw := [(0 : UInt8)]) (its := []) [.row 5 1 (.slice a606 1 1) 1 (([(0 : UInt8)]).map bV), .blk b84 (.agg #[.int .i64 0, .slice none 0 0, .slice none 0 0, .slice none 0 0] : Value).cells 45, .blk b81 (.agg #[.int .i64 sn, .slice a88 u.length c89, .slice a95 p.length c96, .slice (some ⟨g497, 0, none⟩) B.length c103] : Value).cells 45, .row 5 1 (.slice a88 u.length c89) u.length (u.map bV), .row 23 32 (.slice a95 p.length c96) p.length (hcells p), .row 26 1 (.slice (some ⟨g497, 0, none⟩) B.length c103) B.length vs104] z S610 (fun _ _ => trivial) hv572 hr574 rfl rfl rfl rfl rfl rfl rfl rfl rfl rfl rfl rfl (S610.rd 0 rfl) rfl (by have := hx1000 _ (List.mem_of_getElem? hr574); rw [List.length_append]; unfold maxLen; show _ + 1 ≤ _; omega) (by have := hx1000 _ (List.mem_of_getElem? hr574); rw [List.length_append]; show (_ + 1) * 1 ≤ _; omega) fun a611 c612 w613 hc614 S615 => ?_)
      have hs617 : (B.set z (B.getD z [] ++ [(0 : UInt8)])).length = B.length := List.length_set.trans hs132
      have S616 : St w H G124 (.row 5 1 (.slice a606 1 1) 1 (([(0 : UInt8)]).map bV) :: .blk b84 (.agg #[.int .i64 0, .slice none 0 0, .slice none 0 0, .slice none 0 0] : Value).cells 45 :: .blk b81 (.agg #[.int .i64 sn, .slice a88 u.length c89, .slice a95 p.length c96, .slice (some ⟨g497, 0, none⟩) B.length c103] : Value).cells 45 :: .row 5 1 (.slice a88 u.length c89) u.length (u.map bV) :: .row 23 32 (.slice a95 p.length c96) p.length (hcells p) :: .row 26 1 (.slice (some ⟨g497, 0, none⟩) B.length c103) B.length vs104 :: (mrows 5 (vs104.set z (.slice a611 (B.getD z [] ++ [(0 : UInt8)]).length c612)) (B.set z (B.getD z [] ++ [(0 : UInt8)])) ++ [])) w613 := S615
      refine Nt rfl (Ai (hm := by show 0 + Int.toNat _ * 1 = _; omega) (z * 1) ?_)
      refine Nt rfl (T_storeRow 5 (vs104.set z (.slice a611 (B.getD z [] ++ [(0 : UInt8)]).length c612)) S616 (fun _ _ => trivial) rfl rfl rfl rfl rfl rfl rfl rfl rfl (by show _ + 1 ≤ _ * 1; omega) (one_all rfl) (set_cells (by first | omega | (simp only [List.length_set]; omega)) rfl) fun w618 S619 => ?_)
      have hv620 : (vs104.set z (.slice a611 (B.getD z [] ++ [(0 : UInt8)]).length c612)).length = B.length := List.length_set.trans hv131
      refine T_nil (TT_done (W_seq ?_))
      obtain ⟨G622, hl623, S621, r624⟩ := S619.stillRow 3 rfl
      obtain ⟨G626, hl627, S625, r628⟩ := S621.stillRow 3 rfl
      have r629 := RdH.mk h2.1 (by decide) r628
      obtain ⟨G630, hl631, S632, r633⟩ := St.ragAll (p := [.row 5 1 (.slice a606 1 1) 1 (([(0 : UInt8)]).map bV), .blk b84 (.agg #[.int .i64 0, .slice none 0 0, .slice none 0 0, .slice none 0 0] : Value).cells 45, .blk b81 (.agg #[.int .i64 sn, .slice a88 u.length c89, .slice a95 p.length c96, .slice (some ⟨g497, 0, none⟩) B.length c103] : Value).cells 45]) (its := []) S625 (hv620.trans hs617.symm)
      refine W_region (T_loadFS 2 S632 rfl rfl rfl rfl rfl rfl rfl rfl rfl (by first | rfl | simp [hVs, *]) ?_)
      refine T_storeFS 1 S632 (fun _ _ => trivial) rfl rfl rfl rfl rfl rfl rfl rfl rfl (by first | rfl | simp [hVs, *]) (by first | rfl | simp [hVs, *]) (one_all rfl) fun w634 S635 => ?_
      refine T_nil (W_ret ?_)
      refine ⟨_, ⟨_, _, _, rfl, rfl, run_loadVarA rfl rfl (by first | rfl | simp [hVs, *]) (S635.cells 1 rfl), rfl⟩, ?_⟩
      exact ⟨_, _, _, _, _, _, _, _, _, _, _, _, _, rfl, ((r624.mono (hl627.trans hl631))).mono S635.fin, ((r629.mono hl631)).mono S635.fin, (r633).mono S635.fin, (by omega), (by first | omega | (simp only [List.length_append, List.length_cons, List.length_nil, List.length_set, List.length_drop, List.length_take]; omega)), (by first | omega | (simp only [List.length_append, List.length_cons, List.length_nil, List.length_set, List.length_drop, List.length_take]; omega)), (by first | omega | (simp only [List.length_append, List.length_cons, List.length_nil, List.length_set, List.length_drop, List.length_take]; omega)), (by first | exact fun x h => Nat.le_succ_of_le (hx x h).2 | exact set_le (m := 64) (fun x h => (hx x h).2) (by first | (rw [List.length_set]; omega) | (rw [List.length_append]; show _ + 1 ≤ _; omega)) | exact fun x h => Nat.le_succ_of_le (hx x (List.mem_of_mem_drop h)).2 | exact fun x h => Nat.le_succ_of_le (hx x (List.mem_of_mem_drop (List.mem_of_mem_take h))).2), S635.below⟩
     refine T_ragAppend (nw := [(0 : UInt8)]) (its := []) [.row 5 1 (.slice a606 1 1) 1 (([(0 : UInt8)]).map bV), .blk b84 (.agg #[.int .i64 0, .slice none 0 0, .slice none 0 0, .slice none 0 0] : Value).cells 45, .blk b81 (.agg #[.int .i64 sn, .slice a88 u.length c89, .slice a95 p.length c96, .slice (some ⟨g497, 0, none⟩) B.length c103] : Value).cells 45, .row 5 1 (.slice a88 u.length c89) u.length (u.map bV), .row 23 32 (.slice a95 p.length c96) p.length (hcells p), .row 26 1 (.slice (some ⟨g497, 0, none⟩) B.length c103) B.length vs104] z S610 (fun _ _ => trivial) hv572 hr574 rfl rfl rfl rfl rfl rfl rfl rfl rfl rfl rfl rfl (S610.rd 0 rfl) rfl (by have := hx1000 _ (List.mem_of_getElem? hr574); rw [List.length_append]; unfold maxLen; show _ + 1 ≤ _; omega) (by have := hx1000 _ (List.mem_of_getElem? hr574); rw [List.length_append]; show (_ + 1) * 1 ≤ _; omega) fun a636 c637 w638 hc639 S640 => ?_
     have hs642 : (B.set z (B.getD z [] ++ [(0 : UInt8)])).length = B.length := List.length_set.trans hs132
     have S641 : St w H G124 (.row 5 1 (.slice a606 1 1) 1 (([(0 : UInt8)]).map bV) :: .blk b84 (.agg #[.int .i64 0, .slice none 0 0, .slice none 0 0, .slice none 0 0] : Value).cells 45 :: .blk b81 (.agg #[.int .i64 sn, .slice a88 u.length c89, .slice a95 p.length c96, .slice (some ⟨g497, 0, none⟩) B.length c103] : Value).cells 45 :: .row 5 1 (.slice a88 u.length c89) u.length (u.map bV) :: .row 23 32 (.slice a95 p.length c96) p.length (hcells p) :: .row 26 1 (.slice (some ⟨g497, 0, none⟩) B.length c103) B.length vs104 :: (mrows 5 (vs104.set z (.slice a636 (B.getD z [] ++ [(0 : UInt8)]).length c637)) (B.set z (B.getD z [] ++ [(0 : UInt8)])) ++ [])) w638 := S640
     refine Nt rfl (Ak 2 3 S641 ?_)
     refine Nt rfl (Ai (hm := by show 0 + Int.toNat _ * 1 = _; omega) (z * 1) ?_)
     refine Nt rfl (T_storeRow 5 (vs104.set z (.slice a636 (B.getD z [] ++ [(0 : UInt8)]).length c637)) S641 (fun _ _ => trivial) rfl rfl rfl rfl rfl rfl rfl rfl rfl (by show _ + 1 ≤ _ * 1; omega) (one_all rfl) (set_cells (by first | omega | (simp only [List.length_set]; omega)) rfl) fun w643 S644 => ?_)
     have hv645 : (vs104.set z (.slice a636 (B.getD z [] ++ [(0 : UInt8)]).length c637)).length = B.length := List.length_set.trans hv131
     refine T_nil (TT_done (W_seq ?_))
     obtain ⟨G647, hl648, S646, r649⟩ := S644.stillRow 3 rfl
     obtain ⟨G651, hl652, S650, r653⟩ := S646.stillRow 3 rfl
     have r654 := RdH.mk h2.1 (by decide) r653
     obtain ⟨G655, hl656, S657, r658⟩ := St.ragAll (p := [.row 5 1 (.slice a606 1 1) 1 (([(0 : UInt8)]).map bV), .blk b84 (.agg #[.int .i64 0, .slice none 0 0, .slice none 0 0, .slice none 0 0] : Value).cells 45, .blk b81 (.agg #[.int .i64 sn, .slice a88 u.length c89, .slice a95 p.length c96, .slice (some ⟨g497, 0, none⟩) B.length c103] : Value).cells 45]) (its := []) S650 (hv645.trans hs642.symm)
     refine W_region (T_loadFS 2 S657 rfl rfl rfl rfl rfl rfl rfl rfl rfl (by first | rfl | simp [hVs, *]) ?_)
     refine T_storeFS 1 S657 (fun _ _ => trivial) rfl rfl rfl rfl rfl rfl rfl rfl rfl (by first | rfl | simp [hVs, *]) (by first | rfl | simp [hVs, *]) (one_all rfl) fun w659 S660 => ?_
     refine T_nil (W_ret ?_)
     refine ⟨_, ⟨_, _, _, rfl, rfl, run_loadVarA rfl rfl (by first | rfl | simp [hVs, *]) (S660.cells 1 rfl), rfl⟩, ?_⟩
     exact ⟨_, _, _, _, _, _, _, _, _, _, _, _, _, rfl, ((r649.mono (hl652.trans hl656))).mono S660.fin, ((r654.mono hl656)).mono S660.fin, (r658).mono S660.fin, (by omega), (by first | omega | (simp only [List.length_append, List.length_cons, List.length_nil, List.length_set, List.length_drop, List.length_take]; omega)), (by first | omega | (simp only [List.length_append, List.length_cons, List.length_nil, List.length_set, List.length_drop, List.length_take]; omega)), (by first | omega | (simp only [List.length_append, List.length_cons, List.length_nil, List.length_set, List.length_drop, List.length_take]; omega)), (by first | exact fun x h => Nat.le_succ_of_le (hx x h).2 | exact set_le (m := 64) (fun x h => (hx x h).2) (by first | (rw [List.length_set]; omega) | (rw [List.length_append]; show _ + 1 ≤ _; omega)) | exact fun x h => Nat.le_succ_of_le (hx x (List.mem_of_mem_drop h)).2 | exact fun x h => Nat.le_succ_of_le (hx x (List.mem_of_mem_drop (List.mem_of_mem_take h))).2), S660.below⟩
    refine Af (hone := by simp [Value.cells]; rfl) ([(0 : UInt8)].map bV) fun a661 w662 hB663 ho664 => ?_
    have S665 := S386.own hB663 ho664
    refine ⟨trivial, ?_⟩
    refine Nt rfl ?_
    obtain ⟨g666, c667, hv668, hc669, hr670⟩ := St.ragCell (p := [.row 5 1 (.slice a661 1 1) 1 (([(0 : UInt8)]).map bV), .blk b84 (.agg #[.int .i64 0, .slice none 0 0, .slice none 0 0, .slice none 0 0] : Value).cells 45, .blk b81 (.agg #[.int .i64 sn, .slice a88 u.length c89, .slice a95 p.length c96, .slice (some ⟨g497, 0, none⟩) B.length c103] : Value).cells 45, .row 5 1 (.slice a88 u.length c89) u.length (u.map bV), .row 23 32 (.slice a95 p.length c96) p.length (hcells p), .row 26 1 (.slice (some ⟨g497, 0, none⟩) B.length c103) B.length vs104]) (its := []) S665 (hv131.trans hs132.symm) (show z < B.length by omega) (hpos z (by omega))
    refine T_load rfl rfl rfl rfl rfl rfl rfl (S665.rowCell 5 rfl (by rw [Nat.mul_one]; exact hv668)) (T_nil ?_)
    refine TT_fork rfl rfl ?_ ?_
    ·refine Ak 2 3 S665 ?_
     refine Nt rfl (T_ragAppend (nw := [(0 : UInt8)]) (its := []) [.row 5 1 (.slice a661 1 1) 1 (([(0 : UInt8)]).map bV), .blk b84 (.agg #[.int .i64 0, .slice none 0 0, .slice none 0 0, .slice none 0 0] : Value).cells 45, .blk b81 (.agg #[.int .i64 sn, .slice a88 u.length c89, .slice a95 p.length c96, .slice (some ⟨g497, 0, none⟩) B.length c103] : Value).cells 45, .row 5 1 (.slice a88 u.length c89) u.length (u.map bV), .row 23 32 (.slice a95 p.length c96) p.length (hcells p), .row 26 1 (.slice (some ⟨g497, 0, none⟩) B.length c103) B.length vs104] z S665 (fun _ _ => trivial) hv668 hr670 rfl rfl rfl rfl rfl rfl rfl rfl rfl rfl rfl rfl (S665.rd 0 rfl) rfl (by have := hx1000 _ (List.mem_of_getElem? hr670); rw [List.length_append]; unfold maxLen; show _ + 1 ≤ _; omega) (by have := hx1000 _ (List.mem_of_getElem? hr670); rw [List.length_append]; show (_ + 1) * 1 ≤ _; omega) fun a672 c673 w674 hc675 S676 => ?_)
     have hs678 : (B.set z (B.getD z [] ++ [(0 : UInt8)])).length = B.length := List.length_set.trans hs132
     have S677 : St w H G124 (.row 5 1 (.slice a661 1 1) 1 (([(0 : UInt8)]).map bV) :: .blk b84 (.agg #[.int .i64 0, .slice none 0 0, .slice none 0 0, .slice none 0 0] : Value).cells 45 :: .blk b81 (.agg #[.int .i64 sn, .slice a88 u.length c89, .slice a95 p.length c96, .slice (some ⟨g497, 0, none⟩) B.length c103] : Value).cells 45 :: .row 5 1 (.slice a88 u.length c89) u.length (u.map bV) :: .row 23 32 (.slice a95 p.length c96) p.length (hcells p) :: .row 26 1 (.slice (some ⟨g497, 0, none⟩) B.length c103) B.length vs104 :: (mrows 5 (vs104.set z (.slice a672 (B.getD z [] ++ [(0 : UInt8)]).length c673)) (B.set z (B.getD z [] ++ [(0 : UInt8)])) ++ [])) w674 := S676
     refine Nt rfl (Ai (hm := by show 0 + Int.toNat _ * 1 = _; omega) (z * 1) ?_)
     refine Nt rfl (T_storeRow 5 (vs104.set z (.slice a672 (B.getD z [] ++ [(0 : UInt8)]).length c673)) S677 (fun _ _ => trivial) rfl rfl rfl rfl rfl rfl rfl rfl rfl (by show _ + 1 ≤ _ * 1; omega) (one_all rfl) (set_cells (by first | omega | (simp only [List.length_set]; omega)) rfl) fun w679 S680 => ?_)
     have hv681 : (vs104.set z (.slice a672 (B.getD z [] ++ [(0 : UInt8)]).length c673)).length = B.length := List.length_set.trans hv131
     refine T_nil (TT_done (W_seq ?_))
     obtain ⟨G683, hl684, S682, r685⟩ := S680.stillRow 3 rfl
     obtain ⟨G687, hl688, S686, r689⟩ := S682.stillRow 3 rfl
     have r690 := RdH.mk h2.1 (by decide) r689
     obtain ⟨G691, hl692, S693, r694⟩ := St.ragAll (p := [.row 5 1 (.slice a661 1 1) 1 (([(0 : UInt8)]).map bV), .blk b84 (.agg #[.int .i64 0, .slice none 0 0, .slice none 0 0, .slice none 0 0] : Value).cells 45, .blk b81 (.agg #[.int .i64 sn, .slice a88 u.length c89, .slice a95 p.length c96, .slice (some ⟨g497, 0, none⟩) B.length c103] : Value).cells 45]) (its := []) S686 (hv681.trans hs678.symm)
     refine W_region (T_loadFS 2 S693 rfl rfl rfl rfl rfl rfl rfl rfl rfl (by first | rfl | simp [hVs, *]) ?_)
     refine T_storeFS 1 S693 (fun _ _ => trivial) rfl rfl rfl rfl rfl rfl rfl rfl rfl (by first | rfl | simp [hVs, *]) (by first | rfl | simp [hVs, *]) (one_all rfl) fun w695 S696 => ?_
     refine T_nil (W_ret ?_)
     refine ⟨_, ⟨_, _, _, rfl, rfl, run_loadVarA rfl rfl (by first | rfl | simp [hVs, *]) (S696.cells 1 rfl), rfl⟩, ?_⟩
     exact ⟨_, _, _, _, _, _, _, _, _, _, _, _, _, rfl, ((r685.mono (hl688.trans hl692))).mono S696.fin, ((r690.mono hl692)).mono S696.fin, (r694).mono S696.fin, (by omega), (by first | omega | (simp only [List.length_append, List.length_cons, List.length_nil, List.length_set, List.length_drop, List.length_take]; omega)), (by first | omega | (simp only [List.length_append, List.length_cons, List.length_nil, List.length_set, List.length_drop, List.length_take]; omega)), (by first | omega | (simp only [List.length_append, List.length_cons, List.length_nil, List.length_set, List.length_drop, List.length_take]; omega)), (by first | exact fun x h => Nat.le_succ_of_le (hx x h).2 | exact set_le (m := 64) (fun x h => (hx x h).2) (by first | (rw [List.length_set]; omega) | (rw [List.length_append]; show _ + 1 ≤ _; omega)) | exact fun x h => Nat.le_succ_of_le (hx x (List.mem_of_mem_drop h)).2 | exact fun x h => Nat.le_succ_of_le (hx x (List.mem_of_mem_drop (List.mem_of_mem_take h))).2), S696.below⟩
    refine T_ragAppend (nw := [(0 : UInt8)]) (its := []) [.row 5 1 (.slice a661 1 1) 1 (([(0 : UInt8)]).map bV), .blk b84 (.agg #[.int .i64 0, .slice none 0 0, .slice none 0 0, .slice none 0 0] : Value).cells 45, .blk b81 (.agg #[.int .i64 sn, .slice a88 u.length c89, .slice a95 p.length c96, .slice (some ⟨g497, 0, none⟩) B.length c103] : Value).cells 45, .row 5 1 (.slice a88 u.length c89) u.length (u.map bV), .row 23 32 (.slice a95 p.length c96) p.length (hcells p), .row 26 1 (.slice (some ⟨g497, 0, none⟩) B.length c103) B.length vs104] z S665 (fun _ _ => trivial) hv668 hr670 rfl rfl rfl rfl rfl rfl rfl rfl rfl rfl rfl rfl (S665.rd 0 rfl) rfl (by have := hx1000 _ (List.mem_of_getElem? hr670); rw [List.length_append]; unfold maxLen; show _ + 1 ≤ _; omega) (by have := hx1000 _ (List.mem_of_getElem? hr670); rw [List.length_append]; show (_ + 1) * 1 ≤ _; omega) fun a697 c698 w699 hc700 S701 => ?_
    have hs703 : (B.set z (B.getD z [] ++ [(0 : UInt8)])).length = B.length := List.length_set.trans hs132
    have S702 : St w H G124 (.row 5 1 (.slice a661 1 1) 1 (([(0 : UInt8)]).map bV) :: .blk b84 (.agg #[.int .i64 0, .slice none 0 0, .slice none 0 0, .slice none 0 0] : Value).cells 45 :: .blk b81 (.agg #[.int .i64 sn, .slice a88 u.length c89, .slice a95 p.length c96, .slice (some ⟨g497, 0, none⟩) B.length c103] : Value).cells 45 :: .row 5 1 (.slice a88 u.length c89) u.length (u.map bV) :: .row 23 32 (.slice a95 p.length c96) p.length (hcells p) :: .row 26 1 (.slice (some ⟨g497, 0, none⟩) B.length c103) B.length vs104 :: (mrows 5 (vs104.set z (.slice a697 (B.getD z [] ++ [(0 : UInt8)]).length c698)) (B.set z (B.getD z [] ++ [(0 : UInt8)])) ++ [])) w699 := S701
    refine Nt rfl (Ak 2 3 S702 ?_)
    refine Nt rfl (Ai (hm := by show 0 + Int.toNat _ * 1 = _; omega) (z * 1) ?_)
    refine Nt rfl (T_storeRow 5 (vs104.set z (.slice a697 (B.getD z [] ++ [(0 : UInt8)]).length c698)) S702 (fun _ _ => trivial) rfl rfl rfl rfl rfl rfl rfl rfl rfl (by show _ + 1 ≤ _ * 1; omega) (one_all rfl) (set_cells (by first | omega | (simp only [List.length_set]; omega)) rfl) fun w704 S705 => ?_)
    have hv706 : (vs104.set z (.slice a697 (B.getD z [] ++ [(0 : UInt8)]).length c698)).length = B.length := List.length_set.trans hv131
    refine T_nil (TT_done (W_seq ?_))
    obtain ⟨G708, hl709, S707, r710⟩ := S705.stillRow 3 rfl
    obtain ⟨G712, hl713, S711, r714⟩ := S707.stillRow 3 rfl
    have r715 := RdH.mk h2.1 (by decide) r714
    obtain ⟨G716, hl717, S718, r719⟩ := St.ragAll (p := [.row 5 1 (.slice a661 1 1) 1 (([(0 : UInt8)]).map bV), .blk b84 (.agg #[.int .i64 0, .slice none 0 0, .slice none 0 0, .slice none 0 0] : Value).cells 45, .blk b81 (.agg #[.int .i64 sn, .slice a88 u.length c89, .slice a95 p.length c96, .slice (some ⟨g497, 0, none⟩) B.length c103] : Value).cells 45]) (its := []) S711 (hv706.trans hs703.symm)
    refine W_region (T_loadFS 2 S718 rfl rfl rfl rfl rfl rfl rfl rfl rfl (by first | rfl | simp [hVs, *]) ?_)
    refine T_storeFS 1 S718 (fun _ _ => trivial) rfl rfl rfl rfl rfl rfl rfl rfl rfl (by first | rfl | simp [hVs, *]) (by first | rfl | simp [hVs, *]) (one_all rfl) fun w720 S721 => ?_
    refine T_nil (W_ret ?_)
    refine ⟨_, ⟨_, _, _, rfl, rfl, run_loadVarA rfl rfl (by first | rfl | simp [hVs, *]) (S721.cells 1 rfl), rfl⟩, ?_⟩
    exact ⟨_, _, _, _, _, _, _, _, _, _, _, _, _, rfl, ((r710.mono (hl713.trans hl717))).mono S721.fin, ((r715.mono hl717)).mono S721.fin, (r719).mono S721.fin, (by omega), (by first | omega | (simp only [List.length_append, List.length_cons, List.length_nil, List.length_set, List.length_drop, List.length_take]; omega)), (by first | omega | (simp only [List.length_append, List.length_cons, List.length_nil, List.length_set, List.length_drop, List.length_take]; omega)), (by first | omega | (simp only [List.length_append, List.length_cons, List.length_nil, List.length_set, List.length_drop, List.length_take]; omega)), (by first | exact fun x h => Nat.le_succ_of_le (hx x h).2 | exact set_le (m := 64) (fun x h => (hx x h).2) (by first | (rw [List.length_set]; omega) | (rw [List.length_append]; show _ + 1 ≤ _; omega)) | exact fun x h => Nat.le_succ_of_le (hx x (List.mem_of_mem_drop h)).2 | exact fun x h => Nat.le_succ_of_le (hx x (List.mem_of_mem_drop (List.mem_of_mem_take h))).2), S721.below⟩
   refine Af (hone := by simp [Value.cells]; rfl) ([(0 : UInt8)].map bV) fun a722 w723 hB724 ho725 => ?_
   have S726 := S386.own hB724 ho725
   refine ⟨trivial, ?_⟩
   refine Nt rfl (Ak 2 3 S726 ?_)
   refine Nt rfl ?_
   obtain ⟨g727, rfl⟩ := S726.rowAt 5 rfl (by omega)
   refine Ai (hm := by show 0 + Int.toNat _ * 1 = _; omega) (z * 1) ?_
   refine Nt rfl ?_
   obtain ⟨g728, c729, hv730, hc731, hr732⟩ := St.ragCell (p := [.row 5 1 (.slice a722 1 1) 1 (([(0 : UInt8)]).map bV), .blk b84 (.agg #[.int .i64 0, .slice none 0 0, .slice none 0 0, .slice none 0 0] : Value).cells 45, .blk b81 (.agg #[.int .i64 sn, .slice a88 u.length c89, .slice a95 p.length c96, .slice (some ⟨g727, 0, none⟩) B.length c103] : Value).cells 45, .row 5 1 (.slice a88 u.length c89) u.length (u.map bV), .row 23 32 (.slice a95 p.length c96) p.length (hcells p), .row 26 1 (.slice (some ⟨g727, 0, none⟩) B.length c103) B.length vs104]) (its := []) S726 (hv131.trans hs132.symm) (show z < B.length by omega) (hpos z (by omega))
   refine T_load rfl rfl rfl rfl rfl rfl rfl (S726.rowCell 5 rfl (by rw [Nat.mul_one]; exact hv730)) (T_nil ?_)
   refine TT_fork rfl rfl ?_ ?_
   ·refine Ak 2 3 S726 ?_
    refine Nt rfl (T_ragAppend (nw := [(0 : UInt8)]) (its := []) [.row 5 1 (.slice a722 1 1) 1 (([(0 : UInt8)]).map bV), .blk b84 (.agg #[.int .i64 0, .slice none 0 0, .slice none 0 0, .slice none 0 0] : Value).cells 45, .blk b81 (.agg #[.int .i64 sn, .slice a88 u.length c89, .slice a95 p.length c96, .slice (some ⟨g727, 0, none⟩) B.length c103] : Value).cells 45, .row 5 1 (.slice a88 u.length c89) u.length (u.map bV), .row 23 32 (.slice a95 p.length c96) p.length (hcells p), .row 26 1 (.slice (some ⟨g727, 0, none⟩) B.length c103) B.length vs104] z S726 (fun _ _ => trivial) hv730 hr732 rfl rfl rfl rfl rfl rfl rfl rfl rfl rfl rfl rfl (S726.rd 0 rfl) rfl (by have := hx1000 _ (List.mem_of_getElem? hr732); rw [List.length_append]; unfold maxLen; show _ + 1 ≤ _; omega) (by have := hx1000 _ (List.mem_of_getElem? hr732); rw [List.length_append]; show (_ + 1) * 1 ≤ _; omega) fun a734 c735 w736 hc737 S738 => ?_)
    have hs740 : (B.set z (B.getD z [] ++ [(0 : UInt8)])).length = B.length := List.length_set.trans hs132
    have S739 : St w H G124 (.row 5 1 (.slice a722 1 1) 1 (([(0 : UInt8)]).map bV) :: .blk b84 (.agg #[.int .i64 0, .slice none 0 0, .slice none 0 0, .slice none 0 0] : Value).cells 45 :: .blk b81 (.agg #[.int .i64 sn, .slice a88 u.length c89, .slice a95 p.length c96, .slice (some ⟨g727, 0, none⟩) B.length c103] : Value).cells 45 :: .row 5 1 (.slice a88 u.length c89) u.length (u.map bV) :: .row 23 32 (.slice a95 p.length c96) p.length (hcells p) :: .row 26 1 (.slice (some ⟨g727, 0, none⟩) B.length c103) B.length vs104 :: (mrows 5 (vs104.set z (.slice a734 (B.getD z [] ++ [(0 : UInt8)]).length c735)) (B.set z (B.getD z [] ++ [(0 : UInt8)])) ++ [])) w736 := S738
    refine Nt rfl (Ai (hm := by show 0 + Int.toNat _ * 1 = _; omega) (z * 1) ?_)
    refine Nt rfl (T_storeRow 5 (vs104.set z (.slice a734 (B.getD z [] ++ [(0 : UInt8)]).length c735)) S739 (fun _ _ => trivial) rfl rfl rfl rfl rfl rfl rfl rfl rfl (by show _ + 1 ≤ _ * 1; omega) (one_all rfl) (set_cells (by first | omega | (simp only [List.length_set]; omega)) rfl) fun w741 S742 => ?_)
    have hv743 : (vs104.set z (.slice a734 (B.getD z [] ++ [(0 : UInt8)]).length c735)).length = B.length := List.length_set.trans hv131
    refine T_nil (TT_done (W_seq ?_))
    obtain ⟨G745, hl746, S744, r747⟩ := S742.stillRow 3 rfl
    obtain ⟨G749, hl750, S748, r751⟩ := S744.stillRow 3 rfl
    have r752 := RdH.mk h2.1 (by decide) r751
    obtain ⟨G753, hl754, S755, r756⟩ := St.ragAll (p := [.row 5 1 (.slice a722 1 1) 1 (([(0 : UInt8)]).map bV), .blk b84 (.agg #[.int .i64 0, .slice none 0 0, .slice none 0 0, .slice none 0 0] : Value).cells 45, .blk b81 (.agg #[.int .i64 sn, .slice a88 u.length c89, .slice a95 p.length c96, .slice (some ⟨g727, 0, none⟩) B.length c103] : Value).cells 45]) (its := []) S748 (hv743.trans hs740.symm)
    refine W_region (T_loadFS 2 S755 rfl rfl rfl rfl rfl rfl rfl rfl rfl (by first | rfl | simp [hVs, *]) ?_)
    refine T_storeFS 1 S755 (fun _ _ => trivial) rfl rfl rfl rfl rfl rfl rfl rfl rfl (by first | rfl | simp [hVs, *]) (by first | rfl | simp [hVs, *]) (one_all rfl) fun w757 S758 => ?_
    refine T_nil (W_ret ?_)
    refine ⟨_, ⟨_, _, _, rfl, rfl, run_loadVarA rfl rfl (by first | rfl | simp [hVs, *]) (S758.cells 1 rfl), rfl⟩, ?_⟩
    exact ⟨_, _, _, _, _, _, _, _, _, _, _, _, _, rfl, ((r747.mono (hl750.trans hl754))).mono S758.fin, ((r752.mono hl754)).mono S758.fin, (r756).mono S758.fin, (by omega), (by first | omega | (simp only [List.length_append, List.length_cons, List.length_nil, List.length_set, List.length_drop, List.length_take]; omega)), (by first | omega | (simp only [List.length_append, List.length_cons, List.length_nil, List.length_set, List.length_drop, List.length_take]; omega)), (by first | omega | (simp only [List.length_append, List.length_cons, List.length_nil, List.length_set, List.length_drop, List.length_take]; omega)), (by first | exact fun x h => Nat.le_succ_of_le (hx x h).2 | exact set_le (m := 64) (fun x h => (hx x h).2) (by first | (rw [List.length_set]; omega) | (rw [List.length_append]; show _ + 1 ≤ _; omega)) | exact fun x h => Nat.le_succ_of_le (hx x (List.mem_of_mem_drop h)).2 | exact fun x h => Nat.le_succ_of_le (hx x (List.mem_of_mem_drop (List.mem_of_mem_take h))).2), S758.below⟩
   refine T_ragAppend (nw := [(0 : UInt8)]) (its := []) [.row 5 1 (.slice a722 1 1) 1 (([(0 : UInt8)]).map bV), .blk b84 (.agg #[.int .i64 0, .slice none 0 0, .slice none 0 0, .slice none 0 0] : Value).cells 45, .blk b81 (.agg #[.int .i64 sn, .slice a88 u.length c89, .slice a95 p.length c96, .slice (some ⟨g727, 0, none⟩) B.length c103] : Value).cells 45, .row 5 1 (.slice a88 u.length c89) u.length (u.map bV), .row 23 32 (.slice a95 p.length c96) p.length (hcells p), .row 26 1 (.slice (some ⟨g727, 0, none⟩) B.length c103) B.length vs104] z S726 (fun _ _ => trivial) hv730 hr732 rfl rfl rfl rfl rfl rfl rfl rfl rfl rfl rfl rfl (S726.rd 0 rfl) rfl (by have := hx1000 _ (List.mem_of_getElem? hr732); rw [List.length_append]; unfold maxLen; show _ + 1 ≤ _; omega) (by have := hx1000 _ (List.mem_of_getElem? hr732); rw [List.length_append]; show (_ + 1) * 1 ≤ _; omega) fun a759 c760 w761 hc762 S763 => ?_
   have hs765 : (B.set z (B.getD z [] ++ [(0 : UInt8)])).length = B.length := List.length_set.trans hs132
   have S764 : St w H G124 (.row 5 1 (.slice a722 1 1) 1 (([(0 : UInt8)]).map bV) :: .blk b84 (.agg #[.int .i64 0, .slice none 0 0, .slice none 0 0, .slice none 0 0] : Value).cells 45 :: .blk b81 (.agg #[.int .i64 sn, .slice a88 u.length c89, .slice a95 p.length c96, .slice (some ⟨g727, 0, none⟩) B.length c103] : Value).cells 45 :: .row 5 1 (.slice a88 u.length c89) u.length (u.map bV) :: .row 23 32 (.slice a95 p.length c96) p.length (hcells p) :: .row 26 1 (.slice (some ⟨g727, 0, none⟩) B.length c103) B.length vs104 :: (mrows 5 (vs104.set z (.slice a759 (B.getD z [] ++ [(0 : UInt8)]).length c760)) (B.set z (B.getD z [] ++ [(0 : UInt8)])) ++ [])) w761 := S763
   refine Nt rfl (Ak 2 3 S764 ?_)
   refine Nt rfl (Ai (hm := by show 0 + Int.toNat _ * 1 = _; omega) (z * 1) ?_)
   refine Nt rfl (T_storeRow 5 (vs104.set z (.slice a759 (B.getD z [] ++ [(0 : UInt8)]).length c760)) S764 (fun _ _ => trivial) rfl rfl rfl rfl rfl rfl rfl rfl rfl (by show _ + 1 ≤ _ * 1; omega) (one_all rfl) (set_cells (by first | omega | (simp only [List.length_set]; omega)) rfl) fun w766 S767 => ?_)
   have hv768 : (vs104.set z (.slice a759 (B.getD z [] ++ [(0 : UInt8)]).length c760)).length = B.length := List.length_set.trans hv131
   refine T_nil (TT_done (W_seq ?_))
   obtain ⟨G770, hl771, S769, r772⟩ := S767.stillRow 3 rfl
   obtain ⟨G774, hl775, S773, r776⟩ := S769.stillRow 3 rfl
   have r777 := RdH.mk h2.1 (by decide) r776
   obtain ⟨G778, hl779, S780, r781⟩ := St.ragAll (p := [.row 5 1 (.slice a722 1 1) 1 (([(0 : UInt8)]).map bV), .blk b84 (.agg #[.int .i64 0, .slice none 0 0, .slice none 0 0, .slice none 0 0] : Value).cells 45, .blk b81 (.agg #[.int .i64 sn, .slice a88 u.length c89, .slice a95 p.length c96, .slice (some ⟨g727, 0, none⟩) B.length c103] : Value).cells 45]) (its := []) S773 (hv768.trans hs765.symm)
   refine W_region (T_loadFS 2 S780 rfl rfl rfl rfl rfl rfl rfl rfl rfl (by first | rfl | simp [hVs, *]) ?_)
   refine T_storeFS 1 S780 (fun _ _ => trivial) rfl rfl rfl rfl rfl rfl rfl rfl rfl (by first | rfl | simp [hVs, *]) (by first | rfl | simp [hVs, *]) (one_all rfl) fun w782 S783 => ?_
   refine T_nil (W_ret ?_)
   refine ⟨_, ⟨_, _, _, rfl, rfl, run_loadVarA rfl rfl (by first | rfl | simp [hVs, *]) (S783.cells 1 rfl), rfl⟩, ?_⟩
   exact ⟨_, _, _, _, _, _, _, _, _, _, _, _, _, rfl, ((r772.mono (hl775.trans hl779))).mono S783.fin, ((r777.mono hl779)).mono S783.fin, (r781).mono S783.fin, (by omega), (by first | omega | (simp only [List.length_append, List.length_cons, List.length_nil, List.length_set, List.length_drop, List.length_take]; omega)), (by first | omega | (simp only [List.length_append, List.length_cons, List.length_nil, List.length_set, List.length_drop, List.length_take]; omega)), (by first | omega | (simp only [List.length_append, List.length_cons, List.length_nil, List.length_set, List.length_drop, List.length_take]; omega)), (by first | exact fun x h => Nat.le_succ_of_le (hx x h).2 | exact set_le (m := 64) (fun x h => (hx x h).2) (by first | (rw [List.length_set]; omega) | (rw [List.length_append]; show _ + 1 ≤ _; omega)) | exact fun x h => Nat.le_succ_of_le (hx x (List.mem_of_mem_drop h)).2 | exact fun x h => Nat.le_succ_of_le (hx x (List.mem_of_mem_drop (List.mem_of_mem_take h))).2), S783.below⟩
  refine W_skip (W_seq ?_)
  obtain ⟨G785, hl786, S784, r787⟩ := S136.stillRow 2 rfl
  obtain ⟨G789, hl790, S788, r791⟩ := S784.stillRow 2 rfl
  have r792 := RdH.mk h2.1 (by decide) r791
  obtain ⟨G793, hl794, S795, r796⟩ := St.ragAll (p := [.blk b84 (.agg #[.int .i64 0, .slice none 0 0, .slice none 0 0, .slice none 0 0] : Value).cells 45, .blk b81 (.agg #[.int .i64 sn, .slice a88 u.length c89, .slice a95 p.length c96, .slice a102 B.length c103] : Value).cells 45]) (its := []) S788 (hv131.trans hs132.symm)
  refine W_region (T_loadFS 1 S795 rfl rfl rfl rfl rfl rfl rfl rfl rfl (by first | rfl | simp [hVs, *]) ?_)
  refine T_storeFS 0 S795 (fun _ _ => trivial) rfl rfl rfl rfl rfl rfl rfl rfl rfl (by first | rfl | simp [hVs, *]) (by first | rfl | simp [hVs, *]) (one_all rfl) fun w797 S798 => ?_
  refine T_nil (W_ret ?_)
  refine ⟨_, ⟨_, _, _, rfl, rfl, run_loadVarA rfl rfl (by first | rfl | simp [hVs, *]) (S798.cells 0 rfl), rfl⟩, ?_⟩
  exact ⟨_, _, _, _, _, _, _, _, _, _, _, _, _, rfl, ((r787.mono (hl790.trans hl794))).mono S798.fin, ((r792.mono hl794)).mono S798.fin, (r796).mono S798.fin, (by omega), (by first | omega | (simp only [List.length_append, List.length_cons, List.length_nil, List.length_set, List.length_drop, List.length_take]; omega)), (by first | omega | (simp only [List.length_append, List.length_cons, List.length_nil, List.length_set, List.length_drop, List.length_take]; omega)), (by first | omega | (simp only [List.length_append, List.length_cons, List.length_nil, List.length_set, List.length_drop, List.length_take]; omega)), (by first | exact fun x h => Nat.le_succ_of_le (hx x h).2 | exact set_le (m := 64) (fun x h => (hx x h).2) (by first | (rw [List.length_set]; omega) | (rw [List.length_append]; show _ + 1 ≤ _; omega)) | exact fun x h => Nat.le_succ_of_le (hx x (List.mem_of_mem_drop h)).2 | exact fun x h => Nat.le_succ_of_le (hx x (List.mem_of_mem_drop (List.mem_of_mem_take h))).2), S798.below⟩
 refine W_seq (W_tree (plan Tryd.prog) (.step 0 (.step 1 (.step 3 (.step 6 (.fork3 2 4 7 (.step 4 (.fork 5 7 (.step 7 (.step 8 (.step 9 (.step 10 (.step 11 (.step 12 (.step 13 (.step 14 .done)))))))) (.step 5 (.step 8 (.step 9 (.step 10 (.step 11 (.step 12 (.step 13 (.step 14 .done)))))))))) (.fork 2 7 (.fork 5 7 (.step 7 (.step 8 (.step 9 (.step 10 (.step 11 (.step 12 (.step 13 (.step 14 .done)))))))) (.step 5 (.step 8 (.step 9 (.step 10 (.step 11 (.step 12 (.step 13 (.step 14 .done))))))))) (.step 2 (.step 5 (.step 8 (.step 9 (.step 10 (.step 11 (.step 12 (.step 13 (.step 14 .done)))))))))) (.fork 2 4 (.step 4 (.step 5 (.step 8 (.step 9 (.step 10 (.step 11 (.step 12 (.step 13 (.step 14 .done))))))))) (.step 2 (.step 5 (.step 8 (.step 9 (.step 10 (.step 11 (.step 12 (.step 13 (.step 14 .done))))))))))))))) rfl (by kernel_rfl) trivial ?_)
 have S799 := S86.drew
 refine TT_step rfl (Fl 1 ?_)
 refine Nt rfl (Ak 1 1 S799 ?_)
 refine Nt rfl (Fl 2 ?_)
 refine Nt rfl (Fl 3 (T_nil ?_))
 refine TT_fork3 rfl rfl rfl ?_ ?_ ?_
 ·refine Cs g_aumbry_aumbrykeep_Copy_byte ((copyB_ok S799.le h1 (by omega)).mono ?_)
  rintro e w805 ⟨a800, c801, hc802, rfl, ho803, hB804⟩
  have S806 := S799.own hB804 ho803
  refine ⟨_, rfl, trivial, ?_⟩
  refine Nt rfl (Ak 2 2 S806 (T_nil ?_))
  refine TT_fork rfl rfl ?_ ?_
  ·refine Cs g_aumbry_aumbrykeep_Copy_aumbry_api_Hash ((copyH_ok S806.le h2 (by omega)).mono ?_)
   rintro e w812 ⟨a807, c808, hc809, rfl, ho810, hB811⟩
   have S813 := S806.own hB811 ho810
   refine ⟨_, rfl, trivial, ?_⟩
   refine Nt rfl (Ak 3 3 S813 ?_)
   refine Nt rfl (Cs g_aumbry_aumbrykeep_CopyRows_byte ((copyRows_ok S813.le h3 (by omega) hx1000).mono ?_))
   rintro e w821 ⟨a814, c815, vs816, _, rfl, _, hc817, hv818, S819⟩
   have S820 : St w H H (.row 23 32 (.slice a807 p.length c808) p.length (hcells p) :: .row 5 1 (.slice a800 u.length c801) u.length (u.map bV) :: .blk b84 (.agg #[.int .i64 0, .slice none 0 0, .slice none 0 0, .slice none 0 0] : Value).cells 45 :: .blk b81 (.agg #[.int .i64 sn, .slice a1 u.length c1, .slice a2 p.length c2, .slice a3 B.length c3] : Value).cells 45 :: .row 26 1 (.slice a814 B.length c815) B.length vs816 :: (mrows 5 vs816 B ++ [])) w821 := S813.join S819
   refine ⟨_, rfl, trivial, ?_⟩
   refine Nt rfl (Fl 1 ?_)
   refine Nt rfl (Ad (hfit := by exact show 1 < 4 by decide) 3 1 S820 fun w822 S823 => ?_)
   have hE824 : (.agg #[.int .i64 sn, .slice a1 u.length c1, .slice a2 p.length c2, .slice a3 B.length c3] : Value).cells.setIfInBounds 1 (.slice a800 u.length c801) = (.agg #[.int .i64 sn, .slice a800 u.length c801, .slice a2 p.length c2, .slice a3 B.length c3] : Value).cells := rfl
   rw [hE824] at S823
   refine Nt rfl (Fl 2 ?_)
   refine Nt rfl (Ad (hfit := by exact show 2 < 4 by decide) 3 2 S823 fun w825 S826 => ?_)
   have hE827 : (.agg #[.int .i64 sn, .slice a800 u.length c801, .slice a2 p.length c2, .slice a3 B.length c3] : Value).cells.setIfInBounds 2 (.slice a807 p.length c808) = (.agg #[.int .i64 sn, .slice a800 u.length c801, .slice a807 p.length c808, .slice a3 B.length c3] : Value).cells := rfl
   rw [hE827] at S826
   refine Nt rfl (Fl 3 ?_)
   refine Nt rfl (Ad (hfit := by exact show 3 < 4 by decide) 3 3 S826 fun w828 S829 => ?_)
   have hE830 : (.agg #[.int .i64 sn, .slice a800 u.length c801, .slice a807 p.length c808, .slice a3 B.length c3] : Value).cells.setIfInBounds 3 (.slice a814 B.length c815) = (.agg #[.int .i64 sn, .slice a800 u.length c801, .slice a807 p.length c808, .slice a814 B.length c815] : Value).cells := rfl
   rw [hE830] at S829
   refine T_nil (TT_done ?_)
   have S831 := S829.swap12
   have S832 := S831.swap01
   have S833 := S832.swap23
   have S834 := S833.swap12
   have S835 := S834.swap23
   exact Ws (J128 _ _ ⟨_, _, _, _, _, _, _, H, rfl, (Hp.le.refl _), S835, hc802, hc809, hv818, (rfl : B.length = _), hc817⟩) ⟨rfl, rfl, rfl, rfl, trivial⟩
  refine Ak 2 3 S806 ?_
  refine Nt rfl (Cs g_aumbry_aumbrykeep_Copy_aumbry_api_Hash ((copyH_ok S806.le h2 (by omega)).mono ?_))
  rintro e w841 ⟨a836, c837, hc838, rfl, ho839, hB840⟩
  have S842 := S806.own hB840 ho839
  refine ⟨_, rfl, trivial, ?_⟩
  refine Nt rfl (Cs g_aumbry_aumbrykeep_CopyRows_byte ((copyRows_ok S842.le h3 (by omega) hx1000).mono ?_))
  rintro e w850 ⟨a843, c844, vs845, _, rfl, _, hc846, hv847, S848⟩
  have S849 : St w H H (.row 23 32 (.slice a836 p.length c837) p.length (hcells p) :: .row 5 1 (.slice a800 u.length c801) u.length (u.map bV) :: .blk b84 (.agg #[.int .i64 0, .slice none 0 0, .slice none 0 0, .slice none 0 0] : Value).cells 45 :: .blk b81 (.agg #[.int .i64 sn, .slice a1 u.length c1, .slice a2 p.length c2, .slice a3 B.length c3] : Value).cells 45 :: .row 26 1 (.slice a843 B.length c844) B.length vs845 :: (mrows 5 vs845 B ++ [])) w850 := S842.join S848
  refine ⟨_, rfl, trivial, ?_⟩
  refine Nt rfl (Fl 1 ?_)
  refine Nt rfl (Ad (hfit := by exact show 1 < 4 by decide) 3 1 S849 fun w851 S852 => ?_)
  have hE853 : (.agg #[.int .i64 sn, .slice a1 u.length c1, .slice a2 p.length c2, .slice a3 B.length c3] : Value).cells.setIfInBounds 1 (.slice a800 u.length c801) = (.agg #[.int .i64 sn, .slice a800 u.length c801, .slice a2 p.length c2, .slice a3 B.length c3] : Value).cells := rfl
  rw [hE853] at S852
  refine Nt rfl (Fl 2 ?_)
  refine Nt rfl (Ad (hfit := by exact show 2 < 4 by decide) 3 2 S852 fun w854 S855 => ?_)
  have hE856 : (.agg #[.int .i64 sn, .slice a800 u.length c801, .slice a2 p.length c2, .slice a3 B.length c3] : Value).cells.setIfInBounds 2 (.slice a836 p.length c837) = (.agg #[.int .i64 sn, .slice a800 u.length c801, .slice a836 p.length c837, .slice a3 B.length c3] : Value).cells := rfl
  rw [hE856] at S855
  refine Nt rfl (Fl 3 ?_)
  refine Nt rfl (Ad (hfit := by exact show 3 < 4 by decide) 3 3 S855 fun w857 S858 => ?_)
  have hE859 : (.agg #[.int .i64 sn, .slice a800 u.length c801, .slice a836 p.length c837, .slice a3 B.length c3] : Value).cells.setIfInBounds 3 (.slice a843 B.length c844) = (.agg #[.int .i64 sn, .slice a800 u.length c801, .slice a836 p.length c837, .slice a843 B.length c844] : Value).cells := rfl
  rw [hE859] at S858
  refine T_nil (TT_done ?_)
  have S860 := S858.swap12
  have S861 := S860.swap01
  have S862 := S861.swap23
  have S863 := S862.swap12
  have S864 := S863.swap23
  exact Ws (J128 _ _ ⟨_, _, _, _, _, _, _, H, rfl, (Hp.le.refl _), S864, hc802, hc838, hv847, (rfl : B.length = _), hc846⟩) ⟨rfl, rfl, rfl, rfl, trivial⟩
 ·refine Ak 1 2 S799 (T_nil ?_)
  refine TT_fork rfl rfl ?_ ?_
  ·refine Cs g_aumbry_aumbrykeep_Copy_byte ((copyB_ok S799.le h1 (by omega)).mono ?_)
   rintro e w870 ⟨a865, c866, hc867, rfl, ho868, hB869⟩
   have S871 := S799.own hB869 ho868
   refine ⟨_, rfl, trivial, ?_⟩
   refine T_nil (TT_fork rfl rfl ?_ ?_)
   ·refine Cs g_aumbry_aumbrykeep_Copy_aumbry_api_Hash ((copyH_ok S871.le h2 (by omega)).mono ?_)
    rintro e w877 ⟨a872, c873, hc874, rfl, ho875, hB876⟩
    have S878 := S871.own hB876 ho875
    refine ⟨_, rfl, trivial, ?_⟩
    refine Nt rfl (Ak 3 3 S878 ?_)
    refine Nt rfl (Cs g_aumbry_aumbrykeep_CopyRows_byte ((copyRows_ok S878.le h3 (by omega) hx1000).mono ?_))
    rintro e w886 ⟨a879, c880, vs881, _, rfl, _, hc882, hv883, S884⟩
    have S885 : St w H H (.row 23 32 (.slice a872 p.length c873) p.length (hcells p) :: .row 5 1 (.slice a865 u.length c866) u.length (u.map bV) :: .blk b84 (.agg #[.int .i64 0, .slice none 0 0, .slice none 0 0, .slice none 0 0] : Value).cells 45 :: .blk b81 (.agg #[.int .i64 sn, .slice a1 u.length c1, .slice a2 p.length c2, .slice a3 B.length c3] : Value).cells 45 :: .row 26 1 (.slice a879 B.length c880) B.length vs881 :: (mrows 5 vs881 B ++ [])) w886 := S878.join S884
    refine ⟨_, rfl, trivial, ?_⟩
    refine Nt rfl (Fl 1 ?_)
    refine Nt rfl (Ad (hfit := by exact show 1 < 4 by decide) 3 1 S885 fun w887 S888 => ?_)
    have hE889 : (.agg #[.int .i64 sn, .slice a1 u.length c1, .slice a2 p.length c2, .slice a3 B.length c3] : Value).cells.setIfInBounds 1 (.slice a865 u.length c866) = (.agg #[.int .i64 sn, .slice a865 u.length c866, .slice a2 p.length c2, .slice a3 B.length c3] : Value).cells := rfl
    rw [hE889] at S888
    refine Nt rfl (Fl 2 ?_)
    refine Nt rfl (Ad (hfit := by exact show 2 < 4 by decide) 3 2 S888 fun w890 S891 => ?_)
    have hE892 : (.agg #[.int .i64 sn, .slice a865 u.length c866, .slice a2 p.length c2, .slice a3 B.length c3] : Value).cells.setIfInBounds 2 (.slice a872 p.length c873) = (.agg #[.int .i64 sn, .slice a865 u.length c866, .slice a872 p.length c873, .slice a3 B.length c3] : Value).cells := rfl
    rw [hE892] at S891
    refine Nt rfl (Fl 3 ?_)
    refine Nt rfl (Ad (hfit := by exact show 3 < 4 by decide) 3 3 S891 fun w893 S894 => ?_)
    have hE895 : (.agg #[.int .i64 sn, .slice a865 u.length c866, .slice a872 p.length c873, .slice a3 B.length c3] : Value).cells.setIfInBounds 3 (.slice a879 B.length c880) = (.agg #[.int .i64 sn, .slice a865 u.length c866, .slice a872 p.length c873, .slice a879 B.length c880] : Value).cells := rfl
    rw [hE895] at S894
    refine T_nil (TT_done ?_)
    have S896 := S894.swap12
    have S897 := S896.swap01
    have S898 := S897.swap23
    have S899 := S898.swap12
    have S900 := S899.swap23
    exact Ws (J128 _ _ ⟨_, _, _, _, _, _, _, H, rfl, (Hp.le.refl _), S900, hc867, hc874, hv883, (rfl : B.length = _), hc882⟩) ⟨rfl, rfl, rfl, rfl, trivial⟩
   refine Ak 2 3 S871 ?_
   refine Nt rfl (Cs g_aumbry_aumbrykeep_Copy_aumbry_api_Hash ((copyH_ok S871.le h2 (by omega)).mono ?_))
   rintro e w906 ⟨a901, c902, hc903, rfl, ho904, hB905⟩
   have S907 := S871.own hB905 ho904
   refine ⟨_, rfl, trivial, ?_⟩
   refine Nt rfl (Cs g_aumbry_aumbrykeep_CopyRows_byte ((copyRows_ok S907.le h3 (by omega) hx1000).mono ?_))
   rintro e w915 ⟨a908, c909, vs910, _, rfl, _, hc911, hv912, S913⟩
   have S914 : St w H H (.row 23 32 (.slice a901 p.length c902) p.length (hcells p) :: .row 5 1 (.slice a865 u.length c866) u.length (u.map bV) :: .blk b84 (.agg #[.int .i64 0, .slice none 0 0, .slice none 0 0, .slice none 0 0] : Value).cells 45 :: .blk b81 (.agg #[.int .i64 sn, .slice a1 u.length c1, .slice a2 p.length c2, .slice a3 B.length c3] : Value).cells 45 :: .row 26 1 (.slice a908 B.length c909) B.length vs910 :: (mrows 5 vs910 B ++ [])) w915 := S907.join S913
   refine ⟨_, rfl, trivial, ?_⟩
   refine Nt rfl (Fl 1 ?_)
   refine Nt rfl (Ad (hfit := by exact show 1 < 4 by decide) 3 1 S914 fun w916 S917 => ?_)
   have hE918 : (.agg #[.int .i64 sn, .slice a1 u.length c1, .slice a2 p.length c2, .slice a3 B.length c3] : Value).cells.setIfInBounds 1 (.slice a865 u.length c866) = (.agg #[.int .i64 sn, .slice a865 u.length c866, .slice a2 p.length c2, .slice a3 B.length c3] : Value).cells := rfl
   rw [hE918] at S917
   refine Nt rfl (Fl 2 ?_)
   refine Nt rfl (Ad (hfit := by exact show 2 < 4 by decide) 3 2 S917 fun w919 S920 => ?_)
   have hE921 : (.agg #[.int .i64 sn, .slice a865 u.length c866, .slice a2 p.length c2, .slice a3 B.length c3] : Value).cells.setIfInBounds 2 (.slice a901 p.length c902) = (.agg #[.int .i64 sn, .slice a865 u.length c866, .slice a901 p.length c902, .slice a3 B.length c3] : Value).cells := rfl
   rw [hE921] at S920
   refine Nt rfl (Fl 3 ?_)
   refine Nt rfl (Ad (hfit := by exact show 3 < 4 by decide) 3 3 S920 fun w922 S923 => ?_)
   have hE924 : (.agg #[.int .i64 sn, .slice a865 u.length c866, .slice a901 p.length c902, .slice a3 B.length c3] : Value).cells.setIfInBounds 3 (.slice a908 B.length c909) = (.agg #[.int .i64 sn, .slice a865 u.length c866, .slice a901 p.length c902, .slice a908 B.length c909] : Value).cells := rfl
   rw [hE924] at S923
   refine T_nil (TT_done ?_)
   have S925 := S923.swap12
   have S926 := S925.swap01
   have S927 := S926.swap23
   have S928 := S927.swap12
   have S929 := S928.swap23
   exact Ws (J128 _ _ ⟨_, _, _, _, _, _, _, H, rfl, (Hp.le.refl _), S929, hc867, hc903, hv912, (rfl : B.length = _), hc911⟩) ⟨rfl, rfl, rfl, rfl, trivial⟩
  refine Ak 1 3 S799 ?_
  refine Nt rfl (Cs g_aumbry_aumbrykeep_Copy_byte ((copyB_ok S799.le h1 (by omega)).mono ?_))
  rintro e w935 ⟨a930, c931, hc932, rfl, ho933, hB934⟩
  have S936 := S799.own hB934 ho933
  refine ⟨_, rfl, trivial, ?_⟩
  refine Nt rfl (Cs g_aumbry_aumbrykeep_Copy_aumbry_api_Hash ((copyH_ok S936.le h2 (by omega)).mono ?_))
  rintro e w942 ⟨a937, c938, hc939, rfl, ho940, hB941⟩
  have S943 := S936.own hB941 ho940
  refine ⟨_, rfl, trivial, ?_⟩
  refine Nt rfl (Cs g_aumbry_aumbrykeep_CopyRows_byte ((copyRows_ok S943.le h3 (by omega) hx1000).mono ?_))
  rintro e w951 ⟨a944, c945, vs946, _, rfl, _, hc947, hv948, S949⟩
  have S950 : St w H H (.row 23 32 (.slice a937 p.length c938) p.length (hcells p) :: .row 5 1 (.slice a930 u.length c931) u.length (u.map bV) :: .blk b84 (.agg #[.int .i64 0, .slice none 0 0, .slice none 0 0, .slice none 0 0] : Value).cells 45 :: .blk b81 (.agg #[.int .i64 sn, .slice a1 u.length c1, .slice a2 p.length c2, .slice a3 B.length c3] : Value).cells 45 :: .row 26 1 (.slice a944 B.length c945) B.length vs946 :: (mrows 5 vs946 B ++ [])) w951 := S943.join S949
  refine ⟨_, rfl, trivial, ?_⟩
  refine Nt rfl (Fl 1 ?_)
  refine Nt rfl (Ad (hfit := by exact show 1 < 4 by decide) 3 1 S950 fun w952 S953 => ?_)
  have hE954 : (.agg #[.int .i64 sn, .slice a1 u.length c1, .slice a2 p.length c2, .slice a3 B.length c3] : Value).cells.setIfInBounds 1 (.slice a930 u.length c931) = (.agg #[.int .i64 sn, .slice a930 u.length c931, .slice a2 p.length c2, .slice a3 B.length c3] : Value).cells := rfl
  rw [hE954] at S953
  refine Nt rfl (Fl 2 ?_)
  refine Nt rfl (Ad (hfit := by exact show 2 < 4 by decide) 3 2 S953 fun w955 S956 => ?_)
  have hE957 : (.agg #[.int .i64 sn, .slice a930 u.length c931, .slice a2 p.length c2, .slice a3 B.length c3] : Value).cells.setIfInBounds 2 (.slice a937 p.length c938) = (.agg #[.int .i64 sn, .slice a930 u.length c931, .slice a937 p.length c938, .slice a3 B.length c3] : Value).cells := rfl
  rw [hE957] at S956
  refine Nt rfl (Fl 3 ?_)
  refine Nt rfl (Ad (hfit := by exact show 3 < 4 by decide) 3 3 S956 fun w958 S959 => ?_)
  have hE960 : (.agg #[.int .i64 sn, .slice a930 u.length c931, .slice a937 p.length c938, .slice a3 B.length c3] : Value).cells.setIfInBounds 3 (.slice a944 B.length c945) = (.agg #[.int .i64 sn, .slice a930 u.length c931, .slice a937 p.length c938, .slice a944 B.length c945] : Value).cells := rfl
  rw [hE960] at S959
  refine T_nil (TT_done ?_)
  have S961 := S959.swap12
  have S962 := S961.swap01
  have S963 := S962.swap23
  have S964 := S963.swap12
  have S965 := S964.swap23
  exact Ws (J128 _ _ ⟨_, _, _, _, _, _, _, H, rfl, (Hp.le.refl _), S965, hc932, hc939, hv948, (rfl : B.length = _), hc947⟩) ⟨rfl, rfl, rfl, rfl, trivial⟩
 refine Ak 1 3 S799 (T_nil ?_)
 refine TT_fork rfl rfl ?_ ?_
 ·refine Cs g_aumbry_aumbrykeep_Copy_byte ((copyB_ok S799.le h1 (by omega)).mono ?_)
  rintro e w971 ⟨a966, c967, hc968, rfl, ho969, hB970⟩
  have S972 := S799.own hB970 ho969
  refine ⟨_, rfl, trivial, ?_⟩
  refine Nt rfl (Ak 2 2 S972 ?_)
  refine Nt rfl (Cs g_aumbry_aumbrykeep_Copy_aumbry_api_Hash ((copyH_ok S972.le h2 (by omega)).mono ?_))
  rintro e w978 ⟨a973, c974, hc975, rfl, ho976, hB977⟩
  have S979 := S972.own hB977 ho976
  refine ⟨_, rfl, trivial, ?_⟩
  refine Nt rfl (Cs g_aumbry_aumbrykeep_CopyRows_byte ((copyRows_ok S979.le h3 (by omega) hx1000).mono ?_))
  rintro e w987 ⟨a980, c981, vs982, _, rfl, _, hc983, hv984, S985⟩
  have S986 : St w H H (.row 23 32 (.slice a973 p.length c974) p.length (hcells p) :: .row 5 1 (.slice a966 u.length c967) u.length (u.map bV) :: .blk b84 (.agg #[.int .i64 0, .slice none 0 0, .slice none 0 0, .slice none 0 0] : Value).cells 45 :: .blk b81 (.agg #[.int .i64 sn, .slice a1 u.length c1, .slice a2 p.length c2, .slice a3 B.length c3] : Value).cells 45 :: .row 26 1 (.slice a980 B.length c981) B.length vs982 :: (mrows 5 vs982 B ++ [])) w987 := S979.join S985
  refine ⟨_, rfl, trivial, ?_⟩
  refine Nt rfl (Fl 1 ?_)
  refine Nt rfl (Ad (hfit := by exact show 1 < 4 by decide) 3 1 S986 fun w988 S989 => ?_)
  have hE990 : (.agg #[.int .i64 sn, .slice a1 u.length c1, .slice a2 p.length c2, .slice a3 B.length c3] : Value).cells.setIfInBounds 1 (.slice a966 u.length c967) = (.agg #[.int .i64 sn, .slice a966 u.length c967, .slice a2 p.length c2, .slice a3 B.length c3] : Value).cells := rfl
  rw [hE990] at S989
  refine Nt rfl (Fl 2 ?_)
  refine Nt rfl (Ad (hfit := by exact show 2 < 4 by decide) 3 2 S989 fun w991 S992 => ?_)
  have hE993 : (.agg #[.int .i64 sn, .slice a966 u.length c967, .slice a2 p.length c2, .slice a3 B.length c3] : Value).cells.setIfInBounds 2 (.slice a973 p.length c974) = (.agg #[.int .i64 sn, .slice a966 u.length c967, .slice a973 p.length c974, .slice a3 B.length c3] : Value).cells := rfl
  rw [hE993] at S992
  refine Nt rfl (Fl 3 ?_)
  refine Nt rfl (Ad (hfit := by exact show 3 < 4 by decide) 3 3 S992 fun w994 S995 => ?_)
  have hE996 : (.agg #[.int .i64 sn, .slice a966 u.length c967, .slice a973 p.length c974, .slice a3 B.length c3] : Value).cells.setIfInBounds 3 (.slice a980 B.length c981) = (.agg #[.int .i64 sn, .slice a966 u.length c967, .slice a973 p.length c974, .slice a980 B.length c981] : Value).cells := rfl
  rw [hE996] at S995
  refine T_nil (TT_done ?_)
  have S997 := S995.swap12
  have S998 := S997.swap01
  have S999 := S998.swap23
  have S1000 := S999.swap12
  have S1001 := S1000.swap23
  exact Ws (J128 _ _ ⟨_, _, _, _, _, _, _, H, rfl, (Hp.le.refl _), S1001, hc968, hc975, hv984, (rfl : B.length = _), hc983⟩) ⟨rfl, rfl, rfl, rfl, trivial⟩
 refine Ak 1 2 S799 ?_
 refine Nt rfl (Cs g_aumbry_aumbrykeep_Copy_byte ((copyB_ok S799.le h1 (by omega)).mono ?_))
 rintro e w1007 ⟨a1002, c1003, hc1004, rfl, ho1005, hB1006⟩
 have S1008 := S799.own hB1006 ho1005
 refine ⟨_, rfl, trivial, ?_⟩
 refine Nt rfl (Cs g_aumbry_aumbrykeep_Copy_aumbry_api_Hash ((copyH_ok S1008.le h2 (by omega)).mono ?_))
 rintro e w1014 ⟨a1009, c1010, hc1011, rfl, ho1012, hB1013⟩
 have S1015 := S1008.own hB1013 ho1012
 refine ⟨_, rfl, trivial, ?_⟩
 refine Nt rfl (Cs g_aumbry_aumbrykeep_CopyRows_byte ((copyRows_ok S1015.le h3 (by omega) hx1000).mono ?_))
 rintro e w1023 ⟨a1016, c1017, vs1018, _, rfl, _, hc1019, hv1020, S1021⟩
 have S1022 : St w H H (.row 23 32 (.slice a1009 p.length c1010) p.length (hcells p) :: .row 5 1 (.slice a1002 u.length c1003) u.length (u.map bV) :: .blk b84 (.agg #[.int .i64 0, .slice none 0 0, .slice none 0 0, .slice none 0 0] : Value).cells 45 :: .blk b81 (.agg #[.int .i64 sn, .slice a1 u.length c1, .slice a2 p.length c2, .slice a3 B.length c3] : Value).cells 45 :: .row 26 1 (.slice a1016 B.length c1017) B.length vs1018 :: (mrows 5 vs1018 B ++ [])) w1023 := S1015.join S1021
 refine ⟨_, rfl, trivial, ?_⟩
 refine Nt rfl (Fl 1 ?_)
 refine Nt rfl (Ad (hfit := by exact show 1 < 4 by decide) 3 1 S1022 fun w1024 S1025 => ?_)
 have hE1026 : (.agg #[.int .i64 sn, .slice a1 u.length c1, .slice a2 p.length c2, .slice a3 B.length c3] : Value).cells.setIfInBounds 1 (.slice a1002 u.length c1003) = (.agg #[.int .i64 sn, .slice a1002 u.length c1003, .slice a2 p.length c2, .slice a3 B.length c3] : Value).cells := rfl
 rw [hE1026] at S1025
 refine Nt rfl (Fl 2 ?_)
 refine Nt rfl (Ad (hfit := by exact show 2 < 4 by decide) 3 2 S1025 fun w1027 S1028 => ?_)
 have hE1029 : (.agg #[.int .i64 sn, .slice a1002 u.length c1003, .slice a2 p.length c2, .slice a3 B.length c3] : Value).cells.setIfInBounds 2 (.slice a1009 p.length c1010) = (.agg #[.int .i64 sn, .slice a1002 u.length c1003, .slice a1009 p.length c1010, .slice a3 B.length c3] : Value).cells := rfl
 rw [hE1029] at S1028
 refine Nt rfl (Fl 3 ?_)
 refine Nt rfl (Ad (hfit := by exact show 3 < 4 by decide) 3 3 S1028 fun w1030 S1031 => ?_)
 have hE1032 : (.agg #[.int .i64 sn, .slice a1002 u.length c1003, .slice a1009 p.length c1010, .slice a3 B.length c3] : Value).cells.setIfInBounds 3 (.slice a1016 B.length c1017) = (.agg #[.int .i64 sn, .slice a1002 u.length c1003, .slice a1009 p.length c1010, .slice a1016 B.length c1017] : Value).cells := rfl
 rw [hE1032] at S1031
 refine T_nil (TT_done ?_)
 have S1033 := S1031.swap12
 have S1034 := S1033.swap01
 have S1035 := S1034.swap23
 have S1036 := S1035.swap12
 have S1037 := S1036.swap23
 exact Ws (J128 _ _ ⟨_, _, _, _, _, _, _, H, rfl, (Hp.le.refl _), S1037, hc1004, hc1011, hv1020, (rfl : B.length = _), hc1019⟩) ⟨rfl, rfl, rfl, rfl, trivial⟩

end Go.Proofs.YtmjmjjkigblbgaaDoor
