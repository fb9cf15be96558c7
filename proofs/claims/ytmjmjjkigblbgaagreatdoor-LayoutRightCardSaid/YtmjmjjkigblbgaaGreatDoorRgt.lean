/- Walks of the program's functions. -/
import Derived.Test.YtmjmjjkigblbgaaGreatDoorTur
import Derived.Test.YtmjmjjkigblbgaaGreatDoorLayZ
import Derived.Test.YtmjmjjkigblbgaaGreatDoorAuDoor
import Derived.Test.YtmjmjjkigblbgaaGreatDoorAuBack
set_option linter.unusedVariables false
set_option linter.unusedSimpArgs false
set_option maxRecDepth 8192
namespace Go.Proofs.YtmjmjjkigblbgaaGreatDoor
open Go Go.F Go.RowKit
open Go.Au

theorem copyBig_ok {H : Hp} {w : World} (hH : H.le (hw w)) {l : List UInt8} {aa0 : Option Addr} {nn0 cc0 : Nat} (hv : Rd H (.slice aa0 nn0 cc0) nn0 1 (l.map bV)) (hb : l.length ≤ 140737488351232) :
  Calls Tryz.prog 14 #[.slice aa0 nn0 cc0] w fun e w' => ∃ a c, l.length ≤ c ∧ e = .returned (.slice a l.length c) ∧ rowZ w' w.heap.size 5 1 (.slice a l.length c) l.length (l.map bV) ∧ Below w.heap.size w w' := by
 obtain rfl : nn0 = l.length := hv.lenB
 have hvcap : l.length ≤ cc0 := hv.capOf
 refine Aa Tryz.func14 Tryz.ntmps14 Tryz.results14 ?_
 have S0 := St.start w hH
 refine Wr (Pv (Nr ?_))
 refine Pv ?_
 have S1 := S0.nilRow 5 1
 refine Ai (h1 := by exact one_bV _) (hn' := by first | rfl | (simp; done) | (simp; omega) | omega) (hx' := by simp) (hbytes := by show _ * 1 ≤ _; omega) 0 l.length (l.map bV) S1 (hv.mono S1.le) fun a2 c3 w4 hc5 S6 => ?_
 refine Pv (T_nil (W_ret ?_))
 refine ⟨_, ⟨_, _, rfl, rfl, rfl⟩, ?_⟩
 exact ⟨_, _, hc5, rfl, S6.row 0 rfl, S6.below⟩


set_option maxHeartbeats 2000000 in
theorem layoutRight_ok {H : Hp} {w : World} (hH : H.le (hw w)) (hT : Tabs H) {key : List UInt8} (hky : key.length = 16) {l : List UInt8} {aa1 : Option Addr} {nn1 cc1 : Nat} (hv : Rd H (.slice aa1 nn1 cc1) nn1 1 (l.map bV)) (k0 n0 i0 w0 at0 : Int) (vb ob : Bool) (hlen : l.length ≤ 140737488351232) (hat : -9223372036854775808 ≤ at0 ∧ at0 ≤ 9223372036854775807) :
  Calls Tryz.prog 4 #[hV key, .slice aa1 nn1 cc1, .int .i64 k0, .int .i64 n0, .int .i64 i0, .int .i64 w0, .int .i64 at0, .bool vb, .bool ob] w fun e w' => e = .returned (.bool true) ∧ Below w.heap.size w w' := by
 obtain rfl : nn1 = l.length := hv.lenB
 have hvcap : l.length ≤ cc1 := hv.capOf
 obtain ⟨n, hn⟩ : ∃ z : Nat, 1 + n0 % 5 = (z : Int) := ⟨(1 + n0 % 5).toNat, by omega⟩
 have hn5 : 1 ≤ n ∧ n ≤ 5 := by omega
 have hk1 := Int.emod_nonneg k0 (show ((n : Nat) : Int) ≠ 0 by omega)
 have hk2 := Int.emod_lt_of_pos k0 (show 0 < ((n : Nat) : Int) by omega)
 obtain ⟨k, hk⟩ : ∃ z : Nat, 1 + k0 % ((n : Nat) : Int) = (z : Int) := ⟨(1 + k0 % ((n : Nat) : Int)).toNat, by omega⟩
 have hkn : 1 ≤ k ∧ k ≤ n := by omega
 obtain ⟨L, hL⟩ : ∃ L, (l.take 150).length + 1 = L := ⟨_, rfl⟩
 have hl150 : (l.take 150).length ≤ 150 := List.length_take_le _ _
 have hL1 : 1 ≤ L ∧ L ≤ 200 := by omega
 obtain ⟨M, hM⟩ : ∃ M, ((l ++ [(9 : UInt8)]).take 150).length + 1 = M := ⟨_, rfl⟩
 have hi1 := Int.emod_nonneg i0 (show ((n : Nat) : Int) ≠ 0 by omega)
 have hi2 := Int.emod_lt_of_pos i0 (show 0 < ((n : Nat) : Int) by omega)
 obtain ⟨i, hi⟩ : ∃ z : Nat, i0 % ((n : Nat) : Int) = (z : Int) := ⟨(i0 % ((n : Nat) : Int)).toNat, by omega⟩
 have hFP : FileP 1 ((k : Nat) : Int) ((n : Nat) : Int) ((L : Nat) : Int) [] := ⟨Or.inl rfl, ⟨by omega, by omega, by omega⟩, ⟨by omega, by omega⟩, rfl⟩
 refine enter9 _ Tryz.func4 rfl Tryz.ntmps4 Tryz.results4 rfl ?_
 have S0 := St.start w hH
 refine Wr (Ao S0 fun b81 w82 S83 => ?_)
 refine Pv (Nr ?_)
 refine An (hl := by exact hVs hky) 0 S83 ?_
 refine P3 ?_
 refine Cs g_aumbry_aumbrylaw14_made ((made_ok S83.le hky hv k0 n0 k n hn hk hL).mono ?_)
 rintro e w92 ⟨a84, c85, E86, ch87, rfl, hch89, r88, hE90, hB91⟩
 obtain ⟨G94, eG96⟩ : ∃ G, G = F.ext H w82.heap.size w92 := ⟨_, rfl⟩
 obtain ⟨hl95, S93⟩ := S83.ext hB91
 rw [← eG96] at hl95 S93 r88
 refine ⟨_, rfl, trivial, ?_⟩
 iterate 4 refine Pv ?_
 refine Af S93 fun b97 w98 S99 => ?_
 refine Ak (hl := by exact gV_size (L := [[.int .i64 1], key.map bV, (tagged [117, 101, 98] [(lay k n L E86 ch87)]).map bV, [.int .i64 ((k : Nat) : Int)], [.int .i64 ((n : Nat) : Int)], [.int .i64 ((L : Nat) : Int)], [.slice none 0 0]]) (shCp hky (tagged_len _ _)) rfl) (hl2 := by exact gV_size (L := [[.int .i64 1], key.map bV, (tagged [117, 101, 98] [(lay k n L E86 ch87)]).map bV, [.int .i64 ((k : Nat) : Int)], [.int .i64 ((n : Nat) : Int)], [.int .i64 ((L : Nat) : Int)], [.slice none 0 0]]) (shCp hky (tagged_len _ _)) rfl) (h1 := by exact gV_one (OneL.one rfl (OneL.arr (OneL.arr (OneL.one rfl (OneL.one rfl (OneL.one rfl (OneL.one rfl OneL.nil)))))))) 0 S99 fun w100 S101 => ?_
 refine P2 (T_nil ?_)
 refine W_j1 (fun ρ w' => ∃ (kd102 : Int) (ky103 fp104 : List UInt8) (a105 : Option Addr) (c106 : Nat) (G107 : Hp), ρ = [(1, .slice aa1 l.length cc1), (2, .int .i64 k0), (3, .int .i64 n0), (4, .int .i64 i0), (5, .int .i64 w0), (6, .int .i64 at0), (8, .bool ob), (9, .pointer (some ⟨b81, 0, none⟩)), (19, .pointer (some ⟨b97, 0, none⟩)), (20, .slice a84 n c85), (21, .int .i64 ((n : Nat) : Int))] ∧ G94.le G107 ∧ St w H G107 [.blk b97 (gV [[.int .i64 kd102], ky103.map bV, fp104.map bV, [.int .i64 ((k : Nat) : Int)], [.int .i64 ((n : Nat) : Int)], [.int .i64 ((L : Nat) : Int)], [.slice a105 0 c106]] : Value).cells 29, .blk b81 (hV key : Value).cells 23] w' ∧ ky103.length = 16 ∧ fp104.length = 32 ∧ Rd G107 (.slice a105 0 c106) 0 1 (([] : List UInt8).map bV)) ?_ (fun J111 => ?_)
 ·rintro ρ w110 ⟨kd102, ky103, fp104, a105, c106, G107, rfl, hl108, S109, hk112, hf113, hr114⟩
  refine W_j1 (fun ρ w' => ∃ (kd115 : Int) (ky116 fp117 : List UInt8) (a118 : Option Addr) (c119 : Nat) (G120 : Hp), ρ = [(4, .int .i64 i0), (5, .int .i64 w0), (6, .int .i64 at0), (19, .pointer (some ⟨b97, 0, none⟩)), (20, .slice a84 n c85), (21, .int .i64 ((n : Nat) : Int))] ∧ G107.le G120 ∧ St w H G120 [.blk b97 (gV [[.int .i64 kd115], ky116.map bV, fp117.map bV, [.int .i64 ((k : Nat) : Int)], [.int .i64 ((n : Nat) : Int)], [.int .i64 ((L : Nat) : Int)], [.slice a118 0 c119]] : Value).cells 29] w' ∧ ky116.length = 16 ∧ fp117.length = 32 ∧ Rd G120 (.slice a118 0 c119) 0 1 (([] : List UInt8).map bV)) ?_ (fun J124 => ?_)
  ·rintro ρ w123 ⟨kd115, ky116, fp117, a118, c119, G120, rfl, hl121, S122, hk125, hf126, hr127⟩
   refine Wr (P3 ?_)
   refine Cs g_aumbry_aumbrykeep_Within ((withinN_ok S122.le i0 ((n : Nat) : Int) (by omega)).mono ?_)
   rintro e w129 ⟨rfl, hB128⟩
   have S130 := S122.call hB128
   refine ⟨_, rfl, trivial, ?_⟩
   refine T_re (v' := .int .i64 ((i : Nat) : Int)) (congrArg (Value.int .i64) hi) ?_
   obtain ⟨f134, f135, f136, f137, r138, hs139⟩ := (r88.mono (hl108.trans hl121))
   refine Aj i r138 fun b131 o132 hc133 => ?_
   obtain ⟨a140, c141, a142, c143, a144, c145, e146, e147, e148, e149, r150, r151, r152⟩ := hs139 i (by omega)
   have hc153 : ∀ (j : Nat) (u : Value), (#[.int .i64 ((i : Nat) : Int), .slice a140 (lay k n L E86 ch87).length c141, .slice a142 (Go.Au.beside (rowP (lvs n E86)) i (lg (lvs n E86).length)).length c143, .slice a144 (blk E86 i).length c145] : Array Value)[j]? = some u → hcell G120 b131 (o132 + j) = some u := fun j u hu => hc133 j u (shrC_agg (fa := f134) (fb := f135) (fc := f136) (fd := f137) (by omega) j u (by rw [e146, e147, e148, e149]; exact hu))
   have r154 : Rd G120 (.slice a140 (lay k n L E86 ch87).length c141) (lay k n L E86 ch87).length 1 ((lay k n L E86 ch87).map bV) := r150
   have r155 : RdH G120 (.slice a142 (Go.Au.beside (rowP (lvs n E86)) i (lg (lvs n E86).length)).length c143) 32 (Go.Au.beside (rowP (lvs n E86)) i (lg (lvs n E86).length)) := r151
   have r156 : RdL G120 (.slice a144 (blk E86 i).length c145) (blk E86 i) := r152
   refine T_loadGA _ S130 hc153 rfl rfl rfl rfl rfl rfl rfl rfl (by first | rfl | simp [hVs, *]) ?_
   refine P2 ?_
   obtain ⟨hbd, _⟩ := made_read (k := k) (n := n) (L := L) (E := E86) (ch := ch87) (p := i) (u := (lay k n L E86 ch87)) (P := (Go.Au.beside (rowP (lvs n E86)) i (lg (lvs n E86).length))) (B := (blk E86 i)) (by omega) hL1 hch89 hE90 (by omega) rfl rfl rfl
   obtain ⟨hbu, hbp, hbh, hbb, hbx⟩ := hbd
   have hue := lay_ok (k := k) (n := n) (L := L) (E := E86) (ch := ch87) (by omega) (by omega) hch89
   have hup1 : 1 ≤ (lay k n L E86 ch87).length := UebOk_pos hue.1
   have hb1 : 1 ≤ (blk E86 i).length := blk_pos hL1.1 hE90 i
   have HT : ∀ x ∈ (blk E86 i), 1 ≤ x.length ∧ x.length ≤ 64 := fun x hx => ⟨blkE_pos (p := i) (by omega) hL1.1 hE90 (by omega) x hx, hbx x hx⟩
   refine Cs g_aumbry_aumbrylaw14_turned ((turned_ok S130.le ((i : Nat) : Int) r154 r155 r156 (by omega) (by omega) (by omega) (by omega) HT w0 at0 hat).mono ?_)
   rintro e w179 ⟨z157, U158, P159, B160, b161, b162, b163, d164, d165, d166, m167, m168, m169, rfl, r170, r171, r172, hz173, hu174, hp175, hb176, hx177, hB178⟩
   obtain ⟨G181, eG183⟩ : ∃ G, G = F.ext G120 w129.heap.size w179 := ⟨_, rfl⟩
   obtain ⟨hl182, S180⟩ := S130.ext hB178
   rw [← eG183] at hl182 S180 r170 r171 r172
   refine ⟨_, rfl, trivial, ?_⟩
   obtain rfl : m167 = U158.length := r170.lenB
   obtain rfl : m168 = P159.length := r171.len
   obtain rfl : m169 = B160.length := r172.len
   refine Af S180 fun b184 w185 S186 => ?_
   refine Ak (hl := by first | rfl | simp [hVs, *]) (hl2 := by first | rfl | simp [hVs, *]) (h1 := by exact one_all rfl) 0 S186 fun w187 S188 => (T_nil (W_seq ?_))
   have HX1 : ∀ x ∈ B160, x.length < 1000 := fun x h => Nat.lt_of_le_of_lt (hx177 x h) (by decide)
   refine W_region (An (hl := by exact gV_size (L := [[.int .i64 kd115], ky116.map bV, fp117.map bV, [.int .i64 ((k : Nat) : Int)], [.int .i64 ((n : Nat) : Int)], [.int .i64 ((L : Nat) : Int)], [.slice a118 0 c119]]) (shCp hk125 hf126) rfl) 1 S188 ?_)
   refine An (hl := by first | rfl | simp [hVs, *]) 0 S188 ?_
   refine Cs g_aumbry_layout_RightShare ((rightS_ok S188.le (hT.mono (hl95.trans (hl108.trans (hl121.trans hl182)))) kd115 ((k : Nat) : Int) ((n : Nat) : Int) ((L : Nat) : Int) hk125 hf126 (hr127.mono hl182) z157 r170 r171 r172 (by omega) (by omega) (by omega) HX1).mono ?_)
   rintro e w190 ⟨rfl, hB189⟩
   have S191 := S188.call hB189
   refine ⟨_, rfl, trivial, ?_⟩
   refine P3 ?_
   refine Af S191 fun b192 w193 S194 => ?_
   refine Ak (hl := by exact qV_sz (q_len (rsH4 _ _) (rsH5 _ _) rfl)) (hl2 := by exact qV_sz (q_len (rsH4 _ _) (rsH5 _ _) rfl)) (h1 := by exact qV_one) 0 S194 fun w195 S196 => ?_
   refine Pv (Nr ?_)
   refine An (hl := by exact gV_size (L := [[.int .i64 kd115], ky116.map bV, fp117.map bV, [.int .i64 ((k : Nat) : Int)], [.int .i64 ((n : Nat) : Int)], [.int .i64 ((L : Nat) : Int)], [.slice a118 0 c119]]) (shCp hk125 hf126) rfl) 2 S196 ?_
   refine An (hl := by first | rfl | simp [hVs, *]) 1 S196 ?_
   refine Cs g_aumbry_aumbryref13_RightShare ((rightSR_ok S196.le kd115 ((k : Nat) : Int) ((n : Nat) : Int) ((L : Nat) : Int) hk125 hf126 (hr127.mono hl182) z157 r170 r171 r172 (by omega) (by omega) (by omega) HX1).mono ?_)
   rintro e w198 ⟨rfl, hB197⟩
   have S199 := S196.call hB197
   refine ⟨_, rfl, trivial, ?_⟩
   refine P3 ?_
   refine Af S199 fun b200 w201 S202 => ?_
   refine Ak (hl := by exact qV_sz (q_len (rsH4 _ _) (rsH5 _ _) rfl)) (hl2 := by exact qV_sz (q_len (rsH4 _ _) (rsH5 _ _) rfl)) (h1 := by exact qV_one) 0 S202 fun w203 S204 => ?_
   refine Pv (Nr ?_)
   refine P2 ?_
   refine T_beq rfl rfl rfl rfl rfl rfl rfl (Pv ?_)
   refine T_bool 85 true rfl (decide_eq_true (by first | rfl | omega | exact ⟨rfl, rfl, rfl, rfl, rfl, rfl⟩)) ?_
   refine Ys ?_
   refine An (hl := by exact qV_sz (q_len (rsH4 _ _) (rsH5 _ _) rfl)) 1 S204 ?_
   refine Ys ?_
   refine An (hl := by exact qV_sz (q_len (rsH4 _ _) (rsH5 _ _) rfl)) 0 S204 ?_
   refine Ys ?_
   refine T_eqQ rfl rfl rfl rfl (by kernel_rfl) rfl rfl rfl rfl rfl rfl rfl rfl rfl rfl rfl rfl rfl rfl rfl rfl rfl rfl rfl (by kernel_rfl) (by kernel_rfl) rfl rfl rfl (rsH4 _ _) (rsH4 _ _) (rsH5 _ _) (rsH5 _ _) ?_
   refine P2 ?_
   refine T_bool 90 true rfl (decide_eq_true (by first | rfl | omega | exact ⟨rfl, rfl, rfl, rfl, rfl, rfl⟩)) ?_
   refine Ys ?_
   refine Cs g_aumbry_aumbrylaw14_wakes ((wakes_ok S204.le (hT.mono (hl95.trans (hl108.trans (hl121.trans hl182))))).mono ?_)
   rintro e w206 ⟨rfl, hB205⟩
   have S207 := S204.call hB205
   refine ⟨_, rfl, trivial, ?_⟩
   refine P2 (T_nil (W_ret ?_))
   refine ⟨_, ⟨_, _, rfl, rfl, rfl⟩, ?_⟩
   exact ⟨rfl, S207.below⟩
  refine W_seq (Wr (Pv (T_nil ?_)))
  refine W_cond rfl (fun h208 => ?_) (fun h208 => ?_)
  ·refine W_j1 (fun ρ w' => ∃ (b248 : Nat) (E237 : List (List (List UInt8))) (ch238 : List UInt8) (G255 : Hp), ρ = [(4, .int .i64 i0), (5, .int .i64 w0), (6, .int .i64 at0), (19, .pointer (some ⟨b97, 0, none⟩)), (20, .slice a84 n c85), (21, .int .i64 ((n : Nat) : Int)), (22, .pointer (some ⟨b248, 0, none⟩))] ∧ G107.le G255 ∧ St w H G255 [.blk b97 (gV [[.int .i64 kd102], ky103.map bV, fp104.map bV, [.int .i64 ((k : Nat) : Int)], [.int .i64 ((n : Nat) : Int)], [.int .i64 ((L : Nat) : Int)], [.slice a105 0 c106]] : Value).cells 29, .blk b248 (gV [[.int .i64 1], key.map bV, (tagged [117, 101, 98] [(lay k n M E237 ch238)]).map bV, [.int .i64 ((k : Nat) : Int)], [.int .i64 ((n : Nat) : Int)], [.int .i64 ((M : Nat) : Int)], [.slice none 0 0]] : Value).cells 29] w' ∧ Rd G255 (.slice none 0 0) 0 1 (([] : List UInt8).map bV)) ?_ (fun J259 => ?_)
   ·rintro ρ w258 ⟨b248, E237, ch238, G255, rfl, hl256, S257, r260⟩
    refine W_region (Fl 17 ?_)
    refine T_loadAS (hV (tagged [117, 101, 98] [(lay k n M E237 ch238)]) : Value).cells 1 S257 rfl rfl rfl rfl rfl rfl rfl rfl rfl (hVs (tagged_len _ _)) (gV_sub (shCp hky (tagged_len _ _)) 2 1 (c := (tagged [117, 101, 98] [(lay k n M E237 ch238)]).map bV) (flat1) rfl) (T_re (v' := hV (tagged [117, 101, 98] [(lay k n M E237 ch238)])) rfl (Fl 17 ?_))
    refine T_storeS 0 S257 (fun _ _ => trivial) rfl rfl rfl rfl rfl rfl rfl rfl (hVs (tagged_len _ _)) (by rw [show (hV (tagged [117, 101, 98] [(lay k n M E237 ch238)]) : Value).cells.size = 32 from hVs (tagged_len _ _), show (gV [[.int .i64 kd102], ky103.map bV, fp104.map bV, [.int .i64 ((k : Nat) : Int)], [.int .i64 ((n : Nat) : Int)], [.int .i64 ((L : Nat) : Int)], [.slice a105 0 c106]] : Value).cells.size = 53 from gV_size (L := [[.int .i64 kd102], ky103.map bV, fp104.map bV, [.int .i64 ((k : Nat) : Int)], [.int .i64 ((n : Nat) : Int)], [.int .i64 ((L : Nat) : Int)], [.slice a105 0 c106]]) (shCp hk112 hf113) rfl]; decide) (one_hA _) fun w261 S262 => ?_
    have S263 := S262.re 0 rfl (show _ = (gV [[.int .i64 kd102], ky103.map bV, (tagged [117, 101, 98] [(lay k n M E237 ch238)]).map bV, [.int .i64 ((k : Nat) : Int)], [.int .i64 ((n : Nat) : Int)], [.int .i64 ((L : Nat) : Int)], [.slice a105 0 c106]] : Value).cells from gV_put (shCp hk112 hf113) 2 1 [(tagged [117, 101, 98] [(lay k n M E237 ch238)]).map bV] (c := (hV (tagged [117, 101, 98] [(lay k n M E237 ch238)]) : Value).cells.toList) flat1 (Eq.symm (hVs (tagged_len _ _))) rfl)
    refine T_nil ?_
    have S264 := S263.drop 1
    exact Ws (J124 _ _ ⟨_, _, _, _, _, G255, rfl, hl256, S264, hk112, (tagged_len _ _), (hr114.mono hl256)⟩)
   refine W_seq ?_
   obtain ⟨G266, hl267, S265, r268⟩ := S109.stillBlk 1 rfl
   refine W_tree (planF Tryz.prog G266 [47]) (.step 0 (.step 1 (.step 5 (.step 6 (.fork3 2 3 12 (.fork 3 12 (.fork 4 12 (.fork 7 12 (.step 8 (.step 9 (.step 10 (.step 11 (.step 12 (.step 13 (.step 14 (.step 15 .done)))))))) (.step 7 (.step 8 (.step 9 (.step 10 (.step 11 (.step 13 (.step 14 (.step 15 .done))))))))) (.step 4 (.step 7 (.step 8 (.step 9 (.step 10 (.step 11 (.step 13 (.step 14 (.step 15 .done)))))))))) (.step 3 (.step 4 (.step 7 (.step 8 (.step 9 (.step 10 (.step 11 (.step 13 (.step 14 (.step 15 .done))))))))))) (.fork 2 12 (.fork 4 12 (.fork 7 12 (.step 8 (.step 9 (.step 10 (.step 11 (.step 12 (.step 13 (.step 14 (.step 15 .done)))))))) (.step 7 (.step 8 (.step 9 (.step 10 (.step 11 (.step 13 (.step 14 (.step 15 .done))))))))) (.step 4 (.step 7 (.step 8 (.step 9 (.step 10 (.step 11 (.step 13 (.step 14 (.step 15 .done)))))))))) (.step 2 (.step 4 (.step 7 (.step 8 (.step 9 (.step 10 (.step 11 (.step 13 (.step 14 (.step 15 .done))))))))))) (.fork 2 3 (.step 3 (.step 4 (.step 7 (.step 8 (.step 9 (.step 10 (.step 11 (.step 13 (.step 14 (.step 15 .done)))))))))) (.step 2 (.step 4 (.step 7 (.step 8 (.step 9 (.step 10 (.step 11 (.step 13 (.step 14 (.step 15 .done)))))))))))))))) rfl (by kernel_rfl) S265.le ?_
   have S269 := S265.drew
   refine TT_step rfl (T_loadGAP _ (fun _ h => h) (still_cells r268) rfl rfl rfl rfl rfl rfl rfl rfl (hVs hky) ?_)
   iterate 3 (refine T_nil ?_; refine TT_step rfl ?_; refine Pv ?_)
   refine T_nil (TT_fork3 rfl rfl rfl ?_ ?_ ?_)
   ·refine Cs g_aumbry_aumbrykeep_Copy_byte ((copyBig_ok S269.le (hv.mono (hl95.trans (hl108.trans hl267))) (by omega)).mono ?_)
    rintro e w275 ⟨a270, c271, hc272, rfl, ho273, hB274⟩
    have S276 := S269.own hB274 ho273
    refine ⟨_, rfl, (((Hp.le.refl _)).trans S276.le), ?_⟩
    refine T_nil (TT_fork rfl rfl ?_ ?_)
    ·refine Ah (hone := by simp [Value.cells]; rfl) ([(9 : UInt8)].map bV) fun a277 w278 hB279 ho280 => ?_
     have S281 := S276.own hB279 ho280
     refine ⟨(((Hp.le.refl _)).trans S281.le), ?_⟩
     refine T_nil (TT_fork rfl rfl ?_ ?_)
     ·refine Ai (hC := fun _ h => ((Hp.le.refl _)).trans h) (h1 := by exact one_bV _) (hn' := by first | rfl | (simp; done) | (simp; omega) | omega) (hx' := by simp) (h63 := by unfold maxLen; simp only [List.length_append, List.length_cons, List.length_nil]; omega) (hbytes := by show _ * 1 ≤ _; simp only [List.length_append, List.length_cons, List.length_nil]; omega) 1 ((l ++ [(9 : UInt8)]).length) ((l ++ [(9 : UInt8)]).map bV) S281 (S281.rd 0 rfl) fun a282 c283 w284 hc285 S286 => (T_nil ?_)
      refine TT_fork rfl rfl ?_ ?_
      ·obtain ⟨G288, hl289, S287, r290⟩ := S286.stillRow 1 rfl
       refine Cs g_aumbry_aumbrylaw14_made ((made_ok S287.le hky r290 k0 n0 k n hn hk hM).mono ?_)
       rintro e w299 ⟨a291, c292, E293, ch294, rfl, hch296, r295, hE297, hB298⟩
       obtain ⟨G301, eG303⟩ : ∃ G, G = F.ext G288 w284.heap.size w299 := ⟨_, rfl⟩
       obtain ⟨hl302, S300⟩ := S287.ext hB298
       rw [← eG303] at hl302 S300 r295
       refine ⟨_, rfl, (((hl289.trans hl302)).trans S300.le), ?_⟩
       iterate 4 (refine T_nil ?_; refine TT_step rfl ?_; refine Pv ?_)
       refine Nt rfl (Af (hC := fun _ h => ((hl289.trans hl302)).trans h) S300 fun b304 w305 S306 => ?_)
       refine Nt rfl (Ak (hC := fun _ h => ((hl289.trans hl302)).trans h) (hl := by exact gV_size (L := [[.int .i64 1], key.map bV, (tagged [117, 101, 98] [(lay k n M E293 ch294)]).map bV, [.int .i64 ((k : Nat) : Int)], [.int .i64 ((n : Nat) : Int)], [.int .i64 ((M : Nat) : Int)], [.slice none 0 0]]) (shCp hky (tagged_len _ _)) rfl) (hl2 := by exact gV_size (L := [[.int .i64 1], key.map bV, (tagged [117, 101, 98] [(lay k n M E293 ch294)]).map bV, [.int .i64 ((k : Nat) : Int)], [.int .i64 ((n : Nat) : Int)], [.int .i64 ((M : Nat) : Int)], [.slice none 0 0]]) (shCp hky (tagged_len _ _)) rfl) (h1 := by exact gV_one (OneL.one rfl (OneL.arr (OneL.arr (OneL.one rfl (OneL.one rfl (OneL.one rfl (OneL.one rfl OneL.nil)))))))) 0 S306 fun w307 S308 => ?_)
       iterate 2 (refine T_nil ?_; refine TT_step rfl ?_; refine Pv ?_)
       refine T_nil (TT_done ?_)
       have S309 := S308.drop 1
       have S310 := S309.swap01
       exact Ws (J259 _ _ ⟨_, _, _, G301, rfl, (hl267.trans (hl289.trans hl302)), S310, (nilB _)⟩)
      refine Af (hC := fun _ h => ((Hp.le.refl _)).trans h) S286 fun b311 w312 S313 => ?_
      refine Nt rfl ?_
      obtain ⟨G315, hl316, S314, r317⟩ := S313.stillRow 2 rfl
      refine Cs g_aumbry_aumbrylaw14_made ((made_ok S314.le hky r317 k0 n0 k n hn hk hM).mono ?_)
      rintro e w326 ⟨a318, c319, E320, ch321, rfl, hch323, r322, hE324, hB325⟩
      obtain ⟨G328, eG330⟩ : ∃ G, G = F.ext G315 w312.heap.size w326 := ⟨_, rfl⟩
      obtain ⟨hl329, S327⟩ := S314.ext hB325
      rw [← eG330] at hl329 S327 r322
      refine ⟨_, rfl, (((hl316.trans hl329)).trans S327.le), ?_⟩
      iterate 4 (refine T_nil ?_; refine TT_step rfl ?_; refine Pv ?_)
      refine Nt rfl (Ak (hC := fun _ h => ((hl316.trans hl329)).trans h) (hl := by exact gV_size (L := [[.int .i64 1], key.map bV, (tagged [117, 101, 98] [(lay k n M E320 ch321)]).map bV, [.int .i64 ((k : Nat) : Int)], [.int .i64 ((n : Nat) : Int)], [.int .i64 ((M : Nat) : Int)], [.slice none 0 0]]) (shCp hky (tagged_len _ _)) rfl) (hl2 := by exact gV_size (L := [[.int .i64 1], key.map bV, (tagged [117, 101, 98] [(lay k n M E320 ch321)]).map bV, [.int .i64 ((k : Nat) : Int)], [.int .i64 ((n : Nat) : Int)], [.int .i64 ((M : Nat) : Int)], [.slice none 0 0]]) (shCp hky (tagged_len _ _)) rfl) (h1 := by exact gV_one (OneL.one rfl (OneL.arr (OneL.arr (OneL.one rfl (OneL.one rfl (OneL.one rfl (OneL.one rfl OneL.nil)))))))) 0 S327 fun w331 S332 => ?_)
      iterate 2 (refine T_nil ?_; refine TT_step rfl ?_; refine Pv ?_)
      refine T_nil (TT_done ?_)
      have S333 := S332.drop 1
      have S334 := S333.swap01
      exact Ws (J259 _ _ ⟨_, _, _, G328, rfl, (hl267.trans (hl316.trans hl329)), S334, (nilB _)⟩)
     refine Af (hC := fun _ h => ((Hp.le.refl _)).trans h) S281 fun b335 w336 S337 => ?_
     refine Nt rfl (Ai (hC := fun _ h => ((Hp.le.refl _)).trans h) (h1 := by exact one_bV _) (hn' := by first | rfl | (simp; done) | (simp; omega) | omega) (hx' := by simp) (h63 := by unfold maxLen; simp only [List.length_append, List.length_cons, List.length_nil]; omega) (hbytes := by show _ * 1 ≤ _; simp only [List.length_append, List.length_cons, List.length_nil]; omega) 2 ((l ++ [(9 : UInt8)]).length) ((l ++ [(9 : UInt8)]).map bV) S337 (S337.rd 1 rfl) fun a338 c339 w340 hc341 S342 => ?_)
     refine Nt rfl ?_
     obtain ⟨G344, hl345, S343, r346⟩ := S342.stillRow 2 rfl
     refine Cs g_aumbry_aumbrylaw14_made ((made_ok S343.le hky r346 k0 n0 k n hn hk hM).mono ?_)
     rintro e w355 ⟨a347, c348, E349, ch350, rfl, hch352, r351, hE353, hB354⟩
     obtain ⟨G357, eG359⟩ : ∃ G, G = F.ext G344 w340.heap.size w355 := ⟨_, rfl⟩
     obtain ⟨hl358, S356⟩ := S343.ext hB354
     rw [← eG359] at hl358 S356 r351
     refine ⟨_, rfl, (((hl345.trans hl358)).trans S356.le), ?_⟩
     iterate 4 (refine T_nil ?_; refine TT_step rfl ?_; refine Pv ?_)
     refine Nt rfl (Ak (hC := fun _ h => ((hl345.trans hl358)).trans h) (hl := by exact gV_size (L := [[.int .i64 1], key.map bV, (tagged [117, 101, 98] [(lay k n M E349 ch350)]).map bV, [.int .i64 ((k : Nat) : Int)], [.int .i64 ((n : Nat) : Int)], [.int .i64 ((M : Nat) : Int)], [.slice none 0 0]]) (shCp hky (tagged_len _ _)) rfl) (hl2 := by exact gV_size (L := [[.int .i64 1], key.map bV, (tagged [117, 101, 98] [(lay k n M E349 ch350)]).map bV, [.int .i64 ((k : Nat) : Int)], [.int .i64 ((n : Nat) : Int)], [.int .i64 ((M : Nat) : Int)], [.slice none 0 0]]) (shCp hky (tagged_len _ _)) rfl) (h1 := by exact gV_one (OneL.one rfl (OneL.arr (OneL.arr (OneL.one rfl (OneL.one rfl (OneL.one rfl (OneL.one rfl OneL.nil)))))))) 0 S356 fun w360 S361 => ?_)
     iterate 2 (refine T_nil ?_; refine TT_step rfl ?_; refine Pv ?_)
     refine T_nil (TT_done ?_)
     have S362 := S361.drop 1
     have S363 := S362.swap01
     exact Ws (J259 _ _ ⟨_, _, _, G357, rfl, (hl267.trans (hl345.trans hl358)), S363, (nilB _)⟩)
    refine Af (hC := fun _ h => ((Hp.le.refl _)).trans h) S276 fun b364 w365 S366 => ?_
    refine Nt rfl (Ah (hone := by simp [Value.cells]; rfl) ([(9 : UInt8)].map bV) fun a367 w368 hB369 ho370 => ?_)
    have S371 := S366.own hB369 ho370
    refine ⟨(((Hp.le.refl _)).trans S371.le), ?_⟩
    refine Nt rfl (Ai (hC := fun _ h => ((Hp.le.refl _)).trans h) (h1 := by exact one_bV _) (hn' := by first | rfl | (simp; done) | (simp; omega) | omega) (hx' := by simp) (h63 := by unfold maxLen; simp only [List.length_append, List.length_cons, List.length_nil]; omega) (hbytes := by show _ * 1 ≤ _; simp only [List.length_append, List.length_cons, List.length_nil]; omega) 2 ((l ++ [(9 : UInt8)]).length) ((l ++ [(9 : UInt8)]).map bV) S371 (S371.rd 0 rfl) fun a372 c373 w374 hc375 S376 => ?_)
    refine Nt rfl ?_
    obtain ⟨G378, hl379, S377, r380⟩ := S376.stillRow 2 rfl
    refine Cs g_aumbry_aumbrylaw14_made ((made_ok S377.le hky r380 k0 n0 k n hn hk hM).mono ?_)
    rintro e w389 ⟨a381, c382, E383, ch384, rfl, hch386, r385, hE387, hB388⟩
    obtain ⟨G391, eG393⟩ : ∃ G, G = F.ext G378 w374.heap.size w389 := ⟨_, rfl⟩
    obtain ⟨hl392, S390⟩ := S377.ext hB388
    rw [← eG393] at hl392 S390 r385
    refine ⟨_, rfl, (((hl379.trans hl392)).trans S390.le), ?_⟩
    iterate 4 (refine T_nil ?_; refine TT_step rfl ?_; refine Pv ?_)
    refine Nt rfl (Ak (hC := fun _ h => ((hl379.trans hl392)).trans h) (hl := by exact gV_size (L := [[.int .i64 1], key.map bV, (tagged [117, 101, 98] [(lay k n M E383 ch384)]).map bV, [.int .i64 ((k : Nat) : Int)], [.int .i64 ((n : Nat) : Int)], [.int .i64 ((M : Nat) : Int)], [.slice none 0 0]]) (shCp hky (tagged_len _ _)) rfl) (hl2 := by exact gV_size (L := [[.int .i64 1], key.map bV, (tagged [117, 101, 98] [(lay k n M E383 ch384)]).map bV, [.int .i64 ((k : Nat) : Int)], [.int .i64 ((n : Nat) : Int)], [.int .i64 ((M : Nat) : Int)], [.slice none 0 0]]) (shCp hky (tagged_len _ _)) rfl) (h1 := by exact gV_one (OneL.one rfl (OneL.arr (OneL.arr (OneL.one rfl (OneL.one rfl (OneL.one rfl (OneL.one rfl OneL.nil)))))))) 1 S390 fun w394 S395 => ?_)
    iterate 2 (refine T_nil ?_; refine TT_step rfl ?_; refine Pv ?_)
    refine T_nil (TT_done ?_)
    have S396 := S395.drop 0
    have S397 := S396.swap01
    exact Ws (J259 _ _ ⟨_, _, _, G391, rfl, (hl267.trans (hl379.trans hl392)), S397, (nilB _)⟩)
   ·refine Ah (hone := by simp [Value.cells]; rfl) ([(9 : UInt8)].map bV) fun a398 w399 hB400 ho401 => ?_
    have S402 := S269.own hB400 ho401
    refine ⟨(((Hp.le.refl _)).trans S402.le), ?_⟩
    refine T_nil (TT_fork rfl rfl ?_ ?_)
    ·refine Cs g_aumbry_aumbrykeep_Copy_byte ((copyBig_ok S402.le (hv.mono (hl95.trans (hl108.trans hl267))) (by omega)).mono ?_)
     rintro e w408 ⟨a403, c404, hc405, rfl, ho406, hB407⟩
     have S409 := S402.own hB407 ho406
     refine ⟨_, rfl, (((Hp.le.refl _)).trans S409.le), ?_⟩
     refine T_nil (TT_fork rfl rfl ?_ ?_)
     ·refine Ai (hC := fun _ h => ((Hp.le.refl _)).trans h) (h1 := by exact one_bV _) (hn' := by first | rfl | (simp; done) | (simp; omega) | omega) (hx' := by simp) (h63 := by unfold maxLen; simp only [List.length_append, List.length_cons, List.length_nil]; omega) (hbytes := by show _ * 1 ≤ _; simp only [List.length_append, List.length_cons, List.length_nil]; omega) 0 ((l ++ [(9 : UInt8)]).length) ((l ++ [(9 : UInt8)]).map bV) S409 (S409.rd 1 rfl) fun a410 c411 w412 hc413 S414 => (T_nil ?_)
      refine TT_fork rfl rfl ?_ ?_
      ·obtain ⟨G416, hl417, S415, r418⟩ := S414.stillRow 0 rfl
       refine Cs g_aumbry_aumbrylaw14_made ((made_ok S415.le hky r418 k0 n0 k n hn hk hM).mono ?_)
       rintro e w427 ⟨a419, c420, E421, ch422, rfl, hch424, r423, hE425, hB426⟩
       obtain ⟨G429, eG431⟩ : ∃ G, G = F.ext G416 w412.heap.size w427 := ⟨_, rfl⟩
       obtain ⟨hl430, S428⟩ := S415.ext hB426
       rw [← eG431] at hl430 S428 r423
       refine ⟨_, rfl, (((hl417.trans hl430)).trans S428.le), ?_⟩
       iterate 4 (refine T_nil ?_; refine TT_step rfl ?_; refine Pv ?_)
       refine Nt rfl (Af (hC := fun _ h => ((hl417.trans hl430)).trans h) S428 fun b432 w433 S434 => ?_)
       refine Nt rfl (Ak (hC := fun _ h => ((hl417.trans hl430)).trans h) (hl := by exact gV_size (L := [[.int .i64 1], key.map bV, (tagged [117, 101, 98] [(lay k n M E421 ch422)]).map bV, [.int .i64 ((k : Nat) : Int)], [.int .i64 ((n : Nat) : Int)], [.int .i64 ((M : Nat) : Int)], [.slice none 0 0]]) (shCp hky (tagged_len _ _)) rfl) (hl2 := by exact gV_size (L := [[.int .i64 1], key.map bV, (tagged [117, 101, 98] [(lay k n M E421 ch422)]).map bV, [.int .i64 ((k : Nat) : Int)], [.int .i64 ((n : Nat) : Int)], [.int .i64 ((M : Nat) : Int)], [.slice none 0 0]]) (shCp hky (tagged_len _ _)) rfl) (h1 := by exact gV_one (OneL.one rfl (OneL.arr (OneL.arr (OneL.one rfl (OneL.one rfl (OneL.one rfl (OneL.one rfl OneL.nil)))))))) 0 S434 fun w435 S436 => ?_)
       iterate 2 (refine T_nil ?_; refine TT_step rfl ?_; refine Pv ?_)
       refine T_nil (TT_done ?_)
       have S437 := S436.drop 1
       have S438 := S437.swap01
       exact Ws (J259 _ _ ⟨_, _, _, G429, rfl, (hl267.trans (hl417.trans hl430)), S438, (nilB _)⟩)
      refine Af (hC := fun _ h => ((Hp.le.refl _)).trans h) S414 fun b439 w440 S441 => ?_
      refine Nt rfl ?_
      obtain ⟨G443, hl444, S442, r445⟩ := S441.stillRow 1 rfl
      refine Cs g_aumbry_aumbrylaw14_made ((made_ok S442.le hky r445 k0 n0 k n hn hk hM).mono ?_)
      rintro e w454 ⟨a446, c447, E448, ch449, rfl, hch451, r450, hE452, hB453⟩
      obtain ⟨G456, eG458⟩ : ∃ G, G = F.ext G443 w440.heap.size w454 := ⟨_, rfl⟩
      obtain ⟨hl457, S455⟩ := S442.ext hB453
      rw [← eG458] at hl457 S455 r450
      refine ⟨_, rfl, (((hl444.trans hl457)).trans S455.le), ?_⟩
      iterate 4 (refine T_nil ?_; refine TT_step rfl ?_; refine Pv ?_)
      refine Nt rfl (Ak (hC := fun _ h => ((hl444.trans hl457)).trans h) (hl := by exact gV_size (L := [[.int .i64 1], key.map bV, (tagged [117, 101, 98] [(lay k n M E448 ch449)]).map bV, [.int .i64 ((k : Nat) : Int)], [.int .i64 ((n : Nat) : Int)], [.int .i64 ((M : Nat) : Int)], [.slice none 0 0]]) (shCp hky (tagged_len _ _)) rfl) (hl2 := by exact gV_size (L := [[.int .i64 1], key.map bV, (tagged [117, 101, 98] [(lay k n M E448 ch449)]).map bV, [.int .i64 ((k : Nat) : Int)], [.int .i64 ((n : Nat) : Int)], [.int .i64 ((M : Nat) : Int)], [.slice none 0 0]]) (shCp hky (tagged_len _ _)) rfl) (h1 := by exact gV_one (OneL.one rfl (OneL.arr (OneL.arr (OneL.one rfl (OneL.one rfl (OneL.one rfl (OneL.one rfl OneL.nil)))))))) 0 S455 fun w459 S460 => ?_)
      iterate 2 (refine T_nil ?_; refine TT_step rfl ?_; refine Pv ?_)
      refine T_nil (TT_done ?_)
      have S461 := S460.drop 1
      have S462 := S461.swap01
      exact Ws (J259 _ _ ⟨_, _, _, G456, rfl, (hl267.trans (hl444.trans hl457)), S462, (nilB _)⟩)
     refine Af (hC := fun _ h => ((Hp.le.refl _)).trans h) S409 fun b463 w464 S465 => ?_
     refine Nt rfl (Ai (hC := fun _ h => ((Hp.le.refl _)).trans h) (h1 := by exact one_bV _) (hn' := by first | rfl | (simp; done) | (simp; omega) | omega) (hx' := by simp) (h63 := by unfold maxLen; simp only [List.length_append, List.length_cons, List.length_nil]; omega) (hbytes := by show _ * 1 ≤ _; simp only [List.length_append, List.length_cons, List.length_nil]; omega) 1 ((l ++ [(9 : UInt8)]).length) ((l ++ [(9 : UInt8)]).map bV) S465 (S465.rd 2 rfl) fun a466 c467 w468 hc469 S470 => ?_)
     refine Nt rfl ?_
     obtain ⟨G472, hl473, S471, r474⟩ := S470.stillRow 1 rfl
     refine Cs g_aumbry_aumbrylaw14_made ((made_ok S471.le hky r474 k0 n0 k n hn hk hM).mono ?_)
     rintro e w483 ⟨a475, c476, E477, ch478, rfl, hch480, r479, hE481, hB482⟩
     obtain ⟨G485, eG487⟩ : ∃ G, G = F.ext G472 w468.heap.size w483 := ⟨_, rfl⟩
     obtain ⟨hl486, S484⟩ := S471.ext hB482
     rw [← eG487] at hl486 S484 r479
     refine ⟨_, rfl, (((hl473.trans hl486)).trans S484.le), ?_⟩
     iterate 4 (refine T_nil ?_; refine TT_step rfl ?_; refine Pv ?_)
     refine Nt rfl (Ak (hC := fun _ h => ((hl473.trans hl486)).trans h) (hl := by exact gV_size (L := [[.int .i64 1], key.map bV, (tagged [117, 101, 98] [(lay k n M E477 ch478)]).map bV, [.int .i64 ((k : Nat) : Int)], [.int .i64 ((n : Nat) : Int)], [.int .i64 ((M : Nat) : Int)], [.slice none 0 0]]) (shCp hky (tagged_len _ _)) rfl) (hl2 := by exact gV_size (L := [[.int .i64 1], key.map bV, (tagged [117, 101, 98] [(lay k n M E477 ch478)]).map bV, [.int .i64 ((k : Nat) : Int)], [.int .i64 ((n : Nat) : Int)], [.int .i64 ((M : Nat) : Int)], [.slice none 0 0]]) (shCp hky (tagged_len _ _)) rfl) (h1 := by exact gV_one (OneL.one rfl (OneL.arr (OneL.arr (OneL.one rfl (OneL.one rfl (OneL.one rfl (OneL.one rfl OneL.nil)))))))) 0 S484 fun w488 S489 => ?_)
     iterate 2 (refine T_nil ?_; refine TT_step rfl ?_; refine Pv ?_)
     refine T_nil (TT_done ?_)
     have S490 := S489.drop 1
     have S491 := S490.swap01
     exact Ws (J259 _ _ ⟨_, _, _, G485, rfl, (hl267.trans (hl473.trans hl486)), S491, (nilB _)⟩)
    refine Af (hC := fun _ h => ((Hp.le.refl _)).trans h) S402 fun b492 w493 S494 => ?_
    refine Nt rfl (Cs g_aumbry_aumbrykeep_Copy_byte ((copyBig_ok S494.le (hv.mono (hl95.trans (hl108.trans hl267))) (by omega)).mono ?_))
    rintro e w500 ⟨a495, c496, hc497, rfl, ho498, hB499⟩
    have S501 := S494.own hB499 ho498
    refine ⟨_, rfl, (((Hp.le.refl _)).trans S501.le), ?_⟩
    refine Nt rfl (Ai (hC := fun _ h => ((Hp.le.refl _)).trans h) (h1 := by exact one_bV _) (hn' := by first | rfl | (simp; done) | (simp; omega) | omega) (hx' := by simp) (h63 := by unfold maxLen; simp only [List.length_append, List.length_cons, List.length_nil]; omega) (hbytes := by show _ * 1 ≤ _; simp only [List.length_append, List.length_cons, List.length_nil]; omega) 0 ((l ++ [(9 : UInt8)]).length) ((l ++ [(9 : UInt8)]).map bV) S501 (S501.rd 2 rfl) fun a502 c503 w504 hc505 S506 => ?_)
    refine Nt rfl ?_
    obtain ⟨G508, hl509, S507, r510⟩ := S506.stillRow 0 rfl
    refine Cs g_aumbry_aumbrylaw14_made ((made_ok S507.le hky r510 k0 n0 k n hn hk hM).mono ?_)
    rintro e w519 ⟨a511, c512, E513, ch514, rfl, hch516, r515, hE517, hB518⟩
    obtain ⟨G521, eG523⟩ : ∃ G, G = F.ext G508 w504.heap.size w519 := ⟨_, rfl⟩
    obtain ⟨hl522, S520⟩ := S507.ext hB518
    rw [← eG523] at hl522 S520 r515
    refine ⟨_, rfl, (((hl509.trans hl522)).trans S520.le), ?_⟩
    iterate 4 (refine T_nil ?_; refine TT_step rfl ?_; refine Pv ?_)
    refine Nt rfl (Ak (hC := fun _ h => ((hl509.trans hl522)).trans h) (hl := by exact gV_size (L := [[.int .i64 1], key.map bV, (tagged [117, 101, 98] [(lay k n M E513 ch514)]).map bV, [.int .i64 ((k : Nat) : Int)], [.int .i64 ((n : Nat) : Int)], [.int .i64 ((M : Nat) : Int)], [.slice none 0 0]]) (shCp hky (tagged_len _ _)) rfl) (hl2 := by exact gV_size (L := [[.int .i64 1], key.map bV, (tagged [117, 101, 98] [(lay k n M E513 ch514)]).map bV, [.int .i64 ((k : Nat) : Int)], [.int .i64 ((n : Nat) : Int)], [.int .i64 ((M : Nat) : Int)], [.slice none 0 0]]) (shCp hky (tagged_len _ _)) rfl) (h1 := by exact gV_one (OneL.one rfl (OneL.arr (OneL.arr (OneL.one rfl (OneL.one rfl (OneL.one rfl (OneL.one rfl OneL.nil)))))))) 0 S520 fun w524 S525 => ?_)
    iterate 2 (refine T_nil ?_; refine TT_step rfl ?_; refine Pv ?_)
    refine T_nil (TT_done ?_)
    have S526 := S525.drop 1
    have S527 := S526.swap01
    exact Ws (J259 _ _ ⟨_, _, _, G521, rfl, (hl267.trans (hl509.trans hl522)), S527, (nilB _)⟩)
   refine Af (hC := fun _ h => ((Hp.le.refl _)).trans h) S269 fun b528 w529 S530 => (T_nil ?_)
   refine TT_fork rfl rfl ?_ ?_
   ·refine Cs g_aumbry_aumbrykeep_Copy_byte ((copyBig_ok S530.le (hv.mono (hl95.trans (hl108.trans hl267))) (by omega)).mono ?_)
    rintro e w536 ⟨a531, c532, hc533, rfl, ho534, hB535⟩
    have S537 := S530.own hB535 ho534
    refine ⟨_, rfl, (((Hp.le.refl _)).trans S537.le), ?_⟩
    refine Nt rfl (Ah (hone := by simp [Value.cells]; rfl) ([(9 : UInt8)].map bV) fun a538 w539 hB540 ho541 => ?_)
    have S542 := S537.own hB540 ho541
    refine ⟨(((Hp.le.refl _)).trans S542.le), ?_⟩
    refine Nt rfl (Ai (hC := fun _ h => ((Hp.le.refl _)).trans h) (h1 := by exact one_bV _) (hn' := by first | rfl | (simp; done) | (simp; omega) | omega) (hx' := by simp) (h63 := by unfold maxLen; simp only [List.length_append, List.length_cons, List.length_nil]; omega) (hbytes := by show _ * 1 ≤ _; simp only [List.length_append, List.length_cons, List.length_nil]; omega) 1 ((l ++ [(9 : UInt8)]).length) ((l ++ [(9 : UInt8)]).map bV) S542 (S542.rd 0 rfl) fun a543 c544 w545 hc546 S547 => ?_)
    refine Nt rfl ?_
    obtain ⟨G549, hl550, S548, r551⟩ := S547.stillRow 1 rfl
    refine Cs g_aumbry_aumbrylaw14_made ((made_ok S548.le hky r551 k0 n0 k n hn hk hM).mono ?_)
    rintro e w560 ⟨a552, c553, E554, ch555, rfl, hch557, r556, hE558, hB559⟩
    obtain ⟨G562, eG564⟩ : ∃ G, G = F.ext G549 w545.heap.size w560 := ⟨_, rfl⟩
    obtain ⟨hl563, S561⟩ := S548.ext hB559
    rw [← eG564] at hl563 S561 r556
    refine ⟨_, rfl, (((hl550.trans hl563)).trans S561.le), ?_⟩
    iterate 4 (refine T_nil ?_; refine TT_step rfl ?_; refine Pv ?_)
    refine Nt rfl (Ak (hC := fun _ h => ((hl550.trans hl563)).trans h) (hl := by exact gV_size (L := [[.int .i64 1], key.map bV, (tagged [117, 101, 98] [(lay k n M E554 ch555)]).map bV, [.int .i64 ((k : Nat) : Int)], [.int .i64 ((n : Nat) : Int)], [.int .i64 ((M : Nat) : Int)], [.slice none 0 0]]) (shCp hky (tagged_len _ _)) rfl) (hl2 := by exact gV_size (L := [[.int .i64 1], key.map bV, (tagged [117, 101, 98] [(lay k n M E554 ch555)]).map bV, [.int .i64 ((k : Nat) : Int)], [.int .i64 ((n : Nat) : Int)], [.int .i64 ((M : Nat) : Int)], [.slice none 0 0]]) (shCp hky (tagged_len _ _)) rfl) (h1 := by exact gV_one (OneL.one rfl (OneL.arr (OneL.arr (OneL.one rfl (OneL.one rfl (OneL.one rfl (OneL.one rfl OneL.nil)))))))) 1 S561 fun w565 S566 => ?_)
    iterate 2 (refine T_nil ?_; refine TT_step rfl ?_; refine Pv ?_)
    refine T_nil (TT_done ?_)
    have S567 := S566.drop 0
    have S568 := S567.swap01
    exact Ws (J259 _ _ ⟨_, _, _, G562, rfl, (hl267.trans (hl550.trans hl563)), S568, (nilB _)⟩)
   refine Ah (hone := by simp [Value.cells]; rfl) ([(9 : UInt8)].map bV) fun a569 w570 hB571 ho572 => ?_
   have S573 := S530.own hB571 ho572
   refine ⟨(((Hp.le.refl _)).trans S573.le), ?_⟩
   refine Nt rfl (Cs g_aumbry_aumbrykeep_Copy_byte ((copyBig_ok S573.le (hv.mono (hl95.trans (hl108.trans hl267))) (by omega)).mono ?_))
   rintro e w579 ⟨a574, c575, hc576, rfl, ho577, hB578⟩
   have S580 := S573.own hB578 ho577
   refine ⟨_, rfl, (((Hp.le.refl _)).trans S580.le), ?_⟩
   refine Nt rfl (Ai (hC := fun _ h => ((Hp.le.refl _)).trans h) (h1 := by exact one_bV _) (hn' := by first | rfl | (simp; done) | (simp; omega) | omega) (hx' := by simp) (h63 := by unfold maxLen; simp only [List.length_append, List.length_cons, List.length_nil]; omega) (hbytes := by show _ * 1 ≤ _; simp only [List.length_append, List.length_cons, List.length_nil]; omega) 0 ((l ++ [(9 : UInt8)]).length) ((l ++ [(9 : UInt8)]).map bV) S580 (S580.rd 1 rfl) fun a581 c582 w583 hc584 S585 => ?_)
   refine Nt rfl ?_
   obtain ⟨G587, hl588, S586, r589⟩ := S585.stillRow 0 rfl
   refine Cs g_aumbry_aumbrylaw14_made ((made_ok S586.le hky r589 k0 n0 k n hn hk hM).mono ?_)
   rintro e w598 ⟨a590, c591, E592, ch593, rfl, hch595, r594, hE596, hB597⟩
   obtain ⟨G600, eG602⟩ : ∃ G, G = F.ext G587 w583.heap.size w598 := ⟨_, rfl⟩
   obtain ⟨hl601, S599⟩ := S586.ext hB597
   rw [← eG602] at hl601 S599 r594
   refine ⟨_, rfl, (((hl588.trans hl601)).trans S599.le), ?_⟩
   iterate 4 (refine T_nil ?_; refine TT_step rfl ?_; refine Pv ?_)
   refine Nt rfl (Ak (hC := fun _ h => ((hl588.trans hl601)).trans h) (hl := by exact gV_size (L := [[.int .i64 1], key.map bV, (tagged [117, 101, 98] [(lay k n M E592 ch593)]).map bV, [.int .i64 ((k : Nat) : Int)], [.int .i64 ((n : Nat) : Int)], [.int .i64 ((M : Nat) : Int)], [.slice none 0 0]]) (shCp hky (tagged_len _ _)) rfl) (hl2 := by exact gV_size (L := [[.int .i64 1], key.map bV, (tagged [117, 101, 98] [(lay k n M E592 ch593)]).map bV, [.int .i64 ((k : Nat) : Int)], [.int .i64 ((n : Nat) : Int)], [.int .i64 ((M : Nat) : Int)], [.slice none 0 0]]) (shCp hky (tagged_len _ _)) rfl) (h1 := by exact gV_one (OneL.one rfl (OneL.arr (OneL.arr (OneL.one rfl (OneL.one rfl (OneL.one rfl (OneL.one rfl OneL.nil)))))))) 1 S599 fun w603 S604 => ?_)
   iterate 2 (refine T_nil ?_; refine TT_step rfl ?_; refine Pv ?_)
   refine T_nil (TT_done ?_)
   have S605 := S604.drop 0
   have S606 := S605.swap01
   exact Ws (J259 _ _ ⟨_, _, _, G600, rfl, (hl267.trans (hl588.trans hl601)), S606, (nilB _)⟩)
  refine W_skip ?_
  have S607 := S109.drop 1
  exact Ws (J124 _ _ ⟨_, _, _, _, _, G107, rfl, (Hp.le.refl _), S607, hk112, hf113, hr114⟩)
 refine W_seq (Wr (Pv (T_nil ?_)))
 refine W_cond rfl (fun h608 => ?_) (fun h608 => ?_)
 ·refine W_region (An (hl := by exact gV_size (L := [[.int .i64 1], key.map bV, (tagged [117, 101, 98] [(lay k n L E86 ch87)]).map bV, [.int .i64 ((k : Nat) : Int)], [.int .i64 ((n : Nat) : Int)], [.int .i64 ((L : Nat) : Int)], [.slice none 0 0]]) (shCp hky (tagged_len _ _)) rfl) 0 S101 ?_)
  refine T_callS rfl rfl g_aumbry_aumbryref13_VerifyOnly rfl rfl rfl rfl ((verifyOnlyR_ok S101.le (1 : Int) ((k : Nat) : Int) ((n : Nat) : Int) ((L : Nat) : Int) hky (tagged_len _ _) (nilB _) rfl hFP (by decide)).mono ?_)
  rintro e w615 ⟨a609, c610, ky611, hk612, rfl, r613, hB614⟩
  obtain ⟨G617, eG619⟩ : ∃ G, G = F.ext G94 w100.heap.size w615 := ⟨_, rfl⟩
  obtain ⟨hl618, S616⟩ := S101.ext hB614
  rw [← eG619] at hl618 S616 r613
  refine ⟨_, rfl, trivial, ?_⟩
  refine P3 ?_
  refine Ak (hl := by exact gV_size (L := [[.int .i64 2], ky611.map bV, (tagged [117, 101, 98] [(lay k n L E86 ch87)]).map bV, [.int .i64 ((k : Nat) : Int)], [.int .i64 ((n : Nat) : Int)], [.int .i64 ((L : Nat) : Int)], [.slice a609 ([] : List UInt8).length c610]]) (shCp hk612 (tagged_len _ _)) rfl) (hl2 := by exact (gV_size (L := [[.int .i64 2], ky611.map bV, (tagged [117, 101, 98] [(lay k n L E86 ch87)]).map bV, [.int .i64 ((k : Nat) : Int)], [.int .i64 ((n : Nat) : Int)], [.int .i64 ((L : Nat) : Int)], [.slice a609 ([] : List UInt8).length c610]]) (shCp hk612 (tagged_len _ _)) rfl).trans (gV_size (L := [[.int .i64 1], key.map bV, (tagged [117, 101, 98] [(lay k n L E86 ch87)]).map bV, [.int .i64 ((k : Nat) : Int)], [.int .i64 ((n : Nat) : Int)], [.int .i64 ((L : Nat) : Int)], [.slice none 0 0]]) (shCp hky (tagged_len _ _)) rfl).symm) (h1 := by exact gV_one (OneL.one rfl (OneL.arr (OneL.arr (OneL.one rfl (OneL.one rfl (OneL.one rfl (OneL.one rfl OneL.nil)))))))) 0 S616 fun w620 S621 => (T_nil ?_)
  exact Ws (J111 _ _ ⟨_, _, _, _, _, G617, rfl, hl618, S621, hk612, (tagged_len _ _), r613⟩)
 refine W_skip ?_
 exact Ws (J111 _ _ ⟨_, _, _, _, _, G94, rfl, (Hp.le.refl _), S101, hky, (tagged_len _ _), (nilB _)⟩)

end Go.Proofs.YtmjmjjkigblbgaaGreatDoor
