/- A file's capability and shares, by the document. -/
import Derived.Test.YtmjmjjkigblbgaaDoorShr
import Derived.Test.YtmjmjjkigblbgaaDoorAes
import Derived.Test.YtmjmjjkigblbgaaDoorAuMade
set_option linter.unusedVariables false
set_option linter.unusedSimpArgs false
set_option maxRecDepth 8192
namespace Go.Proofs.YtmjmjjkigblbgaaDoor
open Go Go.F Go.RowKit
open Go.Au

theorem leaves_all {n : Nat} {E : List (List (List UInt8))} : ∀ x ∈ tab n fun p => Go.Au.root (leavesH (blk E p) (blk E p).length), x.length = 32 := fun x hx => by
 obtain ⟨p, _, rfl⟩ := tab_mem hx
 exact root_len (leavesH_all _ _)
theorem may18_ok {H : Hp} {w : World} (hH : H.le (hw w)) (z k n : Nat) (h : 1 ≤ z ∧ z ≤ 1024 ∧ 1 ≤ k ∧ k ≤ n ∧ n ≤ 16) :
  Calls Tryd.prog 83 #[.int .i64 ((z : Nat) : Int), .int .i64 ((k : Nat) : Int), .int .i64 ((n : Nat) : Int)] w fun e w' => e = .returned (.bool true) ∧ Below w.heap.size w w' := by
 refine enter3 _ Tryd.func83 rfl Tryd.ntmps83 Tryd.results83 rfl ?_
 have S0 := St.start w hH
 refine Wr (Pv (Nr ?_))
 iterate 3 refine Pv ?_
 refine T_bool 9 true rfl (decide_eq_true (by omega)) ?_
 iterate 2 (refine Ys ?_; refine Pv ?_)
 iterate 2 refine Pv ?_
 refine T_bool 13 true rfl (decide_eq_true (by omega)) ?_
 iterate 2 (refine Ys ?_; refine Pv ?_)
 iterate 2 refine Pv ?_
 refine T_bool 17 true rfl (decide_eq_true (by omega)) ?_
 iterate 3 (refine Ys ?_; refine Pv ?_)
 iterate 2 refine Pv ?_
 refine T_bool 22 true rfl (decide_eq_true (by omega)) ?_
 iterate 2 (refine Ys ?_; refine Pv ?_)
 iterate 2 refine Pv ?_
 refine T_nil (W_ret ?_)
 refine ⟨_, ⟨_, _, rfl, rfl, rfl⟩, ?_⟩
 exact ⟨congrArg (fun z => Ending.returned (Value.bool z)) (decide_eq_true (by omega)), S0.below⟩


theorem sharesL_ok {H : Hp} {w : World} (hH : H.le (hw w)) {l : List UInt8} {aa0 : Option Addr} {nn0 cc0 : Nat} (hv : Rd H (.slice aa0 nn0 cc0) nn0 1 (l.map bV)) (k n : Nat) {L : Nat} (hL : l.length = L) (hl : 1 ≤ L ∧ L ≤ 200) (hk : 1 ≤ k ∧ k ≤ 5) (hn : k ≤ n ∧ n ≤ 5) :
  Calls Tryd.prog 84 #[.slice aa0 nn0 cc0, .int .i64 ((k : Nat) : Int), .int .i64 ((n : Nat) : Int)] w fun e w' => ∃ a c E ch, e = .returned (.tuple #[.slice a n c, qV ((k : Nat) : Int) ((n : Nat) : Int) ((L : Nat) : Int) 64 ch (Go.Au.root (tab n fun p => Go.Au.root (leavesH (blk E p) (blk E p).length)))]) ∧ ch.length = 32 ∧ RdSh (F.ext H w.heap.size w') (.slice a n c) n (packU ((k : Nat) : Int) ((n : Nat) : Int) ((L : Nat) : Int) 64 ch (Go.Au.root (tab n fun p => Go.Au.root (leavesH (blk E p) (blk E p).length)))) (fun p => Go.Au.beside (rowP (tab n fun p => Go.Au.root (leavesH (blk E p) (blk E p).length))) p (lg (tab n fun p => Go.Au.root (leavesH (blk E p) (blk E p).length)).length)) (blk E) ∧ EOK k n L E ∧ Below w.heap.size w w' := by
 subst hL; exact shares_ok hH hv k n hl hk hn

theorem encode_ok {H : Hp} {w : World} (hH : H.le (hw w)) {key : List UInt8} (hky : key.length = 16) {l : List UInt8} {aa1 : Option Addr} {nn1 cc1 : Nat} (hv : Rd H (.slice aa1 nn1 cc1) nn1 1 (l.map bV)) (k n : Nat) (hl : 1 ≤ l.length ∧ l.length ≤ 200) (hk : 1 ≤ k ∧ k ≤ 5) (hn : k ≤ n ∧ n ≤ 5) :
  Calls Tryd.prog 53 #[hV key, .slice aa1 nn1 cc1, .int .i64 ((k : Nat) : Int), .int .i64 ((n : Nat) : Int)] w fun e w' => ∃ a c E ch, e = .returned (.tuple #[gV [[.int .i64 1], key.map bV, (tagged [117, 101, 98] [(lay k n l.length E ch)]).map bV, [.int .i64 ((k : Nat) : Int)], [.int .i64 ((n : Nat) : Int)], [.int .i64 ((l.length : Nat) : Int)], [.slice none 0 0]], .slice a n c, .int .i64 0]) ∧ ch.length = 32 ∧ RdSh (F.ext H w.heap.size w') (.slice a n c) n (lay k n l.length E ch) (fun z => Go.Au.beside (rowP (lvs n E)) z (lg (lvs n E).length)) (blk E) ∧ EOK k n l.length E ∧ Below w.heap.size w w' := by
 obtain rfl : nn1 = l.length := hv.lenB
 have hvcap : l.length ≤ cc1 := hv.capOf
 refine enter4 _ Tryd.func53 rfl Tryd.ntmps53 Tryd.results53 rfl ?_
 have S0 := St.start w hH
 refine Wr (T_boxS S0 (fun _ _ => trivial) rfl rfl rfl rfl rfl rfl fun b51 w52 S53 => (Ae S53 fun b54 w55 S56 => ?_))
 iterate 2 refine Pv ?_
 refine T_nil (W_seq (Wr ?_))
 iterate 4 refine Pv ?_
 refine Cs g_aumbry_aumbryref18_may ((may18_ok S56.le l.length k n (by omega)).mono ?_)
 rintro e w58 ⟨rfl, hB57⟩
 have S59 := S56.call hB57
 refine ⟨_, rfl, trivial, ?_⟩
 refine Pv (T_nil ?_)
 refine W_cond_false rfl (W_skip (Wr (T_loadFS 1 S59 rfl rfl rfl rfl rfl rfl rfl rfl rfl (hVs hky) (Pv ?_))))
 refine Cs g_aumbry_aumbryref01_Stream ((stream_ok S59.le hky (0 : Int) hv (by omega)).mono ?_)
 rintro e w64 ⟨a60, c61, m, hml, rfl, r62, hB63⟩
 obtain ⟨G66, eG68⟩ : ∃ G, G = F.ext H w58.heap.size w64 := ⟨_, rfl⟩
 obtain ⟨hl67, S65⟩ := S59.ext hB63
 rw [← eG68] at hl67 S65 r62
 refine ⟨_, rfl, trivial, ?_⟩
 iterate 2 refine Pv ?_
 refine Cs g_aumbry_aumbryref18_shares ((sharesL_ok (L := l.length) S65.le r62 k n hml (by omega) (by omega) (by omega)).mono ?_)
 rintro e w73 ⟨a69, c70, E, ch, rfl, hch, r71, hE, hB72⟩
 obtain ⟨G75, eG77⟩ : ∃ G, G = F.ext G66 w64.heap.size w73 := ⟨_, rfl⟩
 obtain ⟨hl76, S74⟩ := S65.ext hB72
 rw [← eG77] at hl76 S74 r71
 refine ⟨_, rfl, trivial, ?_⟩
 have hLV : (Go.Au.root (lvs n E)).length = 32 := root_len (leaves_all (n := n) (E := E))
 have hub : (lay k n l.length E ch).length ≤ 200 := lay_len hch
 iterate 3 refine Pv ?_
 refine Ae S74 fun b78 w79 S80 => ?_
 refine Pv ?_
 refine T_storeFS 0 S80 (fun _ _ => trivial) rfl rfl rfl rfl rfl rfl rfl rfl rfl (qV_sz (q_len hch hLV rfl)) (qV_sz (q_len hch hLV rfl)) (qV_one) fun w81 S82 => (T_nil (W_seq ?_))
 obtain ⟨G84, hl85, S83, r86⟩ := S82.stillBlk 2 rfl
 refine W_plan (planF Tryd.prog G84 [29]) rfl (by kernel_rfl) S83.le ?_
 have S87 := S83.drew
 refine T_loadGAP _ (fun _ h => h) (still_cells r86) rfl rfl rfl rfl rfl rfl rfl rfl (hVs hky) (Pv ?_)
 obtain ⟨f91, f92, f93, f94, r95, hs96⟩ := (r71.mono hl85)
 refine Ah 0 r95 fun b88 o89 hc90 => ?_
 obtain ⟨a97, c98, a99, c100, a101, c102, e103, e104, e105, e106, r107, r108, r109⟩ := hs96 0 (by omega)
 have hc110 : ∀ (j : Nat) (u : Value), (#[.int .i64 ((0 : Nat) : Int), .slice a97 (lay k n l.length E ch).length c98, .slice a99 (Go.Au.beside (rowP (lvs n E)) 0 (lg (lvs n E).length)).length c100, .slice a101 (blk E 0).length c102] : Array Value)[j]? = some u → hcell G84 b88 (o89 + j) = some u := fun j u hu => hc90 j u (shrC_agg (fa := f91) (fb := f92) (fc := f93) (fd := f94) (by omega) j u (by rw [e103, e104, e105, e106]; exact hu))
 have r111 : Rd G84 (.slice a97 (lay k n l.length E ch).length c98) (lay k n l.length E ch).length 1 ((lay k n l.length E ch).map bV) := r107
 have r112 : RdH G84 (.slice a99 (Go.Au.beside (rowP (lvs n E)) 0 (lg (lvs n E).length)).length c100) 32 (Go.Au.beside (rowP (lvs n E)) 0 (lg (lvs n E).length)) := r108
 have r113 : RdL G84 (.slice a101 (blk E 0).length c102) (blk E 0) := r109
 have hc114 := hc110 1 (.slice a97 (lay k n l.length E ch).length c98) rfl
 refine T_fldm (o89 + 1) rfl rfl rfl rfl rfl rfl (by decide) rfl rfl rfl ?_
 refine Ac S87 hc114 ?_
 refine T_callS rfl rfl g_aumbry_aumbryref13_PrintUeb rfl rfl rfl rfl ((printR_ok S87.le r111 (by first | omega | decide)).mono ?_)
 rintro e w116 ⟨rfl, hB115⟩
 have S117 := S87.call hB115
 refine ⟨_, rfl, (((Hp.le.refl _)).trans S117.le), ?_⟩
 iterate 4 refine Pv ?_
 refine T_buildS (cells := (gV [[.int .i64 1], key.map bV, (tagged [117, 101, 98] [(lay k n l.length E ch)]).map bV, [.int .i64 ((k : Nat) : Int)], [.int .i64 ((n : Nat) : Int)], [.int .i64 ((l.length : Nat) : Int)], [.slice none 0 0]] : Value).cells) rfl rfl rfl rfl rfl rfl (fill_g (L := [[.int .i64 0], (List.replicate 16 0).map bV, (List.replicate 32 0).map bV, [.int .i64 0], [.int .i64 0], [.int .i64 0], [.slice none 0 0]]) (ns := [1, 16, 32, 1, 1, 1, 1]) (v := .int .i64 1) (off := 0) (k := 1) rfl (Shp.cons rfl (Shp.cons (lenB List.length_replicate) (Shp.cons (lenB List.length_replicate) (Shp.cons rfl (Shp.cons rfl (Shp.cons rfl (Shp.cons rfl Shp.nil))))))) 0 1 [[.int .i64 1]] rfl (by first | rfl | simp [hVs, *]) rfl rfl (fill_g (L := [[.int .i64 1], (List.replicate 16 0).map bV, (List.replicate 32 0).map bV, [.int .i64 0], [.int .i64 0], [.int .i64 0], [.slice none 0 0]]) (ns := [1, 16, 32, 1, 1, 1, 1]) (v := hV key) (off := 1) (k := 16) rfl (Shp.cons rfl (Shp.cons (lenB List.length_replicate) (Shp.cons (lenB List.length_replicate) (Shp.cons rfl (Shp.cons rfl (Shp.cons rfl (Shp.cons rfl Shp.nil))))))) 1 1 [key.map bV] flat1 (hVs hky) rfl rfl (fill_g (L := [[.int .i64 1], key.map bV, (List.replicate 32 0).map bV, [.int .i64 0], [.int .i64 0], [.int .i64 0], [.slice none 0 0]]) (ns := [1, 16, 32, 1, 1, 1, 1]) (v := hV (tagged [117, 101, 98] [(lay k n l.length E ch)])) (off := 17) (k := 32) rfl (Shp.cons rfl (Shp.cons (lenB hky) (Shp.cons (lenB List.length_replicate) (Shp.cons rfl (Shp.cons rfl (Shp.cons rfl (Shp.cons rfl Shp.nil))))))) 2 1 [(tagged [117, 101, 98] [(lay k n l.length E ch)]).map bV] flat1 (hVs (tagged_len _ _)) rfl rfl (fill_g (L := [[.int .i64 1], key.map bV, (tagged [117, 101, 98] [(lay k n l.length E ch)]).map bV, [.int .i64 0], [.int .i64 0], [.int .i64 0], [.slice none 0 0]]) (ns := [1, 16, 32, 1, 1, 1, 1]) (v := .int .i64 ((k : Nat) : Int)) (off := 49) (k := 1) rfl (Shp.cons rfl (Shp.cons (lenB hky) (Shp.cons (lenB (tagged_len _ _)) (Shp.cons rfl (Shp.cons rfl (Shp.cons rfl (Shp.cons rfl Shp.nil))))))) 3 1 [[.int .i64 ((k : Nat) : Int)]] rfl (by first | rfl | simp [hVs, *]) rfl rfl (fill_g (L := [[.int .i64 1], key.map bV, (tagged [117, 101, 98] [(lay k n l.length E ch)]).map bV, [.int .i64 ((k : Nat) : Int)], [.int .i64 0], [.int .i64 0], [.slice none 0 0]]) (ns := [1, 16, 32, 1, 1, 1, 1]) (v := .int .i64 ((n : Nat) : Int)) (off := 50) (k := 1) rfl (Shp.cons rfl (Shp.cons (lenB hky) (Shp.cons (lenB (tagged_len _ _)) (Shp.cons rfl (Shp.cons rfl (Shp.cons rfl (Shp.cons rfl Shp.nil))))))) 4 1 [[.int .i64 ((n : Nat) : Int)]] rfl (by first | rfl | simp [hVs, *]) rfl rfl (fill_g (L := [[.int .i64 1], key.map bV, (tagged [117, 101, 98] [(lay k n l.length E ch)]).map bV, [.int .i64 ((k : Nat) : Int)], [.int .i64 ((n : Nat) : Int)], [.int .i64 0], [.slice none 0 0]]) (ns := [1, 16, 32, 1, 1, 1, 1]) (v := .int .i64 ((l.length : Nat) : Int)) (off := 51) (k := 1) rfl (Shp.cons rfl (Shp.cons (lenB hky) (Shp.cons (lenB (tagged_len _ _)) (Shp.cons rfl (Shp.cons rfl (Shp.cons rfl (Shp.cons rfl Shp.nil))))))) 5 1 [[.int .i64 ((l.length : Nat) : Int)]] rfl (by first | rfl | simp [hVs, *]) rfl rfl fill_gnil)))))) rfl rfl rfl ?_
 refine Pv ?_
 refine T_storeFS 1 S117 (fun _ h => ((Hp.le.refl _)).trans h) rfl rfl rfl rfl rfl rfl rfl rfl rfl (gV_size (L := [[.int .i64 1], key.map bV, (tagged [117, 101, 98] [(lay k n l.length E ch)]).map bV, [.int .i64 ((k : Nat) : Int)], [.int .i64 ((n : Nat) : Int)], [.int .i64 ((l.length : Nat) : Int)], [.slice none 0 0]]) (shCp hky (tagged_len _ _)) rfl) (gV_size (L := [[.int .i64 1], key.map bV, (tagged [117, 101, 98] [(lay k n l.length E ch)]).map bV, [.int .i64 ((k : Nat) : Int)], [.int .i64 ((n : Nat) : Int)], [.int .i64 ((l.length : Nat) : Int)], [.slice none 0 0]]) (shCp hky (tagged_len _ _)) rfl) (gV_one (OneL.one rfl (OneL.arr (OneL.arr (OneL.one rfl (OneL.one rfl (OneL.one rfl (OneL.one rfl OneL.nil)))))))) fun w118 S119 => ?_
 iterate 2 refine Pv ?_
 refine T_nil (W_ret ?_)
 refine ⟨_, ⟨_, _, _, rfl, rfl, run_loadVarA rfl rfl (gV_size (L := [[.int .i64 1], key.map bV, (tagged [117, 101, 98] [(lay k n l.length E ch)]).map bV, [.int .i64 ((k : Nat) : Int)], [.int .i64 ((n : Nat) : Int)], [.int .i64 ((l.length : Nat) : Int)], [.slice none 0 0]]) (shCp hky (tagged_len _ _)) rfl) (S119.cells 1 rfl), ⟨_, _, rfl, rfl, ⟨_, _, rfl, rfl, rfl⟩⟩⟩, ?_⟩
 exact ⟨_, _, E, ch, rfl, hch, ((r71.mono hl85)).mono S119.fin, hE, S119.below⟩


theorem encodeL_ok {H : Hp} {w : World} (hH : H.le (hw w)) {key : List UInt8} (hky : key.length = 16) {l : List UInt8} {aa1 : Option Addr} {nn1 cc1 : Nat} (hv : Rd H (.slice aa1 nn1 cc1) nn1 1 (l.map bV)) (k n : Nat) {L : Nat} (hL : l.length = L) (hl : 1 ≤ L ∧ L ≤ 200) (hk : 1 ≤ k ∧ k ≤ 5) (hn : k ≤ n ∧ n ≤ 5) :
  Calls Tryd.prog 53 #[hV key, .slice aa1 nn1 cc1, .int .i64 ((k : Nat) : Int), .int .i64 ((n : Nat) : Int)] w fun e w' => ∃ a c E ch, e = .returned (.tuple #[gV [[.int .i64 1], key.map bV, (tagged [117, 101, 98] [(lay k n L E ch)]).map bV, [.int .i64 ((k : Nat) : Int)], [.int .i64 ((n : Nat) : Int)], [.int .i64 ((L : Nat) : Int)], [.slice none 0 0]], .slice a n c, .int .i64 0]) ∧ ch.length = 32 ∧ RdSh (F.ext H w.heap.size w') (.slice a n c) n (lay k n L E ch) (fun z => Go.Au.beside (rowP (lvs n E)) z (lg (lvs n E).length)) (blk E) ∧ EOK k n L E ∧ Below w.heap.size w w' := by
 subst hL; exact encode_ok hH hky hv k n hl hk hn

theorem made_ok {H : Hp} {w : World} (hH : H.le (hw w)) {key : List UInt8} (hky : key.length = 16) {l : List UInt8} {aa1 : Option Addr} {nn1 cc1 : Nat} (hv : Rd H (.slice aa1 nn1 cc1) nn1 1 (l.map bV)) (k0 n0 : Int) (k n : Nat) (hn : 1 + n0 % 5 = (n : Int)) (hk : 1 + k0 % ((n : Nat) : Int) = (k : Int)) {L : Nat} (hL0 : (l.take 150).length + 1 = L) :
  Calls Tryd.prog 18 #[hV key, .slice aa1 nn1 cc1, .int .i64 k0, .int .i64 n0] w fun e w' => ∃ a c E ch, e = .returned (.tuple #[gV [[.int .i64 1], key.map bV, (tagged [117, 101, 98] [(lay k n L E ch)]).map bV, [.int .i64 ((k : Nat) : Int)], [.int .i64 ((n : Nat) : Int)], [.int .i64 ((L : Nat) : Int)], [.slice none 0 0]], .slice a n c, .int .i64 ((n : Nat) : Int)]) ∧ ch.length = 32 ∧ RdSh (F.ext H w.heap.size w') (.slice a n c) n (lay k n L E ch) (fun z => Go.Au.beside (rowP (lvs n E)) z (lg (lvs n E).length)) (blk E) ∧ EOK k n L E ∧ Below w.heap.size w w' := by
 obtain rfl : nn1 = l.length := hv.lenB
 have hvcap : l.length ≤ cc1 := hv.capOf
 have hn5 : 1 ≤ n ∧ n ≤ 5 := by omega
 have hk1 := Int.emod_nonneg k0 (show ((n : Nat) : Int) ≠ 0 by omega)
 have hk2 := Int.emod_lt_of_pos k0 (show 0 < ((n : Nat) : Int) by omega)
 have hkn : 1 ≤ k ∧ k ≤ n := by omega
 have hl150 : (l.take 150).length ≤ 150 := List.length_take_le _ _
 have hL : ([(7 : UInt8)] ++ l.take 150).length = L := by rw [← hL0, List.length_append]; exact Nat.add_comm _ _
 refine enter4 _ Tryd.func18 rfl Tryd.ntmps18 Tryd.results18 rfl ?_
 have S0 := St.start w hH
 refine Wr (T_boxS S0 (fun _ _ => trivial) rfl rfl rfl rfl rfl rfl fun b51 w52 S53 => (Ae S53 fun b54 w55 S56 => ?_))
 iterate 2 refine Pv ?_
 refine Nr (Pv ?_)
 refine Cs g_aumbry_aumbrykeep_Within ((withinN_ok S56.le n0 (5 : Int) (by omega)).mono ?_)
 rintro e w58 ⟨rfl, hB57⟩
 have S59 := S56.call hB57
 refine ⟨_, rfl, trivial, ?_⟩
 refine Ar ?_
 refine T_re (v' := .int .i64 ((n : Nat) : Int)) (congrArg (Value.int .i64) hn) (Pv (Nr ?_))
 iterate 2 refine Pv ?_
 refine Cs g_aumbry_aumbrykeep_Within ((withinN_ok S59.le k0 ((n : Nat) : Int) (by omega)).mono ?_)
 rintro e w61 ⟨rfl, hB60⟩
 have S62 := S59.call hB60
 refine ⟨_, rfl, trivial, ?_⟩
 refine Ar ?_
 refine T_re (v' := .int .i64 ((k : Nat) : Int)) (congrArg (Value.int .i64) hk) (Pv (Nr ?_))
 refine Af (hone := by simp [Value.cells]; rfl) ([(7 : UInt8)].map bV) fun a63 w64 hB65 ho66 => ?_
 have S67 := S62.own hB65 ho66
 refine ⟨trivial, ?_⟩
 refine Pv ?_
 refine Cs g_aumbry_aumbrykeep_Cut_byte ((cutB_ok S67.le hv 150).mono ?_)
 rintro e w73 ⟨a68, c69, hc70, rfl, hr71, hB72⟩
 have S74 := S67.call hB72
 refine ⟨_, rfl, trivial, ?_⟩
 refine Ag (h1 := by exact one_bV _) (hn' := by first | rfl | (simp; done) | (simp; omega) | omega) (hx' := by simp) (hbytes := by show _ * 1 ≤ _; omega) 0 (([(7 : UInt8)] ++ (l.take 150)).length) (([(7 : UInt8)] ++ (l.take 150)).map bV) S74 (hr71.mono S74.le) fun a75 c76 w77 hc78 S79 => ?_
 refine Pv (Nr ?_)
 refine T_loadFS 2 S79 rfl rfl rfl rfl rfl rfl rfl rfl rfl (hVs hky) ?_
 iterate 3 refine Pv ?_
 obtain ⟨G81, hl82, S80, r83⟩ := S79.stillRow 0 rfl
 refine Cs g_aumbry_aumbryref18_Encode ((encodeL_ok (L := L) S80.le hky r83 k n hL (by omega) (by omega) (by omega)).mono ?_)
 rintro e w88 ⟨a84, c85, E, ch, rfl, hch, r86, hE, hB87⟩
 obtain ⟨G90, eG92⟩ : ∃ G, G = F.ext G81 w77.heap.size w88 := ⟨_, rfl⟩
 obtain ⟨hl91, S89⟩ := S80.ext hB87
 rw [← eG92] at hl91 S89 r86
 refine ⟨_, rfl, trivial, ?_⟩
 iterate 4 refine Pv ?_
 refine Ae S89 fun b93 w94 S95 => ?_
 refine T_storeFS 0 S95 (fun _ _ => trivial) rfl rfl rfl rfl rfl rfl rfl rfl rfl (gV_size (L := [[.int .i64 1], key.map bV, (tagged [117, 101, 98] [(lay k n L E ch)]).map bV, [.int .i64 ((k : Nat) : Int)], [.int .i64 ((n : Nat) : Int)], [.int .i64 ((L : Nat) : Int)], [.slice none 0 0]]) (shCp hky (tagged_len _ _)) rfl) (gV_size (L := [[.int .i64 1], key.map bV, (tagged [117, 101, 98] [(lay k n L E ch)]).map bV, [.int .i64 ((k : Nat) : Int)], [.int .i64 ((n : Nat) : Int)], [.int .i64 ((L : Nat) : Int)], [.slice none 0 0]]) (shCp hky (tagged_len _ _)) rfl) (gV_one (OneL.one rfl (OneL.arr (OneL.arr (OneL.one rfl (OneL.one rfl (OneL.one rfl (OneL.one rfl OneL.nil)))))))) fun w96 S97 => ?_
 iterate 2 refine Pv ?_
 refine Nr (T_loadFS 0 S97 rfl rfl rfl rfl rfl rfl rfl rfl rfl (gV_size (L := [[.int .i64 1], key.map bV, (tagged [117, 101, 98] [(lay k n L E ch)]).map bV, [.int .i64 ((k : Nat) : Int)], [.int .i64 ((n : Nat) : Int)], [.int .i64 ((L : Nat) : Int)], [.slice none 0 0]]) (shCp hky (tagged_len _ _)) rfl) ?_)
 iterate 2 refine Pv ?_
 refine T_storeFS 1 S97 (fun _ _ => trivial) rfl rfl rfl rfl rfl rfl rfl rfl rfl (gV_size (L := [[.int .i64 1], key.map bV, (tagged [117, 101, 98] [(lay k n L E ch)]).map bV, [.int .i64 ((k : Nat) : Int)], [.int .i64 ((n : Nat) : Int)], [.int .i64 ((L : Nat) : Int)], [.slice none 0 0]]) (shCp hky (tagged_len _ _)) rfl) (gV_size (L := [[.int .i64 1], key.map bV, (tagged [117, 101, 98] [(lay k n L E ch)]).map bV, [.int .i64 ((k : Nat) : Int)], [.int .i64 ((n : Nat) : Int)], [.int .i64 ((L : Nat) : Int)], [.slice none 0 0]]) (shCp hky (tagged_len _ _)) rfl) (gV_one (OneL.one rfl (OneL.arr (OneL.arr (OneL.one rfl (OneL.one rfl (OneL.one rfl (OneL.one rfl OneL.nil)))))))) fun w98 S99 => ?_
 iterate 2 refine Pv ?_
 refine T_nil (W_ret ?_)
 refine ⟨_, ⟨_, _, _, rfl, rfl, run_loadVarA rfl rfl (gV_size (L := [[.int .i64 1], key.map bV, (tagged [117, 101, 98] [(lay k n L E ch)]).map bV, [.int .i64 ((k : Nat) : Int)], [.int .i64 ((n : Nat) : Int)], [.int .i64 ((L : Nat) : Int)], [.slice none 0 0]]) (shCp hky (tagged_len _ _)) rfl) (S99.cells 1 rfl), ⟨_, _, rfl, rfl, ⟨_, _, rfl, rfl, rfl⟩⟩⟩, ?_⟩
 exact ⟨_, _, E, ch, rfl, hch, (r86).mono S99.fin, hE, S99.below⟩

end Go.Proofs.YtmjmjjkigblbgaaDoor
