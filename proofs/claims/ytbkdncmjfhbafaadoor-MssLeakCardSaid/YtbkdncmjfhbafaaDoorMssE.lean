/- Signatures as bytes: the document's. -/
import Derived.Test.YtbkdncmjfhbafaaDoorMssD
import Derived.Test.YtbkdncmjfhbafaaDoorAuMss4
set_option linter.unusedVariables false
set_option linter.unusedSimpArgs false
set_option maxRecDepth 8192
namespace Go.Proofs.YtbkdncmjfhbafaaDoor
open Go Go.F Go.RowKit

theorem hTo_put {D : List UInt8} {k : Nat} : (hV (Go.Au.hTo D k)).cells.setIfInBounds k (bV (D.getD k 0)) = (hV (Go.Au.hTo D (k + 1))).cells := by
  show ((Go.Au.hTo D k).map bV).toArray.setIfInBounds k (bV (D.getD k 0)) = (((Go.Au.hTo D k).set k (D.getD k 0)).map bV).toArray
  apply Array.toList_inj.1
  rw [Array.toList_setIfInBounds, List.map_set]
theorem hashesR_ok {H : Hp} {w : World} (hH : H.le (hw w)) {l : List (List UInt8)} {aa0 : Option Addr} {nn0 cc0 : Nat} (hv : RdH H (.slice aa0 nn0 cc0) 32 l) (hb : l.length ≤ 100) :
    Calls Tryd.prog 71 #[.slice aa0 nn0 cc0] w fun e w' => ∃ a c, (Go.Au.flatTo [] l l.length).length ≤ c ∧ e = .returned (.slice a (Go.Au.flatTo [] l l.length).length c) ∧ rowZ w' w.heap.size 5 1 (.slice a (Go.Au.flatTo [] l l.length).length c) (Go.Au.flatTo [] l l.length).length ((Go.Au.flatTo [] l l.length).map bV) ∧ Below w.heap.size w w' := by
  obtain rfl : nn0 = l.length := hv.len
  have hvcap : l.length ≤ cc0 := hv.2.capOf
  refine enter1 _ Tryd.func71 rfl Tryd.ntmps71 Tryd.results71 rfl ?_
  have S0 := St.start w hH
  refine W_seq ?_
  refine W_region ?_
  refine T_pev rfl rfl rfl rfl ?_
  refine T_nil ?_
  refine W_seq ?_
  refine W_region ?_
  refine T_pev rfl rfl rfl rfl ?_
  refine T_nil ?_
  refine W_seq ?_
  refine W_seq ?_
  refine W_region ?_
  refine T_pev rfl rfl rfl rfl ?_
  refine T_pev rfl rfl rfl rfl ?_
  refine T_pev rfl rfl rfl rfl ?_
  refine T_nil ?_
  refine W_block ?_
  have S1 := S0.nilRow 5 1
  refine W_loop (fun M ρ w' => ∃ (k : Nat) (a4 : Option Addr) (c5 : Nat) (G2 : Hp), M = l.length - k ∧ k ≤ l.length ∧ ρ = [(0, .slice aa0 l.length cc0), (3, .slice a4 ((Go.Au.flatTo [] l k).length) c5), (6, .int .i64 ((l.length : Nat) : Int)), (7, .int .i64 (k : Int))] ∧ H.le G2 ∧ St w H G2 [.row 5 1 (.slice a4 ((Go.Au.flatTo [] l k).length) c5) ((Go.Au.flatTo [] l k).length) ((Go.Au.flatTo [] l k).map bV)] w' ∧ (Go.Au.flatTo [] l k).length ≤ c5)
    (l.length - 0) [(0, .slice aa0 l.length cc0), (3, .slice none 0 0), (6, .int .i64 ((l.length : Nat) : Int)), (7, .int .i64 ((0 : Nat) : Int))] ⟨rfl, rfl, (congrArg (fun z => some (Value.int .i64 z)) (by omega)), (congrArg (fun z => some (Value.int .i64 z)) (by omega)), trivial⟩ ⟨0, none, 0, H, rfl, (by omega), rfl, Hp.le.refl _, S1, (Nat.le_refl _)⟩ ?_
  rintro M ρ w7 ⟨k, a4, c5, G2, rfl, hp9, rfl, hl3, S8, hc6⟩
  refine W_seq ?_
  refine W_region ?_
  refine T_pev rfl rfl rfl rfl ?_
  refine T_nil ?_
  refine W_seq ?_
  refine W_cond_dec rfl (fun h10 => ?_) (fun h10 => ?_)
  · refine W_skip ?_
    refine W_seq ?_
    refine W_block ?_
    refine W_seq ?_
    refine W_region ?_
    refine T_pev rfl rfl rfl rfl ?_
    refine T_pev rfl rfl rfl rfl ?_
    refine T_nil ?_
    refine W_region ?_
    refine T_pev rfl rfl rfl rfl ?_
    refine T_pev rfl rfl rfl rfl ?_
    refine T_pev rfl rfl rfl rfl ?_
    refine T_idxR k (hv.mono hl3).2 rfl rfl rfl rfl rfl rfl rfl rfl rfl (by omega) (by omega) fun b11 o12 hc13 => ?_
    have hc14 := cells_h (hv.mono hl3).1 k (by omega) hc13
    have hl15 := len_h (hv.mono hl3).1 k (by omega)
    refine T_sliceAll rfl rfl rfl rfl rfl rfl rfl rfl ?_
    have r16 := (Rd.of_cells (m := 32) (size := 1) (xs := (l.getD k []).map bV) (cells_bV hc14) (by rw [List.length_map, hl15]))
    have hD17 : (Go.Au.flatTo [] l k ++ l.getD k []) = Go.Au.flatTo [] l (k + 1) := rfl
    have hfl : (Go.Au.flatTo [] l (k + 1)).length = (Go.Au.flatTo [] l k).length + (l.getD k []).length := List.length_append
    refine T_appendS 0 ((Go.Au.flatTo [] l (k + 1)).length) ((Go.Au.flatTo [] l (k + 1)).map bV) S8 (fun _ _ => trivial) rfl rfl rfl rfl rfl rfl rfl rfl rfl rfl rfl rfl rfl rfl (r16.mono S8.le) (one_bV _) (by first | rfl | (simp; done) | (simp; omega) | omega) (by rw [← hD17]; simp) (by unfold maxLen; have hfb := Go.Au.flatT_bd (b := []) (q := l) (Nat.zero_le _) hb hv.1 (show k + 1 ≤ l.length by omega); omega) (by show _ * 1 ≤ _; have hfb := Go.Au.flatT_bd (b := []) (q := l) (Nat.zero_le _) hb hv.1 (show k + 1 ≤ l.length by omega); omega) fun a18 c19 w20 hc21 S22 => ?_
    refine T_pev rfl rfl rfl rfl ?_
    refine T_nil ?_
    refine W_region ?_
    refine T_ari rfl rfl rfl rfl (by omega) ?_
    refine T_pev rfl rfl rfl rfl ?_
    refine T_nil ?_
    exact ⟨l.length - (k + 1), [(0, .slice aa0 l.length cc0), (3, .slice a18 ((Go.Au.flatTo [] l (k + 1)).length) c19), (6, .int .i64 ((l.length : Nat) : Int)), (7, .int .i64 ((k + 1 : Nat) : Int))], by omega, ⟨rfl, rfl, (congrArg (fun z => some (Value.int .i64 z)) (by omega)), (congrArg (fun z => some (Value.int .i64 z)) (by omega)), trivial⟩, k + 1, a18, c19, G2, rfl, (by omega), rfl, hl3, S22, hc21⟩
  refine W_exit ?_
  refine W_seq ?_
  refine W_region ?_
  refine T_pev rfl rfl rfl rfl ?_
  refine T_pev rfl rfl rfl rfl ?_
  refine T_nil ?_
  refine W_ret ?_
  refine ⟨_, ⟨_, _, rfl, rfl, rfl⟩, ?_⟩
  obtain rfl : k = l.length := by omega
  exact ⟨_, _, hc6, rfl, S8.row 0 rfl, S8.below⟩


theorem packR_ok {H : Hp} {w : World} (hH : H.le (hw w)) (sh sl : Int) {v p : List (List UInt8)} {a1 a2 : Option Addr} {n1 n2 c1 c2 : Nat} (h1 : RdH H (.slice a1 n1 c1) 32 v) (h2 : RdH H (.slice a2 n2 c2) 32 p) (hbv : v.length ≤ 100) (hbp : p.length ≤ 100) (hsh : sh ≤ 9223372036854775807) (hsl : sl ≤ 9223372036854775807) :
    Calls Tryd.prog 38 #[.agg #[.int .i64 sh, .int .i64 sl, .slice a1 n1 c1, .slice a2 n2 c2]] w fun e w' => ∃ a c, (Go.Au.pack sh sl v p).length ≤ c ∧ e = .returned (.slice a (Go.Au.pack sh sl v p).length c) ∧ rowZ w' w.heap.size 5 1 (.slice a (Go.Au.pack sh sl v p).length c) (Go.Au.pack sh sl v p).length ((Go.Au.pack sh sl v p).map bV) ∧ Below w.heap.size w w' := by
  obtain rfl : n1 = v.length := h1.len
  obtain rfl : n2 = p.length := h2.len
  have hpb0 := Go.Au.packT_bd (h := sh) (l := sl) hbv hbp h1.1 h2.1 0
  have hpb1 := Go.Au.packT_bd (h := sh) (l := sl) hbv hbp h1.1 h2.1 1
  have hpb2 := Go.Au.packT_bd (h := sh) (l := sl) hbv hbp h1.1 h2.1 2
  refine enter1 _ Tryd.func38 rfl Tryd.ntmps38 Tryd.results38 rfl ?_
  have S0 := St.start w hH
  refine W_seq ?_
  refine W_region ?_
  refine T_boxS S0 (fun _ _ => trivial) rfl rfl rfl rfl rfl rfl fun b1 w2 S3 => ?_
  refine T_pev rfl rfl rfl rfl ?_
  refine T_nil ?_
  refine W_seq ?_
  refine W_tree (plan Tryd.prog) (.step 0 (.step 1 (.step 3 (.fork 2 4 (.step 4 (.step 5 (.step 6 (.step 7 .done)))) (.step 2 (.step 5 (.step 6 (.step 7 .done)))))))) rfl (by kernel_rfl) trivial ?_
  have S4 := S3.drew
  refine TT_step rfl ?_
  refine T_fldm 0 rfl rfl rfl rfl rfl rfl (by decide) rfl rfl rfl ?_
  refine T_nil ?_
  refine TT_step rfl ?_
  refine T_loadS 0 0 S4 rfl rfl rfl rfl rfl rfl rfl rfl rfl rfl ?_
  refine T_nil ?_
  refine TT_step rfl ?_
  refine T_fldm 1 rfl rfl rfl rfl rfl rfl (by decide) rfl rfl rfl ?_
  refine T_nil ?_
  refine TT_fork rfl rfl ?_ ?_
  · refine T_callS rfl rfl g_aumbry_aumbryref01_Put rfl rfl rfl rfl ((putR_ok S4.le sh 1 (by omega) (by omega)).mono ?_)
    rintro e w10 ⟨a5, c6, hc7, rfl, ho8, hB9⟩
    have S11 := S4.own hB9 ho8
    refine ⟨_, rfl, trivial, ?_⟩
    refine T_nil ?_
    refine TT_step rfl ?_
    refine T_loadS 1 1 S11 rfl rfl rfl rfl rfl rfl rfl rfl rfl rfl ?_
    refine T_nil ?_
    refine TT_step rfl ?_
    refine T_callS rfl rfl g_aumbry_aumbryref01_Put rfl rfl rfl rfl ((putR_ok S11.le sl 2 (by omega) (by omega)).mono ?_)
    rintro e w17 ⟨a12, c13, hc14, rfl, ho15, hB16⟩
    have S18 := S11.own hB16 ho15
    refine ⟨_, rfl, trivial, ?_⟩
    refine T_nil ?_
    refine TT_step rfl ?_
    have hD19 : (Go.Sha.put (max 0 sh).toNat 1 ++ Go.Sha.put (max 0 sl).toNat 2) = Go.Au.packT sh sl v p 0 := rfl
    refine T_appendS 1 ((Go.Au.packT sh sl v p 0).length) ((Go.Au.packT sh sl v p 0).map bV) S18 (fun _ _ => trivial) rfl rfl rfl rfl rfl rfl rfl rfl rfl rfl rfl rfl rfl rfl (S18.rd 0 rfl) (one_bV _) (by rw [← hD19]; first | rfl | (simp; done) | (simp; omega) | omega) (by rw [← hD19]; simp) (by unfold maxLen; omega) (by show _ * 1 ≤ _; omega) fun a20 c21 w22 hc23 S24 => ?_
    refine T_nil ?_
    refine TT_step rfl ?_
    refine T_pev rfl rfl rfl rfl ?_
    refine T_nil ?_
    refine TT_done ?_
    refine W_seq ?_
    refine W_region ?_
    refine T_pev rfl rfl rfl rfl ?_
    refine T_fldm 2 rfl rfl rfl rfl rfl rfl (by decide) rfl rfl rfl ?_
    refine T_loadS 2 2 S24 rfl rfl rfl rfl rfl rfl rfl rfl rfl rfl ?_
    refine T_callS rfl rfl g_aumbry_aumbryref07_Hashes rfl rfl rfl rfl ((hashesR_ok S24.le h1 (by omega)).mono ?_)
    rintro e w30 ⟨a25, c26, hc27, rfl, ho28, hB29⟩
    have S31 := S24.own hB29 ho28
    refine ⟨_, rfl, trivial, ?_⟩
    have hD32 : (Go.Au.packT sh sl v p 0 ++ Go.Au.flatTo [] v v.length) = Go.Au.packT sh sl v p 1 := (by rw [Go.Au.flatTo_all, List.nil_append]; rfl)
    refine T_appendS 2 ((Go.Au.packT sh sl v p 1).length) ((Go.Au.packT sh sl v p 1).map bV) S31 (fun _ _ => trivial) rfl rfl rfl rfl rfl rfl rfl rfl rfl rfl rfl rfl rfl rfl (S31.rd 0 rfl) (one_bV _) (by rw [← hD32]; first | rfl | (simp; done) | (simp; omega) | omega) (by rw [← hD32]; simp) (by unfold maxLen; omega) (by show _ * 1 ≤ _; omega) fun a33 c34 w35 hc36 S37 => ?_
    refine T_pev rfl rfl rfl rfl ?_
    refine T_nil ?_
    refine W_seq ?_
    refine W_region ?_
    refine T_pev rfl rfl rfl rfl ?_
    refine T_fldm 3 rfl rfl rfl rfl rfl rfl (by decide) rfl rfl rfl ?_
    refine T_loadS 3 3 S37 rfl rfl rfl rfl rfl rfl rfl rfl rfl rfl ?_
    refine T_callS rfl rfl g_aumbry_aumbryref07_Hashes rfl rfl rfl rfl ((hashesR_ok S37.le h2 (by omega)).mono ?_)
    rintro e w43 ⟨a38, c39, hc40, rfl, ho41, hB42⟩
    have S44 := S37.own hB42 ho41
    refine ⟨_, rfl, trivial, ?_⟩
    have hD45 : (Go.Au.packT sh sl v p 1 ++ Go.Au.flatTo [] p p.length) = Go.Au.packT sh sl v p 2 := (by rw [Go.Au.flatTo_all, List.nil_append]; rfl)
    refine T_appendS 3 ((Go.Au.packT sh sl v p 2).length) ((Go.Au.packT sh sl v p 2).map bV) S44 (fun _ _ => trivial) rfl rfl rfl rfl rfl rfl rfl rfl rfl rfl rfl rfl rfl rfl (S44.rd 0 rfl) (one_bV _) (by rw [← hD45]; first | rfl | (simp; done) | (simp; omega) | omega) (by rw [← hD45]; simp) (by unfold maxLen; omega) (by show _ * 1 ≤ _; omega) fun a46 c47 w48 hc49 S50 => ?_
    refine T_pev rfl rfl rfl rfl ?_
    refine T_nil ?_
    refine W_ret ?_
    refine ⟨_, ⟨_, _, rfl, rfl, rfl⟩, ?_⟩
    exact ⟨_, _, hc49, rfl, S50.row 3 rfl, S50.below⟩
  refine T_loadS 0 1 S4 rfl rfl rfl rfl rfl rfl rfl rfl rfl rfl ?_
  refine T_nil ?_
  refine TT_step rfl ?_
  refine T_callS rfl rfl g_aumbry_aumbryref01_Put rfl rfl rfl rfl ((putR_ok S4.le sh 1 (by omega) (by omega)).mono ?_)
  rintro e w56 ⟨a51, c52, hc53, rfl, ho54, hB55⟩
  have S57 := S4.own hB55 ho54
  refine ⟨_, rfl, trivial, ?_⟩
  refine T_nil ?_
  refine TT_step rfl ?_
  refine T_callS rfl rfl g_aumbry_aumbryref01_Put rfl rfl rfl rfl ((putR_ok S57.le sl 2 (by omega) (by omega)).mono ?_)
  rintro e w63 ⟨a58, c59, hc60, rfl, ho61, hB62⟩
  have S64 := S57.own hB62 ho61
  refine ⟨_, rfl, trivial, ?_⟩
  refine T_nil ?_
  refine TT_step rfl ?_
  have hD65 : (Go.Sha.put (max 0 sh).toNat 1 ++ Go.Sha.put (max 0 sl).toNat 2) = Go.Au.packT sh sl v p 0 := rfl
  refine T_appendS 1 ((Go.Au.packT sh sl v p 0).length) ((Go.Au.packT sh sl v p 0).map bV) S64 (fun _ _ => trivial) rfl rfl rfl rfl rfl rfl rfl rfl rfl rfl rfl rfl rfl rfl (S64.rd 0 rfl) (one_bV _) (by rw [← hD65]; first | rfl | (simp; done) | (simp; omega) | omega) (by rw [← hD65]; simp) (by unfold maxLen; omega) (by show _ * 1 ≤ _; omega) fun a66 c67 w68 hc69 S70 => ?_
  refine T_nil ?_
  refine TT_step rfl ?_
  refine T_pev rfl rfl rfl rfl ?_
  refine T_nil ?_
  refine TT_done ?_
  refine W_seq ?_
  refine W_region ?_
  refine T_pev rfl rfl rfl rfl ?_
  refine T_fldm 2 rfl rfl rfl rfl rfl rfl (by decide) rfl rfl rfl ?_
  refine T_loadS 2 2 S70 rfl rfl rfl rfl rfl rfl rfl rfl rfl rfl ?_
  refine T_callS rfl rfl g_aumbry_aumbryref07_Hashes rfl rfl rfl rfl ((hashesR_ok S70.le h1 (by omega)).mono ?_)
  rintro e w76 ⟨a71, c72, hc73, rfl, ho74, hB75⟩
  have S77 := S70.own hB75 ho74
  refine ⟨_, rfl, trivial, ?_⟩
  have hD78 : (Go.Au.packT sh sl v p 0 ++ Go.Au.flatTo [] v v.length) = Go.Au.packT sh sl v p 1 := (by rw [Go.Au.flatTo_all, List.nil_append]; rfl)
  refine T_appendS 2 ((Go.Au.packT sh sl v p 1).length) ((Go.Au.packT sh sl v p 1).map bV) S77 (fun _ _ => trivial) rfl rfl rfl rfl rfl rfl rfl rfl rfl rfl rfl rfl rfl rfl (S77.rd 0 rfl) (one_bV _) (by rw [← hD78]; first | rfl | (simp; done) | (simp; omega) | omega) (by rw [← hD78]; simp) (by unfold maxLen; omega) (by show _ * 1 ≤ _; omega) fun a79 c80 w81 hc82 S83 => ?_
  refine T_pev rfl rfl rfl rfl ?_
  refine T_nil ?_
  refine W_seq ?_
  refine W_region ?_
  refine T_pev rfl rfl rfl rfl ?_
  refine T_fldm 3 rfl rfl rfl rfl rfl rfl (by decide) rfl rfl rfl ?_
  refine T_loadS 3 3 S83 rfl rfl rfl rfl rfl rfl rfl rfl rfl rfl ?_
  refine T_callS rfl rfl g_aumbry_aumbryref07_Hashes rfl rfl rfl rfl ((hashesR_ok S83.le h2 (by omega)).mono ?_)
  rintro e w89 ⟨a84, c85, hc86, rfl, ho87, hB88⟩
  have S90 := S83.own hB88 ho87
  refine ⟨_, rfl, trivial, ?_⟩
  have hD91 : (Go.Au.packT sh sl v p 1 ++ Go.Au.flatTo [] p p.length) = Go.Au.packT sh sl v p 2 := (by rw [Go.Au.flatTo_all, List.nil_append]; rfl)
  refine T_appendS 3 ((Go.Au.packT sh sl v p 2).length) ((Go.Au.packT sh sl v p 2).map bV) S90 (fun _ _ => trivial) rfl rfl rfl rfl rfl rfl rfl rfl rfl rfl rfl rfl rfl rfl (S90.rd 0 rfl) (one_bV _) (by rw [← hD91]; first | rfl | (simp; done) | (simp; omega) | omega) (by rw [← hD91]; simp) (by unfold maxLen; omega) (by show _ * 1 ≤ _; omega) fun a92 c93 w94 hc95 S96 => ?_
  refine T_pev rfl rfl rfl rfl ?_
  refine T_nil ?_
  refine W_ret ?_
  refine ⟨_, ⟨_, _, rfl, rfl, rfl⟩, ?_⟩
  exact ⟨_, _, hc95, rfl, S96.row 3 rfl, S96.below⟩


theorem takeHashes_ok {H : Hp} {w : World} (hH : H.le (hw w)) {b : List UInt8} {aa0 : Option Addr} {nn0 cc0 : Nat} (hv : Rd H (.slice aa0 nn0 cc0) nn0 1 (b.map bV)) (hb : b.length ≤ 100000) (h32 : b.length % 32 = 0) :
    Calls Tryd.prog 70 #[.slice aa0 nn0 cc0] w fun e w' => ∃ a c, (b.length / 32) ≤ c ∧ e = .returned (.tuple #[.slice a (b.length / 32) c, .bool true]) ∧ rowZ w' w.heap.size 26 32 (.slice a (b.length / 32) c) (b.length / 32) (hcells (Go.Au.chunks b (b.length / 32))) ∧ Below w.heap.size w w' := by
  obtain rfl : nn0 = b.length := hv.lenB
  have hvcap : b.length ≤ cc0 := hv.capOf
  refine enter1 _ Tryd.func70 rfl Tryd.ntmps70 Tryd.results70 rfl ?_
  have S0 := St.start w hH
  refine W_seq ?_
  refine W_region ?_
  refine T_pev rfl rfl rfl rfl ?_
  refine T_pev rfl rfl rfl rfl ?_
  refine T_nil ?_
  refine W_seq ?_
  refine W_seq ?_
  refine W_region ?_
  refine T_pev rfl rfl rfl rfl ?_
  refine T_pev rfl rfl rfl rfl ?_
  refine T_rem rfl rfl rfl rfl rfl rfl (by omega) ?_
  refine T_pev rfl rfl rfl rfl ?_
  refine T_nil ?_
  refine W_bool 11 false rfl (ndec_f (by omega)) ?_
  refine W_cond_false rfl ?_
  refine W_skip ?_
  refine W_seq ?_
  refine W_region ?_
  refine T_pev rfl rfl rfl rfl ?_
  refine T_nil ?_
  refine W_seq ?_
  refine W_seq ?_
  refine W_region ?_
  refine T_pev rfl rfl rfl rfl ?_
  refine T_nil ?_
  refine W_block ?_
  have S1 := S0.nilRow 26 32
  refine W_loop (fun M ρ w' => ∃ (k : Nat) (a4 : Option Addr) (c5 : Nat) (G2 : Hp), M = (b.length / 32) - k ∧ k ≤ (b.length / 32) ∧ ρ = [(0, .slice aa0 b.length cc0), (4, .slice a4 k c5), (5, .int .i64 ((32 * k : Nat) : Int))] ∧ H.le G2 ∧ St w H G2 [.row 26 32 (.slice a4 k c5) k (hcells (Go.Au.chunks b k))] w' ∧ (∀ y ∈ Go.Au.chunks b k, y.length = 32) ∧ k ≤ c5)
    ((b.length / 32) - 0) [(0, .slice aa0 b.length cc0), (4, .slice none 0 0), (5, .int .i64 ((32 * 0 : Nat) : Int))] ⟨rfl, rfl, (congrArg (fun z => some (Value.int .i64 z)) (by omega)), trivial⟩ ⟨0, none, 0, H, rfl, (by exact Nat.zero_le _), rfl, Hp.le.refl _, S1, (fun _ h => by cases h), (Nat.le_refl _)⟩ ?_
  rintro M ρ w8 ⟨k, a4, c5, G2, rfl, hp10, rfl, hl3, S9, hh7, hc6⟩
  refine W_seq ?_
  refine W_seq ?_
  refine W_region ?_
  refine T_pev rfl rfl rfl rfl ?_
  refine T_ari rfl rfl rfl rfl (by omega) ?_
  refine T_pev rfl rfl rfl rfl ?_
  refine T_pev rfl rfl rfl rfl ?_
  refine T_pev rfl rfl rfl rfl ?_
  refine T_nil ?_
  refine W_cond_dec rfl (fun h11 => ?_) (fun h11 => ?_)
  · refine W_skip ?_
    refine W_seq ?_
    refine W_block ?_
    refine W_seq ?_
    refine W_region ?_
    refine T_allocS S9 (fun _ _ => trivial) rfl rfl rfl rfl rfl rfl rfl fun b12 w13 S14 => ?_
    refine T_nil ?_
    refine W_seq ?_
    refine W_seq ?_
    refine W_region ?_
    refine T_pev rfl rfl rfl rfl ?_
    refine T_nil ?_
    refine W_block ?_
    refine W_loop (fun M ρ w' => ∃ (j : Nat) (a17 : Option Addr) (c18 : Nat) (G15 : Hp), M = 32 - j ∧ j ≤ 32 ∧ ρ = [(0, .slice aa0 b.length cc0), (4, .slice a17 k c18), (5, .int .i64 ((32 * k : Nat) : Int)), (6, .pointer (some ⟨b12, 0, none⟩)), (19, .int .i64 (j : Int))] ∧ G2.le G15 ∧ St w H G15 [.blk b12 (hV (Go.Au.hTo (b.drop (32 * k)) j) : Value).cells 26, .row 26 32 (.slice a17 k c18) k (hcells (Go.Au.chunks b k))] w' ∧ (∀ y ∈ Go.Au.chunks b k, y.length = 32) ∧ k ≤ c18)
      (32 - 0) [(0, .slice aa0 b.length cc0), (4, .slice a4 k c5), (5, .int .i64 ((32 * k : Nat) : Int)), (6, .pointer (some ⟨b12, 0, none⟩)), (19, .int .i64 ((0 : Nat) : Int))] ⟨rfl, rfl, (congrArg (fun z => some (Value.int .i64 z)) (by omega)), rfl, (congrArg (fun z => some (Value.int .i64 z)) (by omega)), trivial⟩ ⟨0, a4, c5, G2, rfl, (by omega), rfl, Hp.le.refl _, S14, hh7, hc6⟩ ?_
    rintro M ρ w21 ⟨j, a17, c18, G15, rfl, hp23, rfl, hl16, S22, hh20, hc19⟩
    refine W_seq ?_
    refine W_region ?_
    refine T_pev rfl rfl rfl rfl ?_
    refine T_nil ?_
    refine W_seq ?_
    refine W_cond_dec rfl (fun h24 => ?_) (fun h24 => ?_)
    · refine W_skip ?_
      refine W_seq ?_
      refine W_block ?_
      refine W_seq ?_
      refine W_region ?_
      refine T_pev rfl rfl rfl rfl ?_
      refine T_pev rfl rfl rfl rfl ?_
      refine T_nil ?_
      refine W_region ?_
      refine T_pev rfl rfl rfl rfl ?_
      refine T_pev rfl rfl rfl rfl ?_
      refine T_pev rfl rfl rfl rfl ?_
      refine T_pev rfl rfl rfl rfl ?_
      refine T_ari rfl rfl rfl rfl (by omega) ?_
      refine T_idxR ((32 * k) + j) (hv.mono (hl3.trans hl16)) rfl rfl rfl rfl rfl rfl rfl rfl rfl (by omega) (by omega) fun b25 o26 hc27 => ?_
      have hc28 := hc27 0 (bV (b.getD ((32 * k) + j) 0)) (at_b b ((32 * k) + j) (by omega))
      simp only [Nat.add_zero] at hc28
      refine T_loadG S22 hc28 rfl rfl rfl rfl rfl rfl rfl ?_
      refine T_re (v' := bV ((b.drop (32 * k)).getD j 0)) (congrArg (fun z : UInt8 => Value.int .u8 (z.toNat : Int)) (Go.Au.getD_dropB _ _ _).symm) ?_
      refine T_idxA1 rfl rfl rfl rfl rfl rfl rfl rfl rfl (by first | omega | decide) ?_
      refine T_store1S 0 j S22 (fun _ _ => trivial) rfl rfl rfl rfl rfl rfl rfl rfl rfl rfl rfl (by omega) (by rw [hVs (Go.Au.hTo_len _ _)]; omega) fun w29 S30 => ?_
      rw [hTo_put] at S30
      refine T_nil ?_
      refine W_region ?_
      refine T_ari rfl rfl rfl rfl (by omega) ?_
      refine T_pev rfl rfl rfl rfl ?_
      refine T_nil ?_
      exact ⟨32 - (j + 1), [(0, .slice aa0 b.length cc0), (4, .slice a17 k c18), (5, .int .i64 ((32 * k : Nat) : Int)), (6, .pointer (some ⟨b12, 0, none⟩)), (19, .int .i64 ((j + 1 : Nat) : Int))], by omega, ⟨rfl, rfl, (congrArg (fun z => some (Value.int .i64 z)) (by omega)), rfl, (congrArg (fun z => some (Value.int .i64 z)) (by omega)), trivial⟩, j + 1, a17, c18, G15, rfl, (by omega), rfl, hl16, S30, hh20, hc19⟩
    refine W_exit ?_
    refine W_region ?_
    refine T_pev rfl rfl rfl rfl ?_
    refine T_loadFS 0 S22 rfl rfl rfl rfl rfl rfl rfl rfl rfl (hVs (Go.Au.hTo_len _ _)) ?_
    refine T_re (v' := hV ((b.drop (32 * k)).take 32)) (congrArg (fun q => hV q) (by rw [show j = 32 by omega]; exact Go.Au.hTo_full (by rw [List.length_drop]; omega))) ?_
    refine T_litS (hcells [(b.drop (32 * k)).take 32]) rfl rfl rfl rfl rfl rfl rfl rfl rfl rfl rfl rfl rfl (one_h (take_len32 (by rw [List.length_drop]; omega))) (by simp [hcells, hV, Value.cells]) fun a31 w32 hB33 ho34 => ?_
    have S35 := S22.own hB33 ho34
    refine ⟨trivial, ?_⟩
    have hD36 : (Go.Au.chunks b k ++ [(b.drop (32 * k)).take 32]) = Go.Au.chunks b (k + 1) := (Go.Au.chunks_snoc _ _)
    refine T_appendS 2 (k + 1) (hcells (Go.Au.chunks b (k + 1))) S35 (fun _ _ => trivial) rfl rfl rfl rfl rfl rfl rfl rfl rfl rfl rfl rfl rfl rfl (S35.rd 0 rfl) (one_hcells _) (by first | rfl | (simp; done) | (simp; omega) | omega) (by rw [← hD36]; simp [hcells_append, hcells]) (by unfold maxLen; omega) (by show _ * 32 ≤ _; omega) fun a37 c38 w39 hc40 S41 => ?_
    have hh42 : ∀ y ∈ Go.Au.chunks b (k + 1), y.length = 32 := by rw [← hD36]; exact (all_app hh20 (all_h1 (take_len32 (by rw [List.length_drop]; omega))))
    refine T_pev rfl rfl rfl rfl ?_
    refine T_nil ?_
    refine W_region ?_
    refine T_pev rfl rfl rfl rfl ?_
    refine T_ari rfl rfl rfl rfl (by omega) ?_
    refine T_pev rfl rfl rfl rfl ?_
    refine T_nil ?_
    have S43 := S41.drop 1
    have S44 := S43.drop 0
    exact ⟨(b.length / 32) - (k + 1), [(0, .slice aa0 b.length cc0), (4, .slice a37 (k + 1) c38), (5, .int .i64 ((32 * (k + 1) : Nat) : Int))], by omega, ⟨rfl, rfl, (congrArg (fun z => some (Value.int .i64 z)) (by omega)), trivial⟩, k + 1, a37, c38, G15, rfl, (by omega), rfl, (hl3.trans hl16), S44, hh42, hc40⟩
  refine W_exit ?_
  refine W_seq ?_
  refine W_region ?_
  refine T_pev rfl rfl rfl rfl ?_
  refine T_pev rfl rfl rfl rfl ?_
  refine T_pev rfl rfl rfl rfl ?_
  refine T_nil ?_
  refine W_ret ?_
  refine ⟨_, ⟨_, _, rfl, rfl, ⟨_, _, rfl, rfl, rfl⟩⟩, ?_⟩
  obtain rfl : k = (b.length / 32) := by omega
  exact ⟨_, _, hc6, rfl, S9.row 0 rfl, S9.below⟩


theorem unpackRNo_ok {H : Hp} {w : World} (hH : H.le (hw w)) {b : List UInt8} {aa0 : Option Addr} {nn0 cc0 : Nat} (hv : Rd H (.slice aa0 nn0 cc0) nn0 1 (b.map bV)) (hno : ¬ Go.Au.okU b) :
    Calls Tryd.prog 36 #[.slice aa0 nn0 cc0] w fun e w' => e = .returned (.tuple #[.agg #[.int .i64 0, .int .i64 0, .slice none 0 0, .slice none 0 0], .bool false]) ∧ Below w.heap.size w w' := by
  obtain rfl : nn0 = b.length := hv.lenB
  have hvcap : b.length ≤ cc0 := hv.capOf
  have hb0 := (b.getD 0 0).toNat_lt
  refine enter1 _ Tryd.func36 rfl Tryd.ntmps36 Tryd.results36 rfl ?_
  have S0 := St.start w hH
  refine W_seq ?_
  refine W_region ?_
  refine T_allocS S0 (fun _ _ => trivial) rfl rfl rfl rfl rfl rfl rfl fun b1 w2 S3 => ?_
  refine T_pev rfl rfl rfl rfl ?_
  refine T_nil ?_
  refine W_seq ?_
  refine W_seq ?_
  refine W_region ?_
  refine T_pev rfl rfl rfl rfl ?_
  refine T_pev rfl rfl rfl rfl ?_
  refine T_pev rfl rfl rfl rfl ?_
  refine T_pev rfl rfl rfl rfl ?_
  refine T_part (t := 9) rfl (List.cons_ne_nil _ _) (fun h4' => ?_) (fun h4' => ?_)
  · have h4 := of_decide_eq_true h4'
    refine T_no rfl rfl rfl rfl rfl rfl ?_
    refine T_no rfl rfl rfl rfl rfl rfl ?_
    refine T_no rfl rfl rfl rfl rfl rfl ?_
    refine T_no rfl rfl rfl rfl rfl rfl ?_
    refine T_pev rfl rfl rfl rfl ?_
    refine T_pev rfl rfl rfl rfl ?_
    refine T_no rfl rfl rfl rfl rfl rfl ?_
    refine T_no rfl rfl rfl rfl rfl rfl ?_
    refine T_no rfl rfl rfl rfl rfl rfl ?_
    refine T_no rfl rfl rfl rfl rfl rfl ?_
    refine T_no rfl rfl rfl rfl rfl rfl ?_
    refine T_no rfl rfl rfl rfl rfl rfl ?_
    refine T_no rfl rfl rfl rfl rfl rfl ?_
    refine T_no rfl rfl rfl rfl rfl rfl ?_
    refine T_no rfl rfl rfl rfl rfl rfl ?_
    refine T_no rfl rfl rfl rfl rfl rfl ?_
    refine T_pev rfl rfl rfl rfl ?_
    refine T_nil ?_
    refine W_cond_true rfl ?_
    refine W_seq ?_
    refine W_region ?_
    refine T_buildS (cells := #[.int .i64 0, .int .i64 0, .slice none 0 0, .slice none 0 0]) rfl rfl rfl rfl rfl rfl rfl rfl rfl rfl ?_
    refine T_storeFS 0 S3 (fun _ _ => trivial) rfl rfl rfl rfl rfl rfl rfl rfl rfl (by first | rfl | simp [hVs, *]) (by first | rfl | simp [hVs, *]) (one_all rfl) fun w5 S6 => ?_
    refine T_pev rfl rfl rfl rfl ?_
    refine T_nil ?_
    refine W_ret ?_
    refine ⟨_, ⟨_, _, _, rfl, rfl, run_loadVarA rfl rfl (by first | rfl | simp [hVs, *]) (S6.cells 0 rfl), ⟨_, _, rfl, rfl, rfl⟩⟩, ?_⟩
    exact ⟨rfl, S6.below⟩
  have h4 := of_decide_eq_false h4'
  refine T_yes rfl rfl rfl ?_ rfl
  refine T_pev rfl rfl rfl rfl ?_
  refine T_yes rfl rfl rfl ?_ rfl
  refine T_idxR 0 hv rfl rfl rfl rfl rfl rfl rfl rfl rfl (by omega) (by omega) fun b7 o8 hc9 => ?_
  have hc10 := hc9 0 (bV (b.getD 0 0)) (at_b b 0 (by omega))
  simp only [Nat.add_zero] at hc10
  refine T_yes rfl rfl rfl ?_ rfl
  refine T_loadG S3 hc10 rfl rfl rfl rfl rfl rfl rfl ?_
  refine T_yes rfl rfl rfl ?_ rfl
  refine T_pev rfl rfl rfl rfl ?_
  refine T_pev rfl rfl rfl rfl ?_
  refine T_pev rfl rfl rfl rfl ?_
  refine T_part (t := 15) rfl (List.cons_ne_nil _ _) (fun h11' => ?_) (fun h11' => ?_)
  · have h11 := of_decide_eq_true h11'
    refine T_no rfl rfl rfl rfl rfl rfl ?_
    refine T_no rfl rfl rfl rfl rfl rfl ?_
    refine T_no rfl rfl rfl rfl rfl rfl ?_
    refine T_no rfl rfl rfl rfl rfl rfl ?_
    refine T_no rfl rfl rfl rfl rfl rfl ?_
    refine T_no rfl rfl rfl rfl rfl rfl ?_
    refine T_no rfl rfl rfl rfl rfl rfl ?_
    refine T_no rfl rfl rfl rfl rfl rfl ?_
    refine T_no rfl rfl rfl rfl rfl rfl ?_
    refine T_no rfl rfl rfl rfl rfl rfl ?_
    refine T_pev rfl rfl rfl rfl ?_
    refine T_nil ?_
    refine W_cond_true rfl ?_
    refine W_seq ?_
    refine W_region ?_
    refine T_buildS (cells := #[.int .i64 0, .int .i64 0, .slice none 0 0, .slice none 0 0]) rfl rfl rfl rfl rfl rfl rfl rfl rfl rfl ?_
    refine T_storeFS 0 S3 (fun _ _ => trivial) rfl rfl rfl rfl rfl rfl rfl rfl rfl (by first | rfl | simp [hVs, *]) (by first | rfl | simp [hVs, *]) (one_all rfl) fun w12 S13 => ?_
    refine T_pev rfl rfl rfl rfl ?_
    refine T_nil ?_
    refine W_ret ?_
    refine ⟨_, ⟨_, _, _, rfl, rfl, run_loadVarA rfl rfl (by first | rfl | simp [hVs, *]) (S13.cells 0 rfl), ⟨_, _, rfl, rfl, rfl⟩⟩, ?_⟩
    exact ⟨rfl, S13.below⟩
  have h11 := of_decide_eq_false h11'
  refine T_yes rfl rfl rfl ?_ rfl
  refine T_pev rfl rfl rfl rfl ?_
  refine T_yes rfl rfl rfl ?_ rfl
  refine T_pev rfl rfl rfl rfl ?_
  refine T_yes rfl rfl rfl ?_ rfl
  refine T_pev rfl rfl rfl rfl ?_
  refine T_yes rfl rfl rfl ?_ rfl
  refine T_idxR 0 hv rfl rfl rfl rfl rfl rfl rfl rfl rfl (by omega) (by omega) fun b14 o15 hc16 => ?_
  have hc17 := hc16 0 (bV (b.getD 0 0)) (at_b b 0 (by omega))
  simp only [Nat.add_zero] at hc17
  refine T_yes rfl rfl rfl ?_ rfl
  refine T_loadG S3 hc17 rfl rfl rfl rfl rfl rfl rfl ?_
  refine T_yes rfl rfl rfl ?_ rfl
  refine T_b2i rfl rfl rfl rfl rfl rfl rfl ?_
  refine T_yes rfl rfl rfl ?_ rfl
  refine T_ari rfl rfl rfl rfl (by omega) ?_
  refine T_yes rfl rfl rfl ?_ rfl
  refine T_ari rfl rfl rfl rfl (by omega) ?_
  refine T_yes rfl rfl rfl ?_ rfl
  refine T_ari rfl rfl rfl rfl (by omega) ?_
  refine T_yes rfl rfl rfl ?_ rfl
  refine T_pev rfl rfl rfl rfl ?_
  refine T_pev rfl rfl rfl rfl ?_
  refine T_nil ?_
  refine W_bool 26 true rfl (ndec_t (fun e => hno ⟨by omega, by omega, by omega⟩)) ?_
  refine W_cond_true rfl ?_
  refine W_seq ?_
  refine W_region ?_
  refine T_buildS (cells := #[.int .i64 0, .int .i64 0, .slice none 0 0, .slice none 0 0]) rfl rfl rfl rfl rfl rfl rfl rfl rfl rfl ?_
  refine T_storeFS 0 S3 (fun _ _ => trivial) rfl rfl rfl rfl rfl rfl rfl rfl rfl (by first | rfl | simp [hVs, *]) (by first | rfl | simp [hVs, *]) (one_all rfl) fun w18 S19 => ?_
  refine T_pev rfl rfl rfl rfl ?_
  refine T_nil ?_
  refine W_ret ?_
  refine ⟨_, ⟨_, _, _, rfl, rfl, run_loadVarA rfl rfl (by first | rfl | simp [hVs, *]) (S19.cells 0 rfl), ⟨_, _, rfl, rfl, rfl⟩⟩, ?_⟩
  exact ⟨rfl, S19.below⟩


theorem unpackR_ok {H : Hp} {w : World} (hH : H.le (hw w)) {b : List UInt8} {aa0 : Option Addr} {nn0 cc0 : Nat} (hv : Rd H (.slice aa0 nn0 cc0) nn0 1 (b.map bV)) (hb : b.length ≤ 10000) (hok : Go.Au.okU b) :
    Calls Tryd.prog 36 #[.slice aa0 nn0 cc0] w fun e w' => ∃ a1 n1 c1 a2 n2 c2, e = .returned (.tuple #[.agg #[.int .i64 (((b.getD 0 0).toNat : Nat) : Int), .int .i64 (((Go.Au.gval ((b.drop 1).take (3 - 1))) : Nat) : Int), .slice a1 n1 c1, .slice a2 n2 c2], .bool true]) ∧ RdH (F.ext H w.heap.size w') (.slice a1 n1 c1) 32 (((Go.Au.chunks (b.drop 3) ((b.drop 3).length / 32)).drop 0).take (67 - 0)) ∧ RdH (F.ext H w.heap.size w') (.slice a2 n2 c2) 32 (((Go.Au.chunks (b.drop 3) ((b.drop 3).length / 32)).drop 67).take (((b.drop 3).length / 32) - 67)) ∧ Below w.heap.size w w' := by
  obtain rfl : nn0 = b.length := hv.lenB
  have hvcap : b.length ≤ cc0 := hv.capOf
  obtain ⟨hk1, hk2, hk3⟩ := hok
  have hx3 : (b.drop 3).length = b.length - 3 := List.length_drop
  have hck := Go.Au.chunks_len (b.drop 3) ((b.drop 3).length / 32)
  have hb1 := (b.getD 1 0).toNat_lt
  have hb2 := (b.getD 2 0).toNat_lt
  refine enter1 _ Tryd.func36 rfl Tryd.ntmps36 Tryd.results36 rfl ?_
  have S0 := St.start w hH
  refine W_seq ?_
  refine W_region ?_
  refine T_allocS S0 (fun _ _ => trivial) rfl rfl rfl rfl rfl rfl rfl fun b1 w2 S3 => ?_
  refine T_pev rfl rfl rfl rfl ?_
  refine T_nil ?_
  refine W_seq ?_
  refine W_seq ?_
  refine W_region ?_
  refine T_pev rfl rfl rfl rfl ?_
  refine T_pev rfl rfl rfl rfl ?_
  refine T_pev rfl rfl rfl rfl ?_
  refine T_pev rfl rfl rfl rfl ?_
  refine T_bool 9 false rfl (decide_eq_false (by omega)) ?_
  refine T_yes rfl rfl rfl ?_ rfl
  refine T_pev rfl rfl rfl rfl ?_
  refine T_yes rfl rfl rfl ?_ rfl
  refine T_idxR 0 hv rfl rfl rfl rfl rfl rfl rfl rfl rfl (by omega) (by omega) fun b4 o5 hc6 => ?_
  have hc7 := hc6 0 (bV (b.getD 0 0)) (at_b b 0 (by omega))
  simp only [Nat.add_zero] at hc7
  refine T_yes rfl rfl rfl ?_ rfl
  refine T_loadG S3 hc7 rfl rfl rfl rfl rfl rfl rfl ?_
  refine T_yes rfl rfl rfl ?_ rfl
  refine T_pev rfl rfl rfl rfl ?_
  refine T_pev rfl rfl rfl rfl ?_
  refine T_pev rfl rfl rfl rfl ?_
  refine T_bool 15 false rfl (decide_eq_false (by omega)) ?_
  refine T_yes rfl rfl rfl ?_ rfl
  refine T_pev rfl rfl rfl rfl ?_
  refine T_yes rfl rfl rfl ?_ rfl
  refine T_pev rfl rfl rfl rfl ?_
  refine T_yes rfl rfl rfl ?_ rfl
  refine T_pev rfl rfl rfl rfl ?_
  refine T_yes rfl rfl rfl ?_ rfl
  refine T_idxR 0 hv rfl rfl rfl rfl rfl rfl rfl rfl rfl (by omega) (by omega) fun b8 o9 hc10 => ?_
  have hc11 := hc10 0 (bV (b.getD 0 0)) (at_b b 0 (by omega))
  simp only [Nat.add_zero] at hc11
  refine T_yes rfl rfl rfl ?_ rfl
  refine T_loadG S3 hc11 rfl rfl rfl rfl rfl rfl rfl ?_
  refine T_yes rfl rfl rfl ?_ rfl
  refine T_b2i rfl rfl rfl rfl rfl rfl rfl ?_
  refine T_yes rfl rfl rfl ?_ rfl
  refine T_ari rfl rfl rfl rfl (by omega) ?_
  refine T_yes rfl rfl rfl ?_ rfl
  refine T_ari rfl rfl rfl rfl (by omega) ?_
  refine T_yes rfl rfl rfl ?_ rfl
  refine T_ari rfl rfl rfl rfl (by omega) ?_
  refine T_yes rfl rfl rfl ?_ rfl
  refine T_pev rfl rfl rfl rfl ?_
  refine T_pev rfl rfl rfl rfl ?_
  refine T_nil ?_
  refine W_bool 26 false rfl (ndec_f (by omega)) ?_
  refine W_cond_false rfl ?_
  refine W_skip ?_
  refine W_seq ?_
  refine W_region ?_
  refine T_pev rfl rfl rfl rfl ?_
  refine T_sliceR 3 b.length hv rfl rfl rfl rfl rfl rfl rfl rfl rfl rfl (by first | rfl | exact congrArg some (by omega)) (bound_of (by omega)) (by omega) (by omega) fun a12 c13 hc14 r15 => ?_
  have r16 := Rd.cutB r15
  have r17 : Rd H (.slice a12 (b.length - 3) c13) (b.length - 3) 1 ((b.drop 3).map bV) := by rw [Go.Au.drop3] at r16; exact r16
  refine T_callS rfl rfl g_aumbry_aumbryref07_TakeHashes rfl rfl rfl rfl ((takeHashes_ok S3.le r17 (by omega) (by omega)).mono ?_)
  rintro e w23 ⟨a18, c19, hc20, rfl, ho21, hB22⟩
  have S24 := S3.own hB22 ho21
  refine ⟨_, rfl, trivial, ?_⟩
  refine T_pev rfl rfl rfl rfl ?_
  refine T_pev rfl rfl rfl rfl ?_
  refine T_pev rfl rfl rfl rfl ?_
  refine T_pev rfl rfl rfl rfl ?_
  refine T_pev rfl rfl rfl rfl ?_
  refine T_nil ?_
  refine W_seq ?_
  refine W_draw rfl (by kernel_rfl) ?_
  have S25 := S24.drew
  refine T_pev rfl rfl rfl rfl ?_
  refine T_idxR 0 hv rfl rfl rfl rfl rfl rfl rfl rfl rfl (by omega) (by omega) fun b26 o27 hc28 => ?_
  have hc29 := hc28 0 (bV (b.getD 0 0)) (at_b b 0 (by omega))
  simp only [Nat.add_zero] at hc29
  refine T_loadG S25 hc29 rfl rfl rfl rfl rfl rfl rfl ?_
  refine T_b2i rfl rfl rfl rfl rfl rfl rfl ?_
  refine T_pev rfl rfl rfl rfl ?_
  refine T_idxR 1 hv rfl rfl rfl rfl rfl rfl rfl rfl rfl (by omega) (by omega) fun b30 o31 hc32 => ?_
  have hc33 := hc32 0 (bV (b.getD 1 0)) (at_b b 1 (by omega))
  simp only [Nat.add_zero] at hc33
  refine T_loadG S25 hc33 rfl rfl rfl rfl rfl rfl rfl ?_
  refine T_b2i rfl rfl rfl rfl rfl rfl rfl ?_
  refine T_ari rfl rfl rfl rfl (by omega) ?_
  refine T_pev rfl rfl rfl rfl ?_
  refine T_idxR 2 hv rfl rfl rfl rfl rfl rfl rfl rfl rfl (by omega) (by omega) fun b34 o35 hc36 => ?_
  have hc37 := hc36 0 (bV (b.getD 2 0)) (at_b b 2 (by omega))
  simp only [Nat.add_zero] at hc37
  refine T_loadG S25 hc37 rfl rfl rfl rfl rfl rfl rfl ?_
  refine T_b2i rfl rfl rfl rfl rfl rfl rfl ?_
  refine T_ari rfl rfl rfl rfl (by omega) ?_
  refine T_re (v' := .int .i64 (((Go.Au.gval ((b.drop 1).take (3 - 1))) : Nat) : Int)) (congrArg (Value.int .i64) (by rw [← Go.Au.gval2 hk1]; omega)) ?_
  refine T_pev rfl rfl rfl rfl ?_
  obtain ⟨G39, hl40, S38, r41⟩ := S25.stillRow 0 rfl
  have r42 := RdH.mk (Go.Au.chunks_all (by omega)) (by decide) r41
  refine T_sliceR 0 67 r42.2 rfl rfl rfl rfl rfl rfl rfl rfl rfl rfl (bound_of (by omega)) rfl (by omega) (by omega) fun a43 c44 hc45 r46 => ?_
  have r47 := RdH.cut (lo := 0) r42.1 (by first | (simp only [List.length_take, List.length_drop]; omega) | (have hcl := List.length_take (i := (67 - 0)) (l := (Go.Au.chunks (b.drop 3) ((b.drop 3).length / 32)).drop 0); have hcd := List.length_drop (i := 0) (l := (Go.Au.chunks (b.drop 3) ((b.drop 3).length / 32))); omega)) r46
  refine T_pev rfl rfl rfl rfl ?_
  refine T_sliceR 67 ((b.drop 3).length / 32) r42.2 rfl rfl rfl rfl rfl rfl rfl rfl rfl rfl (by first | rfl | exact congrArg some (by omega)) (bound_of (by omega)) (by omega) (by omega) fun a48 c49 hc50 r51 => ?_
  have r52 := RdH.cut (lo := 67) r42.1 (by first | (simp only [List.length_take, List.length_drop]; omega) | (have hcl := List.length_take (i := (((b.drop 3).length / 32) - 67)) (l := (Go.Au.chunks (b.drop 3) ((b.drop 3).length / 32)).drop 67); have hcd := List.length_drop (i := 67) (l := (Go.Au.chunks (b.drop 3) ((b.drop 3).length / 32))); omega)) r51
  refine T_buildS (cells := #[.int .i64 ((b.getD 0 0).toNat : Int), .int .i64 (((Go.Au.gval ((b.drop 1).take (3 - 1))) : Nat) : Int), .slice a43 (67 - 0) c44, .slice a48 (((b.drop 3).length / 32) - 67) c49]) rfl rfl rfl rfl rfl rfl rfl rfl rfl rfl ?_
  refine T_storeFS 0 S38 (fun _ _ => trivial) rfl rfl rfl rfl rfl rfl rfl rfl rfl (by first | rfl | simp [hVs, *]) (by first | rfl | simp [hVs, *]) (one_all rfl) fun w53 S54 => ?_
  refine T_pev rfl rfl rfl rfl ?_
  refine T_nil ?_
  refine W_ret ?_
  refine ⟨_, ⟨_, _, _, rfl, rfl, run_loadVarA rfl rfl (by first | rfl | simp [hVs, *]) (S54.cells 0 rfl), ⟨_, _, rfl, rfl, rfl⟩⟩, ?_⟩
  exact ⟨_, _, _, _, _, _, rfl, (r47).mono S54.fin, (r52).mono S54.fin, S54.below⟩

end Go.Proofs.YtbkdncmjfhbafaaDoor
