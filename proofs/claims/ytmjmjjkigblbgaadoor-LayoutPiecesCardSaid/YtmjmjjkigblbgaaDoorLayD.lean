/- Rows of hashes out of bytes; rows from the beginning. -/
import Derived.Test.YtmjmjjkigblbgaaDoorLaw14
import Derived.Test.YtmjmjjkigblbgaaDoorTreeB
import Derived.Test.YtmjmjjkigblbgaaDoorAuLay2
import Derived.Test.YtmjmjjkigblbgaaDoorFMss
import Derived.Test.YtmjmjjkigblbgaaDoorFMss2
import Derived.Test.YtmjmjjkigblbgaaDoorAuMss4
set_option linter.unusedVariables false
set_option linter.unusedSimpArgs false
set_option maxRecDepth 8192
namespace Go.Proofs.YtmjmjjkigblbgaaDoor
open Go Go.F Go.RowKit

theorem hTo_put {D : List UInt8} {k : Nat} : (hV (Go.Au.hTo D k)).cells.setIfInBounds k (bV (D.getD k 0)) = (hV (Go.Au.hTo D (k + 1))).cells := by
  show ((Go.Au.hTo D k).map bV).toArray.setIfInBounds k (bV (D.getD k 0)) = (((Go.Au.hTo D k).set k (D.getD k 0)).map bV).toArray
  apply Array.toList_inj.1
  rw [Array.toList_setIfInBounds, List.map_set]
theorem hs_some {H : Hp} {w w' : World} {l : List (List UInt8)} {a : Option Addr} {n c : Nat} {x y : Bool} (hn : l.length = n) (hc : n ≤ c) (hx : x = y) (r : RdH (F.ext H w.heap.size w') (.slice a n c) 32 l) (hB : Below w.heap.size w w') :
    ∃ a' c', l.length ≤ c' ∧ Ending.returned (.tuple #[.slice a n c, .bool x]) = .returned (.tuple #[.slice a' l.length c', .bool y]) ∧ RdH (F.ext H w.heap.size w') (.slice a' l.length c') 32 l ∧ Below w.heap.size w w' := by
  subst hn; subst hx
  exact ⟨a, c, hc, rfl, r, hB⟩
theorem hs_none {H : Hp} {w w' : World} {b : List UInt8} (h : ¬ b.length % 32 = 0) (hB : Below w.heap.size w w') :
    ∃ a c, (Go.Au.hashN b).length ≤ c ∧ Ending.returned (.tuple #[.slice none 0 0, .bool false]) = .returned (.tuple #[.slice a (Go.Au.hashN b).length c, .bool (decide (b.length % 32 = 0))]) ∧ RdH (F.ext H w.heap.size w') (.slice a (Go.Au.hashN b).length c) 32 (Go.Au.hashN b) ∧ Below w.heap.size w w' := by
  rw [Go.Au.hashN_no h, decide_eq_false h]
  exact ⟨none, 0, Nat.le_refl _, rfl, nilH _, hB⟩
theorem hs_yes {H : Hp} {w w' : World} {b : List UInt8} (h : b.length % 32 = 0) {a : Option Addr} {c : Nat} (hc : b.length / 32 ≤ c) (r : RdH (F.ext H w.heap.size w') (.slice a (b.length / 32) c) 32 (Go.Au.chunks b (b.length / 32))) (hB : Below w.heap.size w w') :
    ∃ a' c', (Go.Au.hashN b).length ≤ c' ∧ Ending.returned (.tuple #[.slice a (b.length / 32) c, .bool true]) = .returned (.tuple #[.slice a' (Go.Au.hashN b).length c', .bool (decide (b.length % 32 = 0))]) ∧ RdH (F.ext H w.heap.size w') (.slice a' (Go.Au.hashN b).length c') 32 (Go.Au.hashN b) ∧ Below w.heap.size w w' := by
  rw [Go.Au.hashN_yes h, decide_eq_true h, Go.Au.chunks_len]
  exact ⟨a, c, hc, rfl, r, hB⟩
theorem rowL_ok {H : Hp} {w : World} (hH : H.le (hw w)) {l : List (List UInt8)} {aa0 : Option Addr} {nn0 cc0 : Nat} (hv : RdH H (.slice aa0 nn0 cc0) 32 l) (hb : l.length ≤ 100) :
    Calls Tryd.prog 56 #[.slice aa0 nn0 cc0] w fun e w' => ∃ a c, (Go.Au.flatTo [] l l.length).length ≤ c ∧ e = .returned (.slice a (Go.Au.flatTo [] l l.length).length c) ∧ rowZ w' w.heap.size 5 1 (.slice a (Go.Au.flatTo [] l l.length).length c) (Go.Au.flatTo [] l l.length).length ((Go.Au.flatTo [] l l.length).map bV) ∧ Below w.heap.size w w' := by
  obtain rfl : nn0 = l.length := hv.len
  have hvcap : l.length ≤ cc0 := hv.2.capOf
  refine enter1 _ Tryd.func56 rfl Tryd.ntmps56 Tryd.results56 rfl ?_
  have S0 := St.start w hH
  refine W_seq ?_
  refine W_region ?_
  refine T_pev rfl rfl rfl rfl ?_
  refine T_nil ?_
  refine W_seq ?_
  refine W_region ?_
  refine T_pev rfl rfl rfl rfl ?_
  refine T_nil ?_
  refine W_seq ?_
  refine W_seq ?_
  refine W_region ?_
  refine T_pev rfl rfl rfl rfl ?_
  refine T_pev rfl rfl rfl rfl ?_
  refine T_pev rfl rfl rfl rfl ?_
  refine T_nil ?_
  refine W_block ?_
  have S1 := S0.nilRow 5 1
  refine W_loop (fun M ρ w' => ∃ (k : Nat) (a4 : Option Addr) (c5 : Nat) (G2 : Hp), M = l.length - k ∧ k ≤ l.length ∧ ρ = [(3, .slice a4 ((Go.Au.flatTo [] l k).length) c5), (6, .slice aa0 l.length cc0), (7, .int .i64 ((l.length : Nat) : Int)), (8, .int .i64 (k : Int))] ∧ H.le G2 ∧ St w H G2 [.row 5 1 (.slice a4 ((Go.Au.flatTo [] l k).length) c5) ((Go.Au.flatTo [] l k).length) ((Go.Au.flatTo [] l k).map bV)] w' ∧ (Go.Au.flatTo [] l k).length ≤ c5)
    (l.length - 0) [(3, .slice none 0 0), (6, .slice aa0 l.length cc0), (7, .int .i64 ((l.length : Nat) : Int)), (8, .int .i64 ((0 : Nat) : Int))] ⟨rfl, rfl, (congrArg (fun z => some (Value.int .i64 z)) (by omega)), (congrArg (fun z => some (Value.int .i64 z)) (by omega)), trivial⟩ ⟨0, none, 0, H, rfl, (by omega), rfl, Hp.le.refl _, S1, (Nat.le_refl _)⟩ ?_
  rintro M ρ w7 ⟨k, a4, c5, G2, rfl, hp9, rfl, hl3, S8, hc6⟩
  refine W_seq ?_
  refine W_region ?_
  refine T_pev rfl rfl rfl rfl ?_
  refine T_nil ?_
  refine W_seq ?_
  refine W_cond_dec rfl (fun h10 => ?_) (fun h10 => ?_)
  · refine W_skip ?_
    refine W_seq ?_
    refine W_block ?_
    refine W_seq ?_
    refine W_region ?_
    refine T_idxR k (hv.mono hl3).2 rfl rfl rfl rfl rfl rfl rfl rfl rfl (by omega) (by omega) fun b11 o12 hc13 => ?_
    have hc14 := cells_h (hv.mono hl3).1 k (by omega) hc13
    have hl15 := len_h (hv.mono hl3).1 k (by omega)
    refine T_loadGA _ S8 hc14 rfl rfl rfl rfl rfl rfl rfl rfl (hVs hl15) ?_
    refine T_allocS S8 (fun _ _ => trivial) rfl rfl rfl rfl rfl rfl rfl fun b16 w17 S18 => ?_
    refine T_storeFS 0 S18 (fun _ _ => trivial) rfl rfl rfl rfl rfl rfl rfl rfl rfl (hVs hl15) (hVs hl15) (one_hA _) fun w19 S20 => ?_
    refine T_nil ?_
    refine W_region ?_
    refine T_pev rfl rfl rfl rfl ?_
    obtain ⟨G22, hl23, S21, r24⟩ := S20.stillBlk 0 rfl
    refine T_sliceAll rfl rfl rfl rfl rfl rfl rfl rfl ?_
    have r25 := Rd.of_blk (m := 32) (size := 1) (xs := (l.getD k []).map bV) r24 (hcell1 _) (by rw [List.length_map, hl15])
    have hD26 : (Go.Au.flatTo [] l k ++ l.getD k []) = Go.Au.flatTo [] l (k + 1) := rfl
    have hfl : (Go.Au.flatTo [] l (k + 1)).length = (Go.Au.flatTo [] l k).length + (l.getD k []).length := List.length_append
    refine T_appendS 0 ((Go.Au.flatTo [] l (k + 1)).length) ((Go.Au.flatTo [] l (k + 1)).map bV) S21 (fun _ _ => trivial) rfl rfl rfl rfl rfl rfl rfl rfl rfl rfl rfl rfl rfl rfl (r25.mono S21.le) (one_bV _) (by first | rfl | (simp; done) | (simp; omega) | omega) (by rw [← hD26]; simp) (by unfold maxLen; have hfb := Go.Au.flatT_bd (b := []) (q := l) (Nat.zero_le _) hb hv.1 (show k + 1 ≤ l.length by omega); omega) (by show _ * 1 ≤ _; have hfb := Go.Au.flatT_bd (b := []) (q := l) (Nat.zero_le _) hb hv.1 (show k + 1 ≤ l.length by omega); omega) fun a27 c28 w29 hc30 S31 => ?_
    refine T_pev rfl rfl rfl rfl ?_
    refine T_nil ?_
    refine W_region ?_
    refine T_ari rfl rfl rfl rfl (by omega) ?_
    refine T_pev rfl rfl rfl rfl ?_
    refine T_nil ?_
    exact ⟨l.length - (k + 1), [(3, .slice a27 ((Go.Au.flatTo [] l (k + 1)).length) c28), (6, .slice aa0 l.length cc0), (7, .int .i64 ((l.length : Nat) : Int)), (8, .int .i64 ((k + 1 : Nat) : Int))], by omega, ⟨rfl, rfl, (congrArg (fun z => some (Value.int .i64 z)) (by omega)), (congrArg (fun z => some (Value.int .i64 z)) (by omega)), trivial⟩, k + 1, a27, c28, G22, rfl, (by omega), rfl, (hl3.trans hl23), S31, hc30⟩
  refine W_exit ?_
  refine W_seq ?_
  refine W_region ?_
  refine T_pev rfl rfl rfl rfl ?_
  refine T_pev rfl rfl rfl rfl ?_
  refine T_nil ?_
  refine W_ret ?_
  refine ⟨_, ⟨_, _, rfl, rfl, rfl⟩, ?_⟩
  obtain rfl : k = l.length := by omega
  exact ⟨_, _, hc6, rfl, S8.row 0 rfl, S8.below⟩


theorem hashesR_ok {H : Hp} {w : World} (hH : H.le (hw w)) {l : List (List UInt8)} {aa0 : Option Addr} {nn0 cc0 : Nat} (hv : RdH H (.slice aa0 nn0 cc0) 32 l) (hb : l.length ≤ 100) :
    Calls Tryd.prog 64 #[.slice aa0 nn0 cc0] w fun e w' => ∃ a c, (Go.Au.flatTo [] l l.length).length ≤ c ∧ e = .returned (.slice a (Go.Au.flatTo [] l l.length).length c) ∧ rowZ w' w.heap.size 5 1 (.slice a (Go.Au.flatTo [] l l.length).length c) (Go.Au.flatTo [] l l.length).length ((Go.Au.flatTo [] l l.length).map bV) ∧ Below w.heap.size w w' := by
  obtain rfl : nn0 = l.length := hv.len
  have hvcap : l.length ≤ cc0 := hv.2.capOf
  refine enter1 _ Tryd.func64 rfl Tryd.ntmps64 Tryd.results64 rfl ?_
  have S0 := St.start w hH
  refine W_seq ?_
  refine W_region ?_
  refine T_pev rfl rfl rfl rfl ?_
  refine T_nil ?_
  refine W_seq ?_
  refine W_region ?_
  refine T_pev rfl rfl rfl rfl ?_
  refine T_nil ?_
  refine W_seq ?_
  refine W_seq ?_
  refine W_region ?_
  refine T_pev rfl rfl rfl rfl ?_
  refine T_pev rfl rfl rfl rfl ?_
  refine T_pev rfl rfl rfl rfl ?_
  refine T_nil ?_
  refine W_block ?_
  have S1 := S0.nilRow 5 1
  refine W_loop (fun M ρ w' => ∃ (k : Nat) (a4 : Option Addr) (c5 : Nat) (G2 : Hp), M = l.length - k ∧ k ≤ l.length ∧ ρ = [(0, .slice aa0 l.length cc0), (3, .slice a4 ((Go.Au.flatTo [] l k).length) c5), (6, .int .i64 ((l.length : Nat) : Int)), (7, .int .i64 (k : Int))] ∧ H.le G2 ∧ St w H G2 [.row 5 1 (.slice a4 ((Go.Au.flatTo [] l k).length) c5) ((Go.Au.flatTo [] l k).length) ((Go.Au.flatTo [] l k).map bV)] w' ∧ (Go.Au.flatTo [] l k).length ≤ c5)
    (l.length - 0) [(0, .slice aa0 l.length cc0), (3, .slice none 0 0), (6, .int .i64 ((l.length : Nat) : Int)), (7, .int .i64 ((0 : Nat) : Int))] ⟨rfl, rfl, (congrArg (fun z => some (Value.int .i64 z)) (by omega)), (congrArg (fun z => some (Value.int .i64 z)) (by omega)), trivial⟩ ⟨0, none, 0, H, rfl, (by omega), rfl, Hp.le.refl _, S1, (Nat.le_refl _)⟩ ?_
  rintro M ρ w7 ⟨k, a4, c5, G2, rfl, hp9, rfl, hl3, S8, hc6⟩
  refine W_seq ?_
  refine W_region ?_
  refine T_pev rfl rfl rfl rfl ?_
  refine T_nil ?_
  refine W_seq ?_
  refine W_cond_dec rfl (fun h10 => ?_) (fun h10 => ?_)
  · refine W_skip ?_
    refine W_seq ?_
    refine W_block ?_
    refine W_seq ?_
    refine W_region ?_
    refine T_pev rfl rfl rfl rfl ?_
    refine T_pev rfl rfl rfl rfl ?_
    refine T_nil ?_
    refine W_region ?_
    refine T_pev rfl rfl rfl rfl ?_
    refine T_pev rfl rfl rfl rfl ?_
    refine T_pev rfl rfl rfl rfl ?_
    refine T_idxR k (hv.mono hl3).2 rfl rfl rfl rfl rfl rfl rfl rfl rfl (by omega) (by omega) fun b11 o12 hc13 => ?_
    have hc14 := cells_h (hv.mono hl3).1 k (by omega) hc13
    have hl15 := len_h (hv.mono hl3).1 k (by omega)
    refine T_sliceAll rfl rfl rfl rfl rfl rfl rfl rfl ?_
    have r16 := (Rd.of_cells (m := 32) (size := 1) (xs := (l.getD k []).map bV) (cells_bV hc14) (by rw [List.length_map, hl15]))
    have hD17 : (Go.Au.flatTo [] l k ++ l.getD k []) = Go.Au.flatTo [] l (k + 1) := rfl
    have hfl : (Go.Au.flatTo [] l (k + 1)).length = (Go.Au.flatTo [] l k).length + (l.getD k []).length := List.length_append
    refine T_appendS 0 ((Go.Au.flatTo [] l (k + 1)).length) ((Go.Au.flatTo [] l (k + 1)).map bV) S8 (fun _ _ => trivial) rfl rfl rfl rfl rfl rfl rfl rfl rfl rfl rfl rfl rfl rfl (r16.mono S8.le) (one_bV _) (by first | rfl | (simp; done) | (simp; omega) | omega) (by rw [← hD17]; simp) (by unfold maxLen; have hfb := Go.Au.flatT_bd (b := []) (q := l) (Nat.zero_le _) hb hv.1 (show k + 1 ≤ l.length by omega); omega) (by show _ * 1 ≤ _; have hfb := Go.Au.flatT_bd (b := []) (q := l) (Nat.zero_le _) hb hv.1 (show k + 1 ≤ l.length by omega); omega) fun a18 c19 w20 hc21 S22 => ?_
    refine T_pev rfl rfl rfl rfl ?_
    refine T_nil ?_
    refine W_region ?_
    refine T_ari rfl rfl rfl rfl (by omega) ?_
    refine T_pev rfl rfl rfl rfl ?_
    refine T_nil ?_
    exact ⟨l.length - (k + 1), [(0, .slice aa0 l.length cc0), (3, .slice a18 ((Go.Au.flatTo [] l (k + 1)).length) c19), (6, .int .i64 ((l.length : Nat) : Int)), (7, .int .i64 ((k + 1 : Nat) : Int))], by omega, ⟨rfl, rfl, (congrArg (fun z => some (Value.int .i64 z)) (by omega)), (congrArg (fun z => some (Value.int .i64 z)) (by omega)), trivial⟩, k + 1, a18, c19, G2, rfl, (by omega), rfl, hl3, S22, hc21⟩
  refine W_exit ?_
  refine W_seq ?_
  refine W_region ?_
  refine T_pev rfl rfl rfl rfl ?_
  refine T_pev rfl rfl rfl rfl ?_
  refine T_nil ?_
  refine W_ret ?_
  refine ⟨_, ⟨_, _, rfl, rfl, rfl⟩, ?_⟩
  obtain rfl : k = l.length := by omega
  exact ⟨_, _, hc6, rfl, S8.row 0 rfl, S8.below⟩


theorem hashesL_ok {H : Hp} {w : World} (hH : H.le (hw w)) {b : List UInt8} {aa0 : Option Addr} {nn0 cc0 : Nat} (hv : Rd H (.slice aa0 nn0 cc0) nn0 1 (b.map bV)) (hb : b.length ≤ 100000) :
    Calls Tryd.prog 61 #[.slice aa0 nn0 cc0] w fun e w' => ∃ a c, (Go.Au.chunks b (b.length / 32)).length ≤ c ∧ e = .returned (.tuple #[.slice a (Go.Au.chunks b (b.length / 32)).length c, .bool (decide (b.length % 32 = 0))]) ∧ RdH (F.ext H w.heap.size w') (.slice a (Go.Au.chunks b (b.length / 32)).length c) 32 (Go.Au.chunks b (b.length / 32)) ∧ Below w.heap.size w w' := by
  obtain rfl : nn0 = b.length := hv.lenB
  have hvcap : b.length ≤ cc0 := hv.capOf
  refine enter1 _ Tryd.func61 rfl Tryd.ntmps61 Tryd.results61 rfl ?_
  have S0 := St.start w hH
  refine W_seq ?_
  refine W_region ?_
  refine T_pev rfl rfl rfl rfl ?_
  refine T_pev rfl rfl rfl rfl ?_
  refine T_nil ?_
  refine W_seq ?_
  refine W_region ?_
  refine T_pev rfl rfl rfl rfl ?_
  refine T_nil ?_
  refine W_seq ?_
  refine W_block ?_
  have S1 := S0.nilRow 23 32
  refine W_loop (fun M ρ w' => ∃ (k : Nat) (a4 : Option Addr) (nn5 c6 : Nat) (a8 : Option Addr) (c9 : Nat) (G2 : Hp), M = (b.length / 32) - k ∧ k ≤ (b.length / 32) ∧ ρ = [(0, .slice a4 nn5 c6), (4, .slice a8 k c9)] ∧ H.le G2 ∧ St w H G2 [.row 23 32 (.slice a8 k c9) k (hcells (Go.Au.chunks b k))] w' ∧ Rd G2 (.slice a4 nn5 c6) nn5 1 ((b.drop (32 * k)).map bV) ∧ (∀ y ∈ Go.Au.chunks b k, y.length = 32) ∧ k ≤ c9)
    ((b.length / 32) - 0) [(0, .slice aa0 b.length cc0), (4, .slice none 0 0)] ⟨rfl, rfl, trivial⟩ ⟨0, _, _, _, none, 0, H, rfl, (by exact Nat.zero_le _), rfl, Hp.le.refl _, S1, hv, (fun _ h => by cases h), (Nat.le_refl _)⟩ ?_
  rintro M ρ w12 ⟨k, a4, nn5, c6, a8, c9, G2, rfl, hp14, rfl, hl3, S13, hf7, hh11, hc10⟩
  obtain rfl : nn5 = (b.drop (32 * k)).length := hf7.lenB
  have hdl : (b.drop (32 * k)).length = b.length - 32 * k := List.length_drop
  refine W_seq ?_
  refine W_seq ?_
  refine W_region ?_
  refine T_pev rfl rfl rfl rfl ?_
  refine T_pev rfl rfl rfl rfl ?_
  refine T_pev rfl rfl rfl rfl ?_
  refine T_nil ?_
  refine W_cond_dec rfl (fun h15 => ?_) (fun h15 => ?_)
  · refine W_skip ?_
    refine W_block ?_
    refine W_seq ?_
    refine W_region ?_
    refine T_pev rfl rfl rfl rfl ?_
    refine T_pev rfl rfl rfl rfl ?_
    refine T_sliceR 0 32 hf7 rfl rfl rfl rfl rfl rfl rfl rfl rfl rfl (bound_of (by omega)) rfl (by omega) (by omega) fun a16 c17 hc18 r19 => ?_
    have r20 := Rd.cutB r19
    have hb24 := (r20).lenB
    have hl25 := take_len32 (l := (((b.drop (32 * k)).drop 0).take (32 - 0))) (by omega)
    refine T_s2apR r20 rfl rfl rfl rfl rfl rfl (by decide) (by omega) fun b21 o22 hc23 => ?_
    refine T_loadGA _ S13 hc23 rfl rfl rfl rfl rfl rfl rfl rfl (hVs hl25) ?_
    refine T_re (v' := hV ((b.drop (32 * k)).take 32)) (congrArg (fun q => hV q) (Go.Au.take3232 _)) ?_
    refine T_litS (hcells [(b.drop (32 * k)).take 32]) rfl rfl rfl rfl rfl rfl rfl rfl rfl rfl rfl rfl rfl (one_h (take_len32 (by omega))) (by simp [hcells, hV, Value.cells]) fun a26 w27 hB28 ho29 => ?_
    have S30 := S13.own hB28 ho29
    refine ⟨trivial, ?_⟩
    have hD31 : (Go.Au.chunks b k ++ [(b.drop (32 * k)).take 32]) = Go.Au.chunks b (k + 1) := (Go.Au.chunks_snoc _ _)
    refine T_appendS 1 (k + 1) (hcells (Go.Au.chunks b (k + 1))) S30 (fun _ _ => trivial) rfl rfl rfl rfl rfl rfl rfl rfl rfl rfl rfl rfl rfl rfl (S30.rd 0 rfl) (one_hcells _) (by first | rfl | (simp; done) | (simp; omega) | omega) (by rw [← hD31]; simp [hcells_append, hcells]) (by unfold maxLen; omega) (by show _ * 32 ≤ _; omega) fun a32 c33 w34 hc35 S36 => ?_
    have hh37 : ∀ y ∈ Go.Au.chunks b (k + 1), y.length = 32 := by rw [← hD31]; exact (all_app hh11 (all_h1 (take_len32 (by omega))))
    refine T_pev rfl rfl rfl rfl ?_
    refine T_nil ?_
    refine W_region ?_
    refine T_pev rfl rfl rfl rfl ?_
    refine T_sliceR 32 ((b.drop (32 * k)).length) hf7 rfl rfl rfl rfl rfl rfl rfl rfl rfl rfl (by first | rfl | exact congrArg some (by omega)) (bound_of (by omega)) (by omega) (by omega) fun a38 c39 hc40 r41 => ?_
    have r42 := Rd.cutB r41
    have r43 : Rd G2 (.slice a38 ((b.drop (32 * k)).length - 32) c39) ((b.drop (32 * k)).length - 32) 1 ((b.drop (32 * (k + 1))).map bV) := by rw [Go.Au.drop_step] at r42; exact r42
    refine T_pev rfl rfl rfl rfl ?_
    refine T_nil ?_
    have S44 := S36.drop 0
    exact ⟨(b.length / 32) - (k + 1), [(0, .slice a38 ((b.drop (32 * k)).length - 32) c39), (4, .slice a32 (k + 1) c33)], by omega, ⟨rfl, rfl, trivial⟩, k + 1, _, _, _, a32, c33, G2, rfl, (by omega), rfl, hl3, S44, r43, hh37, hc35⟩
  refine W_exit ?_
  refine W_seq ?_
  refine W_region ?_
  refine T_pev rfl rfl rfl rfl ?_
  refine T_pev rfl rfl rfl rfl ?_
  refine T_pev rfl rfl rfl rfl ?_
  refine T_pev rfl rfl rfl rfl ?_
  refine T_pev rfl rfl rfl rfl ?_
  refine T_pev rfl rfl rfl rfl ?_
  refine T_nil ?_
  refine W_ret ?_
  refine ⟨_, ⟨_, _, rfl, rfl, ⟨_, _, rfl, rfl, rfl⟩⟩, ?_⟩
  obtain ⟨G46, hl47, S45, r48⟩ := S13.stillRow 0 rfl
  have r49 := RdH.mk hh11 (by decide) r48
  obtain rfl : k = (b.length / 32) := by omega
  exact hs_some (Go.Au.chunks_len _ _) hc10 (by have hdl := List.length_drop (i := 32 * (b.length / 32)) (l := b); exact decide_eq_decide.2 (by omega)) ((r49).mono S45.fin) S45.below


theorem takeHashesN_ok {H : Hp} {w : World} (hH : H.le (hw w)) {b : List UInt8} {aa0 : Option Addr} {nn0 cc0 : Nat} (hv : Rd H (.slice aa0 nn0 cc0) nn0 1 (b.map bV)) (hb : b.length ≤ 100000) :
    Calls Tryd.prog 63 #[.slice aa0 nn0 cc0] w fun e w' => ∃ a c, (Go.Au.hashN b).length ≤ c ∧ e = .returned (.tuple #[.slice a (Go.Au.hashN b).length c, .bool (decide (b.length % 32 = 0))]) ∧ RdH (F.ext H w.heap.size w') (.slice a (Go.Au.hashN b).length c) 32 (Go.Au.hashN b) ∧ Below w.heap.size w w' := by
  obtain rfl : nn0 = b.length := hv.lenB
  have hvcap : b.length ≤ cc0 := hv.capOf
  refine enter1 _ Tryd.func63 rfl Tryd.ntmps63 Tryd.results63 rfl ?_
  have S0 := St.start w hH
  refine W_seq ?_
  refine W_region ?_
  refine T_pev rfl rfl rfl rfl ?_
  refine T_pev rfl rfl rfl rfl ?_
  refine T_nil ?_
  refine W_seq ?_
  refine W_seq ?_
  refine W_region ?_
  refine T_pev rfl rfl rfl rfl ?_
  refine T_pev rfl rfl rfl rfl ?_
  refine T_rem rfl rfl rfl rfl rfl rfl (by omega) ?_
  refine T_pev rfl rfl rfl rfl ?_
  refine T_nil ?_
  refine W_cond_not rfl (fun h1 => ?_) (fun h1 => ?_)
  · refine W_seq ?_
    refine W_region ?_
    refine T_pev rfl rfl rfl rfl ?_
    refine T_pev rfl rfl rfl rfl ?_
    refine T_nil ?_
    refine W_ret ?_
    refine ⟨_, ⟨_, _, rfl, rfl, ⟨_, _, rfl, rfl, rfl⟩⟩, ?_⟩
    exact hs_none (by omega) S0.below
  refine W_skip ?_
  refine W_seq ?_
  refine W_region ?_
  refine T_pev rfl rfl rfl rfl ?_
  refine T_nil ?_
  refine W_seq ?_
  refine W_seq ?_
  refine W_region ?_
  refine T_pev rfl rfl rfl rfl ?_
  refine T_nil ?_
  refine W_block ?_
  have S2 := S0.nilRow 23 32
  refine W_loop (fun M ρ w' => ∃ (k : Nat) (a5 : Option Addr) (c6 : Nat) (G3 : Hp), M = (b.length / 32) - k ∧ k ≤ (b.length / 32) ∧ ρ = [(0, .slice aa0 b.length cc0), (4, .slice a5 k c6), (5, .int .i64 ((32 * k : Nat) : Int))] ∧ H.le G3 ∧ St w H G3 [.row 23 32 (.slice a5 k c6) k (hcells (Go.Au.chunks b k))] w' ∧ (∀ y ∈ Go.Au.chunks b k, y.length = 32) ∧ k ≤ c6)
    ((b.length / 32) - 0) [(0, .slice aa0 b.length cc0), (4, .slice none 0 0), (5, .int .i64 ((32 * 0 : Nat) : Int))] ⟨rfl, rfl, (congrArg (fun z => some (Value.int .i64 z)) (by omega)), trivial⟩ ⟨0, none, 0, H, rfl, (by exact Nat.zero_le _), rfl, Hp.le.refl _, S2, (fun _ h => by cases h), (Nat.le_refl _)⟩ ?_
  rintro M ρ w9 ⟨k, a5, c6, G3, rfl, hp11, rfl, hl4, S10, hh8, hc7⟩
  refine W_seq ?_
  refine W_seq ?_
  refine W_region ?_
  refine T_pev rfl rfl rfl rfl ?_
  refine T_ari rfl rfl rfl rfl (by omega) ?_
  refine T_pev rfl rfl rfl rfl ?_
  refine T_pev rfl rfl rfl rfl ?_
  refine T_pev rfl rfl rfl rfl ?_
  refine T_nil ?_
  refine W_cond_dec rfl (fun h12 => ?_) (fun h12 => ?_)
  · refine W_skip ?_
    refine W_seq ?_
    refine W_block ?_
    refine W_seq ?_
    refine W_region ?_
    refine T_allocS S10 (fun _ _ => trivial) rfl rfl rfl rfl rfl rfl rfl fun b13 w14 S15 => ?_
    refine T_nil ?_
    refine W_seq ?_
    refine W_seq ?_
    refine W_region ?_
    refine T_pev rfl rfl rfl rfl ?_
    refine T_nil ?_
    refine W_block ?_
    refine W_loop (fun M ρ w' => ∃ (j : Nat) (a18 : Option Addr) (c19 : Nat) (G16 : Hp), M = 32 - j ∧ j ≤ 32 ∧ ρ = [(0, .slice aa0 b.length cc0), (4, .slice a18 k c19), (5, .int .i64 ((32 * k : Nat) : Int)), (6, .pointer (some ⟨b13, 0, none⟩)), (19, .int .i64 (j : Int))] ∧ G3.le G16 ∧ St w H G16 [.blk b13 (hV (Go.Au.hTo (b.drop (32 * k)) j) : Value).cells 23, .row 23 32 (.slice a18 k c19) k (hcells (Go.Au.chunks b k))] w' ∧ (∀ y ∈ Go.Au.chunks b k, y.length = 32) ∧ k ≤ c19)
      (32 - 0) [(0, .slice aa0 b.length cc0), (4, .slice a5 k c6), (5, .int .i64 ((32 * k : Nat) : Int)), (6, .pointer (some ⟨b13, 0, none⟩)), (19, .int .i64 ((0 : Nat) : Int))] ⟨rfl, rfl, (congrArg (fun z => some (Value.int .i64 z)) (by omega)), rfl, (congrArg (fun z => some (Value.int .i64 z)) (by omega)), trivial⟩ ⟨0, a5, c6, G3, rfl, (by omega), rfl, Hp.le.refl _, S15, hh8, hc7⟩ ?_
    rintro M ρ w22 ⟨j, a18, c19, G16, rfl, hp24, rfl, hl17, S23, hh21, hc20⟩
    refine W_seq ?_
    refine W_region ?_
    refine T_pev rfl rfl rfl rfl ?_
    refine T_nil ?_
    refine W_seq ?_
    refine W_cond_dec rfl (fun h25 => ?_) (fun h25 => ?_)
    · refine W_skip ?_
      refine W_seq ?_
      refine W_block ?_
      refine W_seq ?_
      refine W_region ?_
      refine T_pev rfl rfl rfl rfl ?_
      refine T_pev rfl rfl rfl rfl ?_
      refine T_nil ?_
      refine W_region ?_
      refine T_pev rfl rfl rfl rfl ?_
      refine T_pev rfl rfl rfl rfl ?_
      refine T_pev rfl rfl rfl rfl ?_
      refine T_pev rfl rfl rfl rfl ?_
      refine T_ari rfl rfl rfl rfl (by omega) ?_
      refine T_idxR ((32 * k) + j) (hv.mono (hl4.trans hl17)) rfl rfl rfl rfl rfl rfl rfl rfl rfl (by omega) (by omega) fun b26 o27 hc28 => ?_
      have hc29 := hc28 0 (bV (b.getD ((32 * k) + j) 0)) (at_b b ((32 * k) + j) (by omega))
      simp only [Nat.add_zero] at hc29
      refine T_loadG S23 hc29 rfl rfl rfl rfl rfl rfl rfl ?_
      refine T_re (v' := bV ((b.drop (32 * k)).getD j 0)) (congrArg (fun z : UInt8 => Value.int .u8 (z.toNat : Int)) (Go.Au.getD_dropB _ _ _).symm) ?_
      refine T_idxA1 rfl rfl rfl rfl rfl rfl rfl rfl rfl (by first | omega | decide) ?_
      refine T_store1S 0 j S23 (fun _ _ => trivial) rfl rfl rfl rfl rfl rfl rfl rfl rfl rfl rfl (by omega) (by rw [hVs (Go.Au.hTo_len _ _)]; omega) fun w30 S31 => ?_
      rw [hTo_put] at S31
      refine T_nil ?_
      refine W_region ?_
      refine T_ari rfl rfl rfl rfl (by omega) ?_
      refine T_pev rfl rfl rfl rfl ?_
      refine T_nil ?_
      exact ⟨32 - (j + 1), [(0, .slice aa0 b.length cc0), (4, .slice a18 k c19), (5, .int .i64 ((32 * k : Nat) : Int)), (6, .pointer (some ⟨b13, 0, none⟩)), (19, .int .i64 ((j + 1 : Nat) : Int))], by omega, ⟨rfl, rfl, (congrArg (fun z => some (Value.int .i64 z)) (by omega)), rfl, (congrArg (fun z => some (Value.int .i64 z)) (by omega)), trivial⟩, j + 1, a18, c19, G16, rfl, (by omega), rfl, hl17, S31, hh21, hc20⟩
    refine W_exit ?_
    refine W_region ?_
    refine T_pev rfl rfl rfl rfl ?_
    refine T_loadFS 0 S23 rfl rfl rfl rfl rfl rfl rfl rfl rfl (hVs (Go.Au.hTo_len _ _)) ?_
    refine T_re (v' := hV ((b.drop (32 * k)).take 32)) (congrArg (fun q => hV q) (by rw [show j = 32 by omega]; exact Go.Au.hTo_full (by rw [List.length_drop]; omega))) ?_
    refine T_litS (hcells [(b.drop (32 * k)).take 32]) rfl rfl rfl rfl rfl rfl rfl rfl rfl rfl rfl rfl rfl (one_h (take_len32 (by rw [List.length_drop]; omega))) (by simp [hcells, hV, Value.cells]) fun a32 w33 hB34 ho35 => ?_
    have S36 := S23.own hB34 ho35
    refine ⟨trivial, ?_⟩
    have hD37 : (Go.Au.chunks b k ++ [(b.drop (32 * k)).take 32]) = Go.Au.chunks b (k + 1) := (Go.Au.chunks_snoc _ _)
    refine T_appendS 2 (k + 1) (hcells (Go.Au.chunks b (k + 1))) S36 (fun _ _ => trivial) rfl rfl rfl rfl rfl rfl rfl rfl rfl rfl rfl rfl rfl rfl (S36.rd 0 rfl) (one_hcells _) (by first | rfl | (simp; done) | (simp; omega) | omega) (by rw [← hD37]; simp [hcells_append, hcells]) (by unfold maxLen; omega) (by show _ * 32 ≤ _; omega) fun a38 c39 w40 hc41 S42 => ?_
    have hh43 : ∀ y ∈ Go.Au.chunks b (k + 1), y.length = 32 := by rw [← hD37]; exact (all_app hh21 (all_h1 (take_len32 (by rw [List.length_drop]; omega))))
    refine T_pev rfl rfl rfl rfl ?_
    refine T_nil ?_
    refine W_region ?_
    refine T_pev rfl rfl rfl rfl ?_
    refine T_ari rfl rfl rfl rfl (by omega) ?_
    refine T_pev rfl rfl rfl rfl ?_
    refine T_nil ?_
    have S44 := S42.drop 1
    have S45 := S44.drop 0
    exact ⟨(b.length / 32) - (k + 1), [(0, .slice aa0 b.length cc0), (4, .slice a38 (k + 1) c39), (5, .int .i64 ((32 * (k + 1) : Nat) : Int))], by omega, ⟨rfl, rfl, (congrArg (fun z => some (Value.int .i64 z)) (by omega)), trivial⟩, k + 1, a38, c39, G16, rfl, (by omega), rfl, (hl4.trans hl17), S45, hh43, hc41⟩
  refine W_exit ?_
  refine W_seq ?_
  refine W_region ?_
  refine T_pev rfl rfl rfl rfl ?_
  refine T_pev rfl rfl rfl rfl ?_
  refine T_pev rfl rfl rfl rfl ?_
  refine T_nil ?_
  refine W_ret ?_
  refine ⟨_, ⟨_, _, rfl, rfl, ⟨_, _, rfl, rfl, rfl⟩⟩, ?_⟩
  obtain ⟨G47, hl48, S46, r49⟩ := S10.stillRow 0 rfl
  have r50 := RdH.mk hh8 (by decide) r49
  obtain rfl : k = (b.length / 32) := by omega
  exact hs_yes (by omega) hc7 ((r50).mono S46.fin) S46.below


end Go.Proofs.YtmjmjjkigblbgaaDoor
