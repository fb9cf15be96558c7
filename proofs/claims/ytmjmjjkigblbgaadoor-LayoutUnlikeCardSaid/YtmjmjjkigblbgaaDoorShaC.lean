/- A hash on its way in the program: New, Write. -/
import Derived.Test.YtmjmjjkigblbgaaDoorShaB
import Derived.Test.YtmjmjjkigblbgaaDoorPut
import Derived.Test.YtmjmjjkigblbgaaDoorFBase
set_option linter.unusedVariables false
set_option linter.unusedSimpArgs false
set_option maxRecDepth 8192
namespace Go.Proofs.YtmjmjjkigblbgaaDoor
open Go Go.F Go.RowKit

theorem g_mix : goFn Tryd.prog 115 = true := by kernel_rfl
theorem g_begin : goFn Tryd.prog 113 = true := by kernel_rfl
theorem g_table : goFn Tryd.prog 114 = true := by kernel_rfl
theorem g_put : goFn Tryd.prog 48 = true := by kernel_rfl

def shaC (hs : List (BitVec 32)) (lv : Value) (m : Nat) : Array Value := (hs.map wV ++ Go.Sha.table.map wV ++ [lv, .int .i64 (m : Int)]).toArray

theorem table_len : Go.Sha.table.length = 64 := rfl
theorem shaC_size (hs : List (BitVec 32)) (lv : Value) (m : Nat) (h : hs.length = 8) : (shaC hs lv m).size = 74 := by simp [shaC, h, table_len]
theorem shaC_h (hs : List (BitVec 32)) (lv : Value) (m : Nat) (h : hs.length = 8) (j : Nat) (v : Value) (hj : (W8 hs)[j]? = some v) : (shaC hs lv m)[j]? = some v := by
 have hlt : j < 8 := by have := (Array.getElem?_eq_some_iff.1 hj).1; simpa [h] using this
 simp only [List.getElem?_toArray] at hj
 simp only [shaC, List.getElem?_toArray, List.append_assoc]
 rw [List.getElem?_append_left (by simp; omega)]
 exact hj
theorem shaC_k (hs : List (BitVec 32)) (lv : Value) (m : Nat) (h : hs.length = 8) (j : Nat) (hj : j < 64) : (shaC hs lv m)[8 + j]? = some (wV (Go.Sha.table.getD j 0)) := by
 simp only [shaC, List.getElem?_toArray, List.append_assoc]
 rw [List.getElem?_append_right (by simp; omega), List.getElem?_append_left (by simp [table_len, h]; omega)]
 have e : 8 + j - (hs.map wV).length = j := by simp [h]
 rw [e, List.getElem?_map, List.getD_eq_getElem?_getD, List.getElem?_eq_getElem (by rw [table_len]; exact hj)]
 rfl
theorem shaC_l (hs : List (BitVec 32)) (lv : Value) (m : Nat) (h : hs.length = 8) : (shaC hs lv m)[72]? = some lv := by
 simp only [shaC, List.getElem?_toArray]
 rw [List.getElem?_append_right (by simp [h, table_len])]
 simp [h, table_len]
theorem shaC_n (hs : List (BitVec 32)) (lv : Value) (m : Nat) (h : hs.length = 8) : (shaC hs lv m)[73]? = some (.int .i64 (m : Int)) := by
 simp only [shaC, List.getElem?_toArray]
 rw [List.getElem?_append_right (by simp [h, table_len])]
 simp [h, table_len]
theorem shaC_setn (hs : List (BitVec 32)) (lv : Value) (m m' : Nat) (h : hs.length = 8) : (shaC hs lv m).setIfInBounds 73 (.int .i64 (m' : Int)) = shaC hs lv m' := by
 simp only [shaC]
 rw [List.setIfInBounds_toArray, List.set_append_right _ _ (by simp [h, table_len])]
 simp [h, table_len]
theorem shaC_setl (hs : List (BitVec 32)) (lv lv' : Value) (m : Nat) (h : hs.length = 8) : (shaC hs lv m).setIfInBounds 72 lv' = shaC hs lv' m := by
 simp only [shaC]
 rw [List.setIfInBounds_toArray, List.set_append_right _ _ (by simp [h, table_len])]
 simp [h, table_len]
theorem shaC_seth (hs hs' : List (BitVec 32)) (lv : Value) (m : Nat) (h : hs.length = 8) (h' : hs'.length = 8) :
  ((shaC hs lv m).toList.take 0 ++ (Value.agg (W8 hs')).cells.toList ++ (shaC hs lv m).toList.drop (0 + (Value.agg (W8 hs')).cells.size)).toArray = shaC hs' lv m := by
 simp only [shaC, Value.cells, List.take_zero, List.nil_append, Nat.zero_add]
 congr 1
 have e : (W8 hs').size = (hs.map wV).length := by simp [h, h']
 rw [e, List.append_assoc, List.drop_left, List.append_assoc]

def ShaAt (w : World) (sb B : Nat) (m : List UInt8) : Prop :=
 sb < B ∧ ∃ lv, w.heap[sb]? = some (.cells (shaC (Go.Sha.chew Go.Sha.begin m) lv m.length) 146 (0, 0)) ∧ Rd (hn w B) lv (Go.Sha.rest m).length 1 ((Go.Sha.rest m).map bV)

theorem ShaAt.step {w w' : World} {sb B : Nat} {m : List UInt8} {row : Option Nat} (h : ShaAt w sb B m) (hg : w.grownBy w' row) (hr : ∀ g, row = some g → g ≠ sb ∧ g < B) : ShaAt w' sb B m := by
 obtain ⟨h0, lv, h1, h2⟩ := h
 exact ⟨h0, lv, gblk hg h1 (fun e => (hr sb e).1 rfl), h2.mono (hn_step hg (fun g e => (hr g e).2))⟩
theorem ShaAt.call {w w' : World} {sb B : Nat} {m : List UInt8} (h : ShaAt w sb B m) (hb : Below w.heap.size w w') : ShaAt w' sb B m := h.step (grown_of_below hb none) (by simp)

theorem begin_ok (w : World) : Calls Tryd.prog 113 #[] w fun e w' => e = .returned (.agg (W8 Go.Sha.begin)) ∧ Below w.heap.size w w' := by
 refine enter0 _ Tryd.func113 rfl Tryd.ntmps113 Tryd.results113 ?_
 repeat (first | refine W_seq ?_ | refine W_region ?_ | refine Wd ?_ | refine W_block ?_ | refine W_exit ?_ | refine W_skip ?_ | refine W_ret ?_ | refine T_nil ?_ | refine Ar ?_ | refine Pv ?_)
 refine T_alloc (fun _ => trivial) rfl rfl rfl rfl rfl rfl rfl fun b w1 hb hc hg => ?_
 repeat (first | refine W_seq ?_ | refine W_region ?_ | refine Wd ?_ | refine W_block ?_ | refine W_exit ?_ | refine W_skip ?_ | refine W_ret ?_ | refine T_nil ?_ | refine Ar ?_ | refine Pv ?_ | refine T_buildA1 rfl rfl rfl rfl rfl rfl rfl rfl rfl rfl rfl rfl rfl ?_)
 refine T_storeF (v := .agg (W8 Go.Sha.begin)) (fun _ => trivial) rfl rfl rfl rfl rfl rfl rfl hc rfl rfl rfl (one_wV _) fun w2 hc2 hg2 _ => ?_
 repeat (first | refine W_seq ?_ | refine W_region ?_ | refine Wd ?_ | refine W_block ?_ | refine W_exit ?_ | refine W_skip ?_ | refine W_ret ?_ | refine T_nil ?_ | refine Ar ?_ | refine Pv ?_)
 refine ⟨_, ⟨_, _, _, rfl, rfl, run_loadVarA (cs := W8 Go.Sha.begin) rfl rfl rfl ?_, rfl⟩, rfl, (below_of_grown hg).stepg hg2 (by omega)⟩
 exact blk_cells hc2

set_option maxRecDepth 100000 in
theorem table_ok (w : World) : Calls Tryd.prog 114 #[] w fun e w' => e = .returned (.agg (W8 Go.Sha.table)) ∧ Below w.heap.size w w' := by
 refine enter0 _ Tryd.func114 rfl Tryd.ntmps114 Tryd.results114 ?_
 repeat (first | refine W_seq ?_ | refine W_region ?_ | refine Wd ?_ | refine W_block ?_ | refine W_exit ?_ | refine W_skip ?_ | refine W_ret ?_ | refine T_nil ?_ | refine Ar ?_ | refine Pv ?_)
 refine T_alloc (fun _ => trivial) rfl rfl rfl rfl rfl rfl rfl fun b w1 hb hc hg => ?_
 repeat (first | refine W_seq ?_ | refine W_region ?_ | refine Wd ?_ | refine W_block ?_ | refine W_exit ?_ | refine W_skip ?_ | refine W_ret ?_ | refine T_nil ?_ | refine Ar ?_ | refine Pv ?_ | refine T_buildA1 rfl rfl rfl rfl rfl rfl rfl rfl rfl rfl rfl rfl rfl ?_)
 refine T_storeF (v := .agg (W8 Go.Sha.table)) (fun _ => trivial) rfl rfl rfl rfl rfl rfl rfl hc rfl rfl rfl (one_wV _) fun w2 hc2 hg2 _ => ?_
 repeat (first | refine W_seq ?_ | refine W_region ?_ | refine Wd ?_ | refine W_block ?_ | refine W_exit ?_ | refine W_skip ?_ | refine W_ret ?_ | refine T_nil ?_ | refine Ar ?_ | refine Pv ?_)
 refine ⟨_, ⟨_, _, _, rfl, rfl, run_loadVarA (cs := W8 Go.Sha.table) rfl rfl rfl ?_, rfl⟩, rfl, (below_of_grown hg).stepg hg2 (by omega)⟩
 exact blk_cells hc2

set_option maxRecDepth 100000 in
theorem new_ok (w : World) : Calls Tryd.prog 96 #[] w fun e w' => ∃ sb, e = .returned (.pointer (some ⟨sb, 0, none⟩)) ∧ w.heap.size ≤ sb ∧ sb < w'.heap.size ∧ ShaAt w' sb w'.heap.size [] ∧ Below w.heap.size w w' := by
 refine enter0 _ Tryd.func96 rfl Tryd.ntmps96 Tryd.results96 ?_
 repeat (first | refine W_seq ?_ | refine W_region ?_ | refine Wd ?_ | refine W_block ?_ | refine W_exit ?_ | refine W_skip ?_ | refine W_ret ?_ | refine T_nil ?_ | refine Ar ?_ | refine Pv ?_)
 refine T_call (fun _ => trivial) rfl rfl g_begin rfl rfl rfl rfl ((begin_ok _).mono ?_)
 rintro e w1 ⟨rfl, hB1⟩
 refine ⟨_, rfl, ?_⟩
 refine T_call (fun _ => trivial) rfl rfl g_table rfl rfl rfl rfl ((table_ok _).mono ?_)
 rintro e w2 ⟨rfl, hB2⟩
 refine ⟨_, rfl, ?_⟩
 refine T_buildS (cells := shaC Go.Sha.begin (.slice none 0 0) 0) rfl rfl rfl rfl rfl rfl (by kernel_rfl) rfl rfl rfl ?_
 refine T_box (fun _ => trivial) rfl rfl rfl rfl rfl rfl fun b w3 hb hc hg => ?_
 repeat (first | refine W_seq ?_ | refine W_region ?_ | refine Wd ?_ | refine W_block ?_ | refine W_exit ?_ | refine W_skip ?_ | refine W_ret ?_ | refine T_nil ?_ | refine Ar ?_ | refine Pv ?_)
 have hB : Below w.heap.size w w2 := hB1.call hB2
 have := hB.size
 have := blk_lt hc
 refine ⟨_, ⟨_, _, rfl, rfl, rfl⟩, b, rfl, by omega, by omega, ⟨by omega, .slice none 0 0, hc, Rd.nil _ 1⟩, hB.step0 hg⟩

set_option maxHeartbeats 4000000 in
theorem write_ok (m b : List UInt8) (sb B : Nat) (v : Value) (w : World) (hs : ShaAt w sb B m) (hv : Rd (hx w sb) v b.length 1 (b.map bV)) (hl : m.length + b.length ≤ 1000000000) :
  Calls Tryd.prog 97 #[.pointer (some ⟨sb, 0, none⟩), v] w fun e w' => e = .returned (.int .i64 ((m ++ b).length : Int)) ∧ ShaAt w' sb w.heap.size (m ++ b) ∧ w.grownBy w' (some sb) := by
 obtain ⟨hsB, lv, hc, hlv⟩ := hs
 have hsw := blk_lt hc
 have h8 : (Go.Sha.chew Go.Sha.begin m).length = 8 := Go.Sha.chew_len _ _ rfl
 have hrl := Go.Sha.rest_len m
 obtain ⟨va, vc, rfl, _⟩ := hv.shape
 refine enter2 _ Tryd.func97 rfl Tryd.ntmps97 Tryd.results97 rfl ?_
 have hn0 : w.cell? ⟨sb, 73, none⟩ = some (.int .i64 (m.length : Int)) := cell_of_hcell (by rw [hcell_blk hc]; exact shaC_n _ _ _ h8)
 repeat (first | refine W_seq ?_ | refine W_region ?_ | refine Wd ?_ | refine W_block ?_ | refine W_exit ?_ | refine W_skip ?_ | refine W_ret ?_ | refine T_nil ?_ | refine Ar ?_ | refine Fl 0 ?_ | refine Fl 8 ?_ | refine Fl 72 ?_ | refine Fl 73 ?_ | refine Pv ?_ | refine T_load rfl rfl rfl rfl rfl rfl rfl hn0 ?_)
 refine T_store1 (v := .int .i64 (((m ++ b).length : Nat) : Int)) 73 (fun _ => trivial) rfl rfl (congrArg (fun z => some (Value.int .i64 z)) (by simp)) rfl rfl rfl rfl rfl rfl rfl hc rfl (by rw [shaC_size _ _ _ h8]; omega) fun w1 hc1 hg1 _ => ?_
 rw [shaC_setn _ _ _ _ h8] at hc1
 replace hlv := hlv.mono (hn_step hg1 (by simp; omega))
 replace hv := hv.mono (hx_step hg1 (by simp))
 clear hc hn0
 have hl1 : w1.cell? ⟨sb, 72, none⟩ = some lv := cell_of_hcell (by rw [hcell_blk hc1]; exact shaC_l _ _ _ h8)
 obtain ⟨la, lc, hlvs, _⟩ := hlv.shape
 repeat (first | refine W_seq ?_ | refine W_region ?_ | refine Wd ?_ | refine W_block ?_ | refine W_exit ?_ | refine W_skip ?_ | refine W_ret ?_ | refine T_nil ?_ | refine Ar ?_ | refine Fl 0 ?_ | refine Fl 8 ?_ | refine Fl 72 ?_ | refine Fl 73 ?_ | refine Pv ?_ | refine T_load rfl rfl rfl rfl rfl rfl rfl hl1 ?_)
 refine T_append (size := 1) (base := w.heap.size) (fun _ => trivial) rfl rfl rfl rfl rfl rfl rfl rfl rfl rfl rfl rfl (by decide) (World.ownsRow_nil _ _ _ _) (hlv.mono (hn_le _ _)) (one_bV _) (by unfold maxLen; omega) (by show _ * 1 ≤ _; omega) hg1.size fun v2 w2 ho2 hg2 => ?_
 simp only [Nat.zero_add, List.nil_append] at ho2
 have hG := gb_trans hg1 hg2 (by simp [Value.ownBlock])
 have hc2 := gblk hg2 hc1 (by simp [Value.ownBlock])
 replace hv := hv.mono (hx_step hg2 (by simp [Value.ownBlock]))
 clear hl1 hg1 hg2 hc1
 repeat (first | refine W_seq ?_ | refine W_region ?_ | refine Wd ?_ | refine W_block ?_ | refine W_exit ?_ | refine W_skip ?_ | refine W_ret ?_ | refine T_nil ?_ | refine Ar ?_ | refine Pv ?_)
 refine T_append (size := 1) (fun _ => trivial) rfl rfl rfl rfl rfl rfl rfl rfl rfl rfl rfl rfl (by decide) ho2 (hv.mono (hx_le _ _)) (one_bV _) (by unfold maxLen; omega) (by show _ * 1 ≤ _; omega) hG.size fun v3 w3 ho3 hg3 => ?_
 have hne2 : ∀ g, v2.ownBlock = some g → w.heap.size ≤ g := fun g hg => (ho2.lt g hg).1
 replace hG := gb_trans hG hg3 (fun g hg => .inr (hne2 g hg))
 have hc3 := gblk hg3 hc2 (fun e => by have := hne2 sb e; omega)
 clear hg3 hc2 hv hne2
 have hr3 : Rd (hn w3 w.heap.size) v3 (Go.Sha.rest m ++ b).length 1 ((Go.Sha.rest m ++ b).map bV) := by
  have := Rd.of_owns_hn ho3
  simpa using this
 clear ho2 ho3
 obtain ⟨a3, c3, rfl, _⟩ := hr3.shape
 repeat (first | refine W_seq ?_ | refine W_region ?_ | refine Wd ?_ | refine W_block ?_ | refine W_exit ?_ | refine W_skip ?_ | refine W_ret ?_ | refine T_nil ?_ | refine Ar ?_ | refine Pv ?_)
 have hchew := Go.Sha.chew_append Go.Sha.begin m b
 refine W_loop (fun M ρ w' => ∃ (x : List UInt8) (hs : List (BitVec 32)) (a : Option Addr) (c : Nat), M = x.length ∧ ρ = [(0, .pointer (some ⟨sb, 0, none⟩)), (5, .slice a x.length c)] ∧ hs.length = 8 ∧ x.length ≤ 1000000100 ∧
   Go.Sha.chew Go.Sha.begin (m ++ b) = Go.Sha.chew hs x ∧ Go.Sha.rest (m ++ b) = Go.Sha.rest x ∧ w'.heap[sb]? = some (.cells (shaC hs lv (m ++ b).length) 146 (0, 0)) ∧ Rd (hn w' w.heap.size) (.slice a x.length c) x.length 1 (x.map bV) ∧ w.grownBy w' (some sb))
  (Go.Sha.rest m ++ b).length [(0, .pointer (some ⟨sb, 0, none⟩)), (5, .slice a3 (Go.Sha.rest m ++ b).length c3)] ⟨rfl, rfl, trivial⟩ ⟨_, _, a3, c3, rfl, rfl, h8, by simp; omega, hchew.1, hchew.2, hc3, hr3, hG⟩ ?_
 clear hc3 hr3 hG hchew
 rintro M ρ w4 ⟨x, hs, a, c, rfl, rfl, h8', hxl, hch, hre, hc4, hr4, hG⟩
 repeat (first | refine W_seq ?_ | refine W_region ?_ | refine Wd ?_ | refine W_block ?_ | refine W_exit ?_ | refine W_skip ?_ | refine W_ret ?_ | refine T_nil ?_ | refine Ar ?_ | refine Pv ?_)
 refine Aa (fun h => ?_) (fun h => ?_)
 ·have hx64 : 64 ≤ x.length := by omega
  have hch' := Go.Sha.chew_step (h := hs) hx64
  have hk : ∀ i, i < 64 → hcell (hw w4.drew) sb (8 + i) = some (wV (Go.Sha.table.getD i 0)) := fun i hi => (hcell_blk hc4 _).trans (shaC_k hs lv _ h8' i hi)
  repeat (first | refine W_seq ?_ | refine W_region ?_ | refine Wd ?_ | refine W_block ?_ | refine W_exit ?_ | refine W_skip ?_ | refine W_ret ?_ | refine T_nil ?_ | refine Ar ?_ | refine Fl 0 ?_ | refine Fl 8 ?_ | refine Fl 72 ?_ | refine Fl 73 ?_ | refine Pv ?_ | (refine T_loadA (W8 hs) rfl rfl rfl rfl rfl rfl rfl rfl (by simp [h8']; rfl) (fun j v hj => by rw [Nat.zero_add]; exact cell_of_hcell ((hcell_blk hc4 _).trans (shaC_h hs lv _ h8' j v hj))) ?_) | refine T_slice (size := 1) (l := 0) (h := 64) rfl rfl rfl rfl rfl rfl rfl rfl rfl rfl hr4 rfl rfl (by decide) hx64 (fun a' c' r => ?_))
  have r' : Rd (hw w4.drew) (.slice a' 64 c') 64 1 ((x.take 64).map bV) := by
   have r0 : Rd (hw w4) (.slice a' 64 c') 64 1 ((x.take 64).map bV) := by simpa [List.map_take] using r.mono (hn_le _ _)
   exact r0
  refine T_call (fun _ => trivial) rfl rfl g_mix rfl rfl rfl rfl ((mix hs (x.take 64) sb 8 _ _ h8' hk (by simp; omega) r').mono ?_)
  rintro e w5 ⟨rfl, hB5⟩
  refine ⟨_, rfl, ?_⟩
  replace hB5 := unbelow hB5
  replace hc4 := blk_call hc4 hB5
  replace hr4 := hr4.mono (hn_call hB5)
  replace hG := gb_call hG hB5
  have h8m := Go.Sha.mix_len hs (x.take 64) h8'
  repeat (first | refine W_seq ?_ | refine W_region ?_ | refine Wd ?_ | refine W_block ?_ | refine W_exit ?_ | refine W_skip ?_ | refine W_ret ?_ | refine T_nil ?_ | refine Ar ?_ | refine Fl 0 ?_ | refine Fl 8 ?_ | refine Fl 72 ?_ | refine Fl 73 ?_ | refine Pv ?_)
  refine T_store (v := .agg (W8 (Go.Sha.mix hs (x.take 64)))) (fun _ => trivial) rfl rfl rfl rfl rfl rfl rfl hc4 (by simp [Value.cells, h8m]; rfl) (by rw [shaC_size _ _ _ h8']; simp [Value.cells, h8m]) (one_wV _) fun w6 hc6 hg6 _ => ?_
  rw [shaC_seth _ _ _ _ h8' h8m] at hc6
  replace hr4 := hr4.mono (hn_step hg6 (by simp; omega))
  replace hG := gb_trans hG hg6 (by simp)
  repeat (first | refine W_seq ?_ | refine W_region ?_ | refine Wd ?_ | refine W_block ?_ | refine W_exit ?_ | refine W_skip ?_ | refine W_ret ?_ | refine T_nil ?_ | refine Ar ?_ | refine Pv ?_ | refine T_slice (size := 1) (l := 64) (h := x.length) rfl rfl rfl rfl rfl rfl rfl rfl rfl rfl hr4 rfl rfl hx64 (Nat.le_refl _) (fun a2 c2 r2 => ?_))
  have r2' : Rd (hn w6 w.heap.size) (.slice a2 (x.drop 64).length c2) (x.drop 64).length 1 ((x.drop 64).map bV) := by
   simp only [Nat.mul_one, List.map_drop, List.length_drop] at r2 ⊢
   rwa [List.take_of_length_le (by simp)] at r2
  exact ⟨(x.drop 64).length, [(0, .pointer (some ⟨sb, 0, none⟩)), (5, .slice a2 (x.drop 64).length c2)], by simp; omega, ⟨rfl, by simp [Env.get?], trivial⟩, x.drop 64, Go.Sha.mix hs (x.take 64), a2, c2, rfl, rfl, h8m, by simp; omega, hch.trans hch'.1, hre.trans hch'.2, hc6, r2', hG⟩
 ·have hx64 : x.length < 64 := by omega
  obtain ⟨q1, q2⟩ := Go.Sha.chew_short (h := hs) hx64
  rw [q1] at hch
  rw [q2] at hre
  have hn1 : ∀ lv', (shaC hs lv' (m ++ b).length)[73]? = some (.int .i64 ((m ++ b).length : Int)) := fun lv' => shaC_n _ _ _ h8'
  repeat (first | refine W_seq ?_ | refine W_region ?_ | refine Wd ?_ | refine W_block ?_ | refine W_exit ?_ | refine W_skip ?_ | refine W_ret ?_ | refine T_nil ?_ | refine Ar ?_ | refine Fl 0 ?_ | refine Fl 8 ?_ | refine Fl 72 ?_ | refine Fl 73 ?_ | refine Pv ?_)
  refine T_store1 72 (fun _ => trivial) rfl rfl rfl rfl rfl rfl rfl rfl rfl rfl hc4 rfl (by rw [shaC_size _ _ _ h8']; omega) fun w5 hc5 hg5 _ => ?_
  rw [shaC_setl _ _ _ _ h8'] at hc5
  replace hr4 := hr4.mono (hn_step hg5 (by simp; omega))
  replace hG := gb_trans hG hg5 (by simp)
  have hn2 : w5.cell? ⟨sb, 73, none⟩ = some (.int .i64 ((m ++ b).length : Int)) := cell_of_hcell (by rw [hcell_blk hc5]; exact hn1 _)
  repeat (first | refine W_seq ?_ | refine W_region ?_ | refine Wd ?_ | refine W_block ?_ | refine W_exit ?_ | refine W_skip ?_ | refine W_ret ?_ | refine T_nil ?_ | refine Ar ?_ | refine Fl 0 ?_ | refine Fl 8 ?_ | refine Fl 72 ?_ | refine Fl 73 ?_ | refine Pv ?_ | refine T_load rfl rfl rfl rfl rfl rfl rfl hn2 ?_)
  refine ⟨_, ⟨_, _, rfl, rfl, rfl⟩, rfl, ⟨hsw, _, by rw [hch]; exact hc5, ?_⟩, hG⟩
  rw [hre]; exact hr4

end Go.Proofs.YtmjmjjkigblbgaaDoor
