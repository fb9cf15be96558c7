/- A hash on its way in the program: Sum; the hash of bytes. -/
import Derived.Test.YtmjmjjkigblbgaaDoorShaC
import Derived.Test.YtmjmjjkigblbgaaDoorFRest
set_option linter.unusedVariables false
set_option linter.unusedSimpArgs false
set_option maxRecDepth 8192

namespace Go.Proofs.YtmjmjjkigblbgaaDoor
open Go Go.F Go.RowKit

theorem one_bA (l : List UInt8) : ∀ u ∈ (hV l).cells.toList, u.oneCell' = true := by
 simpa [hV, Value.cells] using one_bV l

def outC (hs : List (BitVec 32)) (i : Nat) : List Value := (Go.Sha.out (hs.take i)).map bV ++ List.replicate (32 - 4 * i) (bV 0)
theorem outC_len (hs : List (BitVec 32)) (h : hs.length = 8) (i : Nat) (hi : i ≤ 8) : (outC hs i).length = 32 := by
 simp only [outC, List.length_append, List.length_map, Go.Sha.out_len, List.length_take, List.length_replicate]; omega
theorem outC_step (hs : List (BitVec 32)) (h : hs.length = 8) (i : Nat) (hi : i < 8) :
  ((outC hs i).toArray.toList.take (0 + 4 * i) ++ (Go.Sha.put (hs.getD i 0).toNat 4).map bV ++ (outC hs i).toArray.toList.drop (0 + 4 * i + ((Go.Sha.put (hs.getD i 0).toNat 4).map bV).length)).toArray = (outC hs (i + 1)).toArray := by
 have e1 : (Go.Sha.out (hs.take i)).length = 4 * i := by rw [Go.Sha.out_len, List.length_take]; omega
 have e2 : ((Go.Sha.put (hs.getD i 0).toNat 4).map bV).length = 4 := by rw [List.length_map, Go.Sha.put_len]
 have e3 : hs.take (i + 1) = hs.take i ++ [hs.getD i 0] := by
  rw [List.take_add_one, List.getD_eq_getElem?_getD, List.getElem?_eq_getElem (by omega)]; rfl
 congr 1
 rw [e2, outC, outC, e3, Go.Sha.out_append, List.map_append]
 have e4 : Go.Sha.out [hs.getD i 0] = Go.Sha.put (hs.getD i 0).toNat 4 := by simp [Go.Sha.out]
 rw [e4, Nat.zero_add, List.toList_toArray, List.take_left' (by rw [List.length_map, e1]), List.drop_append, List.drop_of_length_le (by rw [List.length_map, e1]; omega), List.length_map, e1, List.drop_replicate, List.nil_append]
 congr 2; omega

set_option maxHeartbeats 4000000 in
theorem sumM_ok (m : List UInt8) (sb B : Nat) (w : World) (hs : ShaAt w sb B m) (hl : m.length ≤ 1000000000) :
  Calls Tryd.prog 98 #[.pointer (some ⟨sb, 0, none⟩)] w fun e w' => e = .returned (hV (Go.Sha.sha m)) ∧ Below w.heap.size w w' := by
 obtain ⟨hsB, lv, hc, hlv⟩ := hs
 have hsw := blk_lt hc
 have h8 : (Go.Sha.chew Go.Sha.begin m).length = 8 := Go.Sha.chew_len _ _ rfl
 have hrl := Go.Sha.rest_len m
 have hz := Go.Sha.zeros_le m.length
 refine enter1 _ Tryd.func98 rfl Tryd.ntmps98 Tryd.results98 rfl ?_
 repeat (first | refine W_seq ?_ | refine W_region ?_ | refine Wd ?_ | refine W_block ?_ | refine W_exit ?_ | refine W_skip ?_ | refine W_ret ?_ | refine T_nil ?_ | refine Ar ?_ | refine Pv ?_)
 refine T_alloc (fun _ => trivial) rfl rfl rfl rfl rfl rfl rfl fun b0 w1 hb0 ho1 hg1 => ?_
 have hB1 : Below w.heap.size w w1 := below_of_grown hg1
 have hc1 := blk_call hc hB1
 have hb1 := blk_lt ho1
 replace hlv := (hlv.mono (hn_le _ _)).mono (hw_le_none hg1)
 clear hg1 hc
 have hl1 : w1.cell? ⟨sb, 72, none⟩ = some lv := cell_of_hcell (by rw [hcell_blk hc1]; exact shaC_l _ _ _ h8)
 obtain ⟨la, lc, hlvs, _⟩ := hlv.shape
 repeat (first | refine W_seq ?_ | refine W_region ?_ | refine Wd ?_ | refine W_block ?_ | refine W_exit ?_ | refine W_skip ?_ | refine W_ret ?_ | refine T_nil ?_ | refine Ar ?_ | refine Fl 0 ?_ | refine Fl 8 ?_ | refine Fl 72 ?_ | refine Fl 73 ?_ | refine Pv ?_ | refine T_load rfl rfl rfl rfl rfl rfl rfl hl1 ?_)
 refine T_append (size := 1) (base := w1.heap.size) (fun _ => trivial) rfl rfl rfl rfl rfl rfl rfl rfl rfl rfl rfl rfl (by decide) (World.ownsRow_nil _ _ _ _) hlv (one_bV _) (by unfold maxLen; omega) (by show _ * 1 ≤ _; omega) (Nat.le_refl _) fun v2 w2 ho2 hg2 => ?_
 simp only [Nat.zero_add, List.nil_append] at ho2
 have hB2 := hB1.step hg2 (by simp [Value.ownBlock])
 replace hg2 := below_of_grown (w := w1) (w' := w2) ⟨hg2.os, hg2.tape, hg2.output, hg2.size, fun g hk _ => hg2.block g hk (by simp [Value.ownBlock])⟩
 replace hc1 := blk_call hc1 hg2
 replace ho1 := blk_call ho1 hg2
 clear hl1 hlv hB1
 repeat (first | refine W_seq ?_ | refine W_region ?_ | refine Wd ?_ | refine W_block ?_ | refine W_exit ?_ | refine W_skip ?_ | refine W_ret ?_ | refine T_nil ?_ | refine Ar ?_ | refine Pv ?_)
 refine T_lit1 (fun _ => trivial) rfl rfl rfl rfl rfl rfl rfl rfl rfl rfl rfl rfl fun vl w3 hl3 hg3 => ?_
 replace ho2 := ho2.kept hg3 (by cases hq : v2.ownBlock <;> simp)
 have hB3 := hB2.step0 hg3
 replace hc1 := gblk hg3 hc1 (by simp)
 replace ho1 := gblk hg3 ho1 (by simp)
 have hbase3 : w1.heap.size ≤ w3.heap.size := Nat.le_trans hg2.size hg3.size
 clear hg2 hg3 hB2
 repeat (first | refine W_seq ?_ | refine W_region ?_ | refine Wd ?_ | refine W_block ?_ | refine W_exit ?_ | refine W_skip ?_ | refine W_ret ?_ | refine T_nil ?_ | refine Ar ?_ | refine Pv ?_)
 refine T_append (size := 1) (fun _ => trivial) rfl rfl rfl rfl rfl rfl rfl rfl rfl rfl rfl rfl (by decide) ho2 (Rd.of_owns hl3) (one_bV [0x80]) (by unfold maxLen; omega) (by show _ * 1 ≤ _; omega) hbase3 fun v4 w4 ho4 hg4 => ?_
 have hne2 : ∀ g, v2.ownBlock = some g → w1.heap.size ≤ g := fun g hg => (ho2.lt g hg).1
 have hB4 := hB3.step hg4 (fun g hg => by have := hne2 g hg; omega)
 replace hc1 := gblk hg4 hc1 (fun e => by have := hne2 sb e; omega)
 replace ho1 := gblk hg4 ho1 (fun e => by have := hne2 b0 e; omega)
 have hbase4 : w1.heap.size ≤ w4.heap.size := Nat.le_trans hbase3 hg4.size
 clear hg4 hB3 hne2 ho2 hl3
 have ho4' : w4.ownsRow w1.heap.size 5 1 v4 ((Go.Sha.rest m).length + 1 + 0) ((Go.Sha.rest m ++ [0x80] ++ List.replicate 0 (0 : UInt8)).map bV) := by
  rw [List.replicate_zero, List.append_nil, List.map_append]; exact ho4
 clear ho4
 obtain ⟨a4, c4, hv4, _⟩ := (Rd.of_owns ho4').shape
 subst hv4
 repeat (first | refine W_seq ?_ | refine W_region ?_ | refine Wd ?_ | refine W_block ?_ | refine W_exit ?_ | refine W_skip ?_ | refine W_ret ?_ | refine T_nil ?_ | refine Ar ?_ | refine Pv ?_)
 refine W_loop (fun M ρ w' => ∃ (j : Nat) (v : Value), M = Go.Sha.zeros m.length - j ∧ j ≤ Go.Sha.zeros m.length ∧ ρ = [(0, .pointer (some ⟨sb, 0, none⟩)), (2, .pointer (some ⟨b0, 0, none⟩)), (3, v)] ∧
   w'.ownsRow w1.heap.size 5 1 v ((Go.Sha.rest m).length + 1 + j) ((Go.Sha.rest m ++ [0x80] ++ List.replicate j (0 : UInt8)).map bV) ∧ w'.heap[sb]? = some (.cells (shaC (Go.Sha.chew Go.Sha.begin m) lv m.length) 146 (0, 0)) ∧
   (∃ c0 : Array Value, c0.size = 32 ∧ w'.heap[b0]? = some (.cells c0 23 (0, 0))) ∧ Below w.heap.size w w' ∧ w1.heap.size ≤ w'.heap.size)
  (Go.Sha.zeros m.length - 0) [(0, .pointer (some ⟨sb, 0, none⟩)), (2, .pointer (some ⟨b0, 0, none⟩)), (3, .slice a4 ((Go.Sha.rest m).length + 1 + 0) c4)] ⟨rfl, rfl, rfl, trivial⟩ ⟨0, _, rfl, by omega, rfl, ho4', hc1, ⟨_, rfl, ho1⟩, hB4, hbase4⟩ ?_
 clear ho4' hc1 ho1 hB4 hbase4
 rintro M ρ w5 ⟨j, v, rfl, hj, rfl, ho5, hc5, ⟨c0, hc0, ho1⟩, hB5, hbase5⟩
 obtain ⟨va, vc, hvs, _⟩ := (Rd.of_owns ho5).shape
 subst hvs
 repeat (first | refine W_seq ?_ | refine W_region ?_ | refine Wd ?_ | refine W_block ?_ | refine W_exit ?_ | refine W_skip ?_ | refine W_ret ?_ | refine T_nil ?_ | refine Ar ?_ | refine Pv ?_ | refine T_rem rfl rfl rfl rfl rfl rfl (by omega) ?_)
 refine W_cond_not rfl (fun h => ?_) (fun h => ?_)
 ·have hj1 := Go.Sha.zeros_more hrl hj (fun e => h (by omega))
  repeat (first | refine W_seq ?_ | refine W_region ?_ | refine Wd ?_ | refine W_block ?_ | refine W_exit ?_ | refine W_skip ?_ | refine W_ret ?_ | refine T_nil ?_ | refine Ar ?_ | refine Pv ?_)
  refine T_lit1 (fun _ => trivial) rfl rfl rfl rfl rfl rfl rfl rfl rfl rfl rfl rfl fun vl w6 hl6 hg6 => ?_
  replace ho5 := ho5.kept hg6 (by cases hq : (Value.slice va ((Go.Sha.rest m).length + 1 + j) vc).ownBlock <;> simp)
  have hB6 := hB5.step0 hg6
  replace hc5 := gblk hg6 hc5 (by simp)
  replace ho1 := gblk hg6 ho1 (by simp)
  have hbase6 : w1.heap.size ≤ w6.heap.size := Nat.le_trans hbase5 hg6.size
  clear hg6 hB5
  repeat (first | refine W_seq ?_ | refine W_region ?_ | refine Wd ?_ | refine W_block ?_ | refine W_exit ?_ | refine W_skip ?_ | refine W_ret ?_ | refine T_nil ?_ | refine Ar ?_ | refine Pv ?_)
  refine T_append (size := 1) (fun _ => trivial) rfl rfl rfl rfl rfl rfl rfl rfl rfl rfl rfl rfl (by decide) ho5 (Rd.of_owns hl6) (one_bV [0]) (by unfold maxLen; omega) (by show _ * 1 ≤ _; omega) hbase6 fun v7 w7 ho7 hg7 => ?_
  have hne5 : ∀ g, (Value.slice va ((Go.Sha.rest m).length + 1 + j) vc).ownBlock = some g → w1.heap.size ≤ g := fun g hg => (ho5.lt g hg).1
  have hB7 := hB6.step hg7 (fun g hg => by have := hne5 g hg; omega)
  replace hc5 := gblk hg7 hc5 (fun e => by have := hne5 sb e; omega)
  replace ho1 := gblk hg7 ho1 (fun e => by have := hne5 b0 e; omega)
  have hbase7 : w1.heap.size ≤ w7.heap.size := Nat.le_trans hbase6 hg7.size
  have ho7' : w7.ownsRow w1.heap.size 5 1 v7 ((Go.Sha.rest m).length + 1 + (j + 1)) ((Go.Sha.rest m ++ [0x80] ++ List.replicate (j + 1) (0 : UInt8)).map bV) := by
   rw [List.replicate_succ', ← List.append_assoc, List.map_append]
   exact ho7
  clear ho7 hg7 hB6 hne5 ho5 hl6
  obtain ⟨a7, c7, hv7, _⟩ := (Rd.of_owns ho7').shape
  subst hv7
  repeat (first | refine W_seq ?_ | refine W_region ?_ | refine Wd ?_ | refine W_block ?_ | refine W_exit ?_ | refine W_skip ?_ | refine W_ret ?_ | refine T_nil ?_ | refine Ar ?_ | refine Pv ?_)
  exact ⟨Go.Sha.zeros m.length - (j + 1), [(0, .pointer (some ⟨sb, 0, none⟩)), (2, .pointer (some ⟨b0, 0, none⟩)), (3, .slice a7 ((Go.Sha.rest m).length + 1 + (j + 1)) c7)], by omega, ⟨rfl, rfl, rfl, trivial⟩, j + 1, _, rfl, hj1, rfl, ho7', hc5, ⟨c0, hc0, ho1⟩, hB7, hbase7⟩
 ·have hj1 := Go.Sha.zeros_end hrl hj (by omega)
  subst hj1
  have hn1 : w5.cell? ⟨sb, 73, none⟩ = some (.int .i64 (m.length : Int)) := cell_of_hcell (by rw [hcell_blk hc5]; exact shaC_n _ _ _ h8)
  repeat (first | refine W_seq ?_ | refine W_region ?_ | refine Wd ?_ | refine W_block ?_ | refine W_exit ?_ | refine W_skip ?_ | refine W_ret ?_ | refine T_nil ?_ | refine Ar ?_ | refine Fl 0 ?_ | refine Fl 8 ?_ | refine Fl 72 ?_ | refine Fl 73 ?_ | refine Pv ?_ | refine T_load rfl rfl rfl rfl rfl rfl rfl hn1 ?_)
  refine T_call (fun _ => trivial) rfl rfl g_put rfl rfl rfl rfl ((put_ok _ 8 w5 (by omega)).mono ?_)
  rintro e w6 ⟨vp, rfl, hp6, hB6⟩
  refine ⟨_, rfl, ?_⟩
  have ep : (max 0 (8 * (m.length : Int))).toNat = 8 * m.length := by omega
  have e8 : (max 0 (min (8 : Int) 8)).toNat = 8 := rfl
  rw [ep, e8] at hp6
  replace ho5 := ho5.kept (grown_of_below hB6 none) (by cases hq : (Value.slice va ((Go.Sha.rest m).length + 1 + Go.Sha.zeros m.length) vc).ownBlock <;> simp)
  replace hc5 := blk_call hc5 hB6
  replace ho1 := blk_call ho1 hB6
  have hbase6 : w1.heap.size ≤ w6.heap.size := Nat.le_trans hbase5 hB6.size
  replace hB5 := hB5.call hB6
  clear hB6 hn1
  repeat (first | refine W_seq ?_ | refine W_region ?_ | refine Wd ?_ | refine W_block ?_ | refine W_exit ?_ | refine W_skip ?_ | refine W_ret ?_ | refine T_nil ?_ | refine Ar ?_ | refine Pv ?_)
  refine T_append (size := 1) (fun _ => trivial) rfl rfl rfl rfl rfl rfl rfl rfl rfl rfl rfl rfl (by decide) ho5 (Rd.of_owns hp6) (one_bV _) (by unfold maxLen; omega) (by show _ * 1 ≤ _; omega) hbase6 fun v7 w7 ho7 hg7 => ?_
  have hne5 : ∀ g, (Value.slice va ((Go.Sha.rest m).length + 1 + Go.Sha.zeros m.length) vc).ownBlock = some g → w1.heap.size ≤ g := fun g hg => (ho5.lt g hg).1
  have hB7 := hB5.step hg7 (fun g hg => by have := hne5 g hg; omega)
  replace hc5 := gblk hg7 hc5 (fun e => by have := hne5 sb e; omega)
  replace ho1 := gblk hg7 ho1 (fun e => by have := hne5 b0 e; omega)
  have hr7 : Rd (hw w7) v7 (Go.Sha.rest m ++ Go.Sha.pad m.length).length 1 ((Go.Sha.rest m ++ Go.Sha.pad m.length).map bV) := by
   have := Rd.of_owns ho7
   rw [← List.map_append, ← Go.Sha.end_eq] at this
   have el : (Go.Sha.rest m ++ Go.Sha.pad m.length).length = (Go.Sha.rest m).length + 1 + Go.Sha.zeros m.length + 8 := by simp [Go.Sha.pad, Go.Sha.put_len]; omega
   rw [el]
   exact this
  clear ho7 hg7 hB5 hne5 ho5 hp6 hbase6 hbase5
  obtain ⟨a7, c7, rfl, _⟩ := hr7.shape
  repeat (first | refine W_seq ?_ | refine W_region ?_ | refine Wd ?_ | refine W_block ?_ | refine W_exit ?_ | refine W_skip ?_ | refine W_ret ?_ | refine T_nil ?_ | refine Ar ?_ | refine Fl 0 ?_ | refine Fl 8 ?_ | refine Fl 72 ?_ | refine Fl 73 ?_ | refine Pv ?_ | (refine T_loadA (W8 (Go.Sha.chew Go.Sha.begin m)) rfl rfl rfl rfl rfl rfl rfl rfl (by simp [h8]; rfl) (fun j v hj => by rw [Nat.zero_add]; exact cell_of_hcell ((hcell_blk hc5 _).trans (shaC_h _ lv _ h8 j v hj))) ?_))
  refine T_alloc (fun _ => trivial) rfl rfl rfl rfl rfl rfl rfl fun hb w8 hhb ho8 hg8 => ?_
  have hB8 := hB7.step0 hg8
  have hs0 := blk_lt ho1
  have hs1 := blk_lt hc5
  replace hc5 := gblk hg8 hc5 (by simp)
  replace ho1 := gblk hg8 ho1 (by simp)
  have hB7s := hB7.size
  have hr8 := hr7.mono (hw_le_hx_new hg8 hhb)
  clear hg8 hB7 hr7
  have hsb' : sb ≠ hb := by omega
  have hb0' : b0 ≠ hb := by omega
  repeat (first | refine W_seq ?_ | refine W_region ?_ | refine Wd ?_ | refine W_block ?_ | refine W_exit ?_ | refine W_skip ?_ | refine W_ret ?_ | refine T_nil ?_ | refine Ar ?_ | refine Pv ?_)
  refine T_storeF (v := .agg (W8 (Go.Sha.chew Go.Sha.begin m))) (fun _ => trivial) rfl rfl rfl rfl rfl rfl rfl ho8 rfl (by simp [Value.cells, h8]; rfl) (by simp [Value.cells, h8]) (one_wV _) fun w9 hc9 hg9 _ => ?_
  replace hB8 := hB8.stepg hg9 (by omega)
  replace hc5 := gblk hg9 hc5 (by simpa using hsb'.symm)
  replace ho1 := gblk hg9 ho1 (by simpa using hb0'.symm)
  replace hr8 := hr8.mono (hx_step hg9 (by simp))
  clear ho8 hg9 hs0 hs1
  repeat (first | refine W_seq ?_ | refine W_region ?_ | refine Wd ?_ | refine W_block ?_ | refine W_exit ?_ | refine W_skip ?_ | refine W_ret ?_ | refine T_nil ?_ | refine Ar ?_ | refine Pv ?_)
  refine W_loop (fun M ρ w' => ∃ (x : List UInt8) (hs : List (BitVec 32)) (a : Option Addr) (c : Nat), M = x.length ∧ ρ = [(0, .pointer (some ⟨sb, 0, none⟩)), (2, .pointer (some ⟨b0, 0, none⟩)), (3, .slice a x.length c), (4, .pointer (some ⟨hb, 0, none⟩))] ∧ hs.length = 8 ∧ x.length % 64 = 0 ∧
    Go.Sha.chew (Go.Sha.chew Go.Sha.begin m) (Go.Sha.rest m ++ Go.Sha.pad m.length) = Go.Sha.chew hs x ∧ w'.heap[sb]? = some (.cells (shaC (Go.Sha.chew Go.Sha.begin m) lv m.length) 146 (0, 0)) ∧ w'.heap[b0]? = some (.cells c0 23 (0, 0)) ∧
    w'.heap[hb]? = some (.cells (W8 hs) 130 (0, 0)) ∧ Rd (hx w' hb) (.slice a x.length c) x.length 1 (x.map bV) ∧ Below w.heap.size w w')
   (Go.Sha.rest m ++ Go.Sha.pad m.length).length [(0, .pointer (some ⟨sb, 0, none⟩)), (2, .pointer (some ⟨b0, 0, none⟩)), (3, .slice a7 (Go.Sha.rest m ++ Go.Sha.pad m.length).length c7), (4, .pointer (some ⟨hb, 0, none⟩))] ⟨rfl, rfl, rfl, rfl, trivial⟩ ⟨_, _, a7, c7, rfl, rfl, h8, Go.Sha.end_len m, rfl, hc5, ho1, hc9, hr8, hB8⟩ ?_
  clear hc5 ho1 hc9 hr8 hB8
  rintro M ρ w10 ⟨x, hs, a, c, rfl, rfl, h8', hx64, hch, hc5, ho1, hc9, hr8, hB8⟩
  repeat (first | refine W_seq ?_ | refine W_region ?_ | refine Wd ?_ | refine W_block ?_ | refine W_exit ?_ | refine W_skip ?_ | refine W_ret ?_ | refine T_nil ?_ | refine Ar ?_ | refine Pv ?_)
  refine Aa (fun h => ?_) (fun h => ?_)
  ·have hx64' : 64 ≤ x.length := by omega
   have hch' := Go.Sha.chew_step (h := hs) hx64'
   have hk : ∀ i, i < 64 → hcell (hw w10.drew) sb (8 + i) = some (wV (Go.Sha.table.getD i 0)) := fun i hi => (hcell_blk hc5 _).trans (shaC_k _ lv _ h8 i hi)
   repeat (first | refine W_seq ?_ | refine W_region ?_ | refine Wd ?_ | refine W_block ?_ | refine W_exit ?_ | refine W_skip ?_ | refine W_ret ?_ | refine T_nil ?_ | refine Ar ?_ | refine Fl 0 ?_ | refine Fl 8 ?_ | refine Fl 72 ?_ | refine Fl 73 ?_ | refine Pv ?_ | (refine T_loadA (W8 hs) rfl rfl rfl rfl rfl rfl rfl rfl (by simp [h8']; rfl) (fun j v hj => blk_cells hc9 j v hj) ?_) | refine T_slice (size := 1) (l := 0) (h := 64) rfl rfl rfl rfl rfl rfl rfl rfl rfl rfl hr8 rfl rfl (by decide) hx64' (fun a' c' r => ?_))
   have r' : Rd (hw w10.drew) (.slice a' 64 c') 64 1 ((x.take 64).map bV) := by
    have r0 : Rd (hw w10) (.slice a' 64 c') 64 1 ((x.take 64).map bV) := by simpa [List.map_take] using r.mono (hx_le _ _)
    exact r0
   refine T_call (fun _ => trivial) rfl rfl g_mix rfl rfl rfl rfl ((mix hs (x.take 64) sb 8 _ _ h8' hk (by simp; omega) r').mono ?_)
   rintro e w11 ⟨rfl, hB11⟩
   refine ⟨_, rfl, ?_⟩
   replace hB11 := unbelow hB11
   replace hc5 := blk_call hc5 hB11
   replace ho1 := blk_call ho1 hB11
   replace hc9 := blk_call hc9 hB11
   replace hr8 := hr8.mono (hx_call hB11)
   replace hB8 := hB8.call hB11
   have h8m := Go.Sha.mix_len hs (x.take 64) h8'
   repeat (first | refine W_seq ?_ | refine W_region ?_ | refine Wd ?_ | refine W_block ?_ | refine W_exit ?_ | refine W_skip ?_ | refine W_ret ?_ | refine T_nil ?_ | refine Ar ?_ | refine Pv ?_)
   refine T_storeF (v := .agg (W8 (Go.Sha.mix hs (x.take 64)))) (fun _ => trivial) rfl rfl rfl rfl rfl rfl rfl hc9 rfl (by simp [Value.cells, h8m]; rfl) (by simp [Value.cells, h8m, h8']) (one_wV _) fun w12 hc12 hg12 _ => ?_
   replace hB8 := hB8.stepg hg12 (by omega)
   replace hc5 := gblk hg12 hc5 (by simpa using hsb'.symm)
   replace ho1 := gblk hg12 ho1 (by simpa using hb0'.symm)
   replace hr8 := hr8.mono (hx_step hg12 (by simp))
   clear hB11 hg12 hk r r' hc9
   repeat (first | refine W_seq ?_ | refine W_region ?_ | refine Wd ?_ | refine W_block ?_ | refine W_exit ?_ | refine W_skip ?_ | refine W_ret ?_ | refine T_nil ?_ | refine Ar ?_ | refine Pv ?_ | refine T_slice (size := 1) (l := 64) (h := x.length) rfl rfl rfl rfl rfl rfl rfl rfl rfl rfl hr8 rfl rfl hx64' (Nat.le_refl _) (fun a2 c2 r2 => ?_))
   have r2' : Rd (hx w12 hb) (.slice a2 (x.drop 64).length c2) (x.drop 64).length 1 ((x.drop 64).map bV) := by
    simp only [Nat.mul_one, List.map_drop, List.length_drop] at r2 ⊢
    rwa [List.take_of_length_le (by simp)] at r2
   exact ⟨(x.drop 64).length, [(0, .pointer (some ⟨sb, 0, none⟩)), (2, .pointer (some ⟨b0, 0, none⟩)), (3, .slice a2 (x.drop 64).length c2), (4, .pointer (some ⟨hb, 0, none⟩))], by simp; omega, ⟨rfl, rfl, by simp [Env.get?], rfl, trivial⟩, x.drop 64, Go.Sha.mix hs (x.take 64), a2, c2, rfl, rfl, h8m, by simp; omega, hch.trans hch'.1, hc5, ho1, hc12, r2', hB8⟩
  ·have hx0 : x.length < 64 := by omega
   have hfin : Go.Sha.sha m = Go.Sha.out hs := by rw [Go.Sha.sha_way, hch, (Go.Sha.chew_short hx0).1]
   clear hch hr8
   repeat (first | refine W_seq ?_ | refine W_region ?_ | refine Wd ?_ | refine W_block ?_ | refine W_exit ?_ | refine W_skip ?_ | refine W_ret ?_ | refine T_nil ?_ | refine Ar ?_ | refine Pv ?_)
   refine T_alloc (fun _ => trivial) rfl rfl rfl rfl rfl rfl rfl fun ob w11 hob ho11 hg11 => ?_
   have hB11 := hB8.step0 hg11
   have hs0 := blk_lt ho1
   replace ho1 := gblk hg11 ho1 (by simp)
   replace hc9 := gblk hg11 hc9 (by simp)
   have hob' : b0 ≠ ob := by omega
   have hwob : w.heap.size ≤ ob := by have := hB8.size; omega
   clear hB8 hg11 hs0 hc5
   repeat (first | refine W_seq ?_ | refine W_region ?_ | refine Wd ?_ | refine W_block ?_ | refine W_exit ?_ | refine W_skip ?_ | refine W_ret ?_ | refine T_nil ?_ | refine Ar ?_ | refine Pv ?_ | (refine T_loadA (W8 hs) rfl rfl rfl rfl rfl rfl rfl rfl (by simp [h8']; rfl) (fun j v hj => blk_cells hc9 j v hj) ?_))
   clear hc9
   have ho11' : w11.heap[ob]? = some (.cells (outC hs 0).toArray 23 (0, 0)) := ho11
   clear ho11
   refine W_loop (fun M ρ w' => ∃ i : Nat, M = 8 - i ∧ i ≤ 8 ∧ ρ = [(2, .pointer (some ⟨b0, 0, none⟩)), (5, .pointer (some ⟨ob, 0, none⟩)), (46, .agg (W8 hs)), (47, .int .i64 (i : Int))] ∧
     w'.heap[b0]? = some (.cells c0 23 (0, 0)) ∧ w'.heap[ob]? = some (.cells (outC hs i).toArray 23 (0, 0)) ∧ Below w.heap.size w w')
    (8 - 0) [(2, .pointer (some ⟨b0, 0, none⟩)), (5, .pointer (some ⟨ob, 0, none⟩)), (46, .agg (W8 hs)), (47, .int .i64 (0 : Int))] ⟨rfl, rfl, rfl, rfl, trivial⟩ ⟨0, rfl, by omega, rfl, ho1, ho11', hB11⟩ ?_
   clear ho1 ho11' hB11
   rintro M ρ w12 ⟨i, rfl, hi, rfl, ho1, hout, hB12⟩
   repeat (first | refine W_seq ?_ | refine W_region ?_ | refine Wd ?_ | refine W_block ?_ | refine W_exit ?_ | refine W_skip ?_ | refine W_ret ?_ | refine T_nil ?_ | refine Ar ?_ | refine Pv ?_)
   refine Aa (fun h => ?_) (fun h => ?_)
   ·have hi8 : i < 8 := by omega
    have hgi : (W8 hs)[((i : Nat) : Int).toNat]? = some (wV (hs.getD i 0)) := by
     simp only [Int.toNat_natCast, List.getElem?_toArray, List.getElem?_map, List.getD_eq_getElem?_getD]
     rw [List.getElem?_eq_getElem (by omega)]; rfl
    repeat (first | refine W_seq ?_ | refine W_region ?_ | refine Wd ?_ | refine W_block ?_ | refine W_exit ?_ | refine W_skip ?_ | refine W_ret ?_ | refine T_nil ?_ | refine Ar ?_ | refine Pv ?_ | refine T_index1 rfl rfl rfl rfl rfl rfl rfl rfl rfl rfl (by omega) hgi ?_)
    repeat (first | refine W_seq ?_ | refine W_region ?_ | refine Wd ?_ | refine W_block ?_ | refine W_exit ?_ | refine W_skip ?_ | refine W_ret ?_ | refine T_nil ?_ | refine Ar ?_ | refine Pv ?_ | refine T_sliceAlo rfl rfl rfl rfl rfl rfl rfl rfl rfl (by omega) ?_)
    have hw32 : (hs.getD i 0).toNat < 4294967296 := (hs.getD i 0).isLt
    have ez : IntKind.i64.wrap ((hs.getD i 0).toNat : Int) = ((hs.getD i 0).toNat : Int) := wrap64_id (by omega) (by omega)
    rw [ez]
    refine T_call (fun _ => trivial) rfl rfl g_put rfl rfl rfl rfl ((put_ok _ 4 w12.drew (by omega)).mono ?_)
    rintro e w13 ⟨vp, rfl, hp13, hB13⟩
    refine ⟨_, rfl, ?_⟩
    have e4 : (max 0 (min (4 : Int) 8)).toNat = 4 := rfl
    have ep : (max 0 ((hs.getD i 0).toNat : Int)).toNat = (hs.getD i 0).toNat := by omega
    rw [e4, ep] at hp13
    replace hB13 := unbelow hB13
    replace ho1 := blk_call ho1 hB13
    replace hout := blk_call hout hB13
    replace hB12 := hB12.call hB13
    repeat (first | refine W_seq ?_ | refine W_region ?_ | refine Wd ?_ | refine W_block ?_ | refine W_exit ?_ | refine W_skip ?_ | refine W_ret ?_ | refine T_nil ?_ | refine Ar ?_ | refine Pv ?_)
    refine T_copy (fun _ => trivial) rfl rfl rfl rfl rfl rfl rfl rfl rfl rfl hout (Rd.of_owns hp13) (by omega) (by decide) (by rw [List.size_toArray, outC_len hs h8' i hi]; omega) (one_bV _) fun w14 hc14 hg14 _ => ?_
    have e5 : (4 * (i : Int)).toNat = 4 * i := by omega
    rw [e5, outC_step hs h8' i hi8] at hc14
    replace hB12 := hB12.stepg hg14 hwob
    replace ho1 := gblk hg14 ho1 (by simpa using hob'.symm)
    repeat (first | refine W_seq ?_ | refine W_region ?_ | refine Wd ?_ | refine W_block ?_ | refine W_exit ?_ | refine W_skip ?_ | refine W_ret ?_ | refine T_nil ?_ | refine Ar ?_ | refine Pv ?_)
    exact ⟨8 - (i + 1), [(2, .pointer (some ⟨b0, 0, none⟩)), (5, .pointer (some ⟨ob, 0, none⟩)), (46, .agg (W8 hs)), (47, .int .i64 ((i + 1 : Nat) : Int))], by omega, ⟨rfl, rfl, rfl, rfl, trivial⟩, i + 1, rfl, by omega, rfl, ho1, hc14, hB12⟩
   ·have hi8 : i = 8 := by omega
    subst hi8
    have ho8 : (outC hs 8).toArray = ((Go.Sha.sha m).map bV).toArray := by
     rw [outC, List.take_of_length_le (by omega), hfin]; simp
    rw [ho8] at hout
    repeat (first | refine W_seq ?_ | refine W_region ?_ | refine Wd ?_ | refine W_block ?_ | refine W_exit ?_ | refine W_skip ?_ | refine W_ret ?_ | refine T_nil ?_ | refine Ar ?_ | refine Pv ?_ | (refine T_loadA ((Go.Sha.sha m).map bV).toArray rfl rfl rfl rfl rfl rfl rfl rfl (by simp [Go.Sha.sha_len]; rfl) (fun j v hj => blk_cells hout j v hj) ?_))
    refine T_storeF (v := hV (Go.Sha.sha m)) (fun _ => trivial) rfl rfl rfl rfl rfl rfl rfl ho1 rfl (by simp [hV, Value.cells, Go.Sha.sha_len]; rfl) (by simp [hV, Value.cells, Go.Sha.sha_len, hc0]) (one_bA _) fun w13 hc13 hg13 _ => ?_
    replace hB12 := hB12.stepg hg13 (by omega)
    repeat (first | refine W_seq ?_ | refine W_region ?_ | refine Wd ?_ | refine W_block ?_ | refine W_exit ?_ | refine W_skip ?_ | refine W_ret ?_ | refine T_nil ?_ | refine Ar ?_ | refine Pv ?_)
    refine ⟨_, ⟨_, _, _, rfl, rfl, run_loadVarA (cs := ((Go.Sha.sha m).map bV).toArray) rfl rfl (by simp [Go.Sha.sha_len]; rfl) (blk_cells hc13), rfl⟩, rfl, hB12⟩

end Go.Proofs.YtmjmjjkigblbgaaDoor
