/- The document's own SHA-256, the sum: what aumbryref01.Sum computes. -/
import Derived.Test.YtmjmjjkigblbgaaDoorRefA
set_option linter.unusedVariables false
set_option linter.unusedSimpArgs false
set_option maxRecDepth 8192
namespace Go.Proofs.YtmjmjjkigblbgaaDoor
open Go Go.F Go.RowKit

noncomputable def planT : Plan := ⟨fun o => match o.op with | .call ⟨.value (.func f), _, _⟩ => (if f = 100 then .pure else .loud) | op => cls Tryd.prog op, fun _ => True⟩
noncomputable def planH (hb : Nat) (hs : List (BitVec 32)) : Plan := ⟨fun o => match o.op with | .load _ _ => .pure | op => cls Tryd.prog op, fun u => u.heap[hb]? = some (.cells (W8 hs) 130 (0, 0))⟩

theorem turnI (a : BitVec 32) (k : Int) (w : World) (hk : 0 < k ∧ k < 32) : Calls Tryd.prog 100 #[wV a, .int .u64 k] w fun e w' => e = .returned (wV (Go.Sha.rotr a k.toNat)) ∧ w' = w := by
 have := turn_ok a k.toNat w (by omega)
 rwa [Int.toNat_of_nonneg (by omega)] at this

theorem byte_at (a : BitVec 32) (q j : Nat) (hq : 2 ^ q = 256 ^ j) : IntKind.u8.wrap ((a >>> q).toNat : Int) = ((UInt8.ofNat (a.toNat / 256 ^ j)).toNat : Int) := by
 rw [b_wrap, BitVec.toNat_ushiftRight, Nat.shiftRight_eq_div_pow, hq]
theorem byte_0 (a : BitVec 32) : IntKind.u8.wrap (a.toNat : Int) = ((UInt8.ofNat (a.toNat / 256 ^ 0)).toNat : Int) := by
 rw [b_wrap, Nat.pow_zero, Nat.div_one]

theorem outC_set4 (hs : List (BitVec 32)) (h : hs.length = 8) (i : Nat) (hi : i < 8) :
  (((((outC hs i).toArray.setIfInBounds (4 * i) (bV (UInt8.ofNat ((hs.getD i 0).toNat / 256 ^ 3)))).setIfInBounds (4 * i + 1) (bV (UInt8.ofNat ((hs.getD i 0).toNat / 256 ^ 2)))).setIfInBounds (4 * i + 2) (bV (UInt8.ofNat ((hs.getD i 0).toNat / 256 ^ 1)))).setIfInBounds (4 * i + 3) (bV (UInt8.ofNat ((hs.getD i 0).toNat / 256 ^ 0)))) = (outC hs (i + 1)).toArray := by
 rw [← outC_step hs h i hi]
 have e1 : ((Go.Sha.out (hs.take i)).map bV).length = 4 * i := by rw [List.length_map, Go.Sha.out_len, List.length_take]; omega
 have e2 : 32 - 4 * i = (32 - 4 * (i + 1)) + 1 + 1 + 1 + 1 := by omega
 obtain ⟨A, hA⟩ : ∃ A, A = (Go.Sha.out (hs.take i)).map bV := ⟨_, rfl⟩
 have e3 : outC hs i = A ++ bV 0 :: bV 0 :: bV 0 :: bV 0 :: List.replicate (32 - 4 * (i + 1)) (bV 0) := by
  rw [outC, e2, ← hA]; simp [List.replicate_succ]
 rw [← hA] at e1
 rw [e3]
 simp only [List.setIfInBounds_toArray, Nat.zero_add]
 congr 1
 have s0 : ∀ (l : List Value) (v : Value) (q : Nat), (A ++ l).set (4 * i + q) v = A ++ l.set q v := fun l v q => by
  rw [List.set_append, if_neg (by omega)]; congr 1; congr 1; omega
 have s00 := fun l v => s0 l v 0
 simp only [Nat.add_zero] at s00
 rw [s00, s0, s0, s0]
 have e5 : ((Go.Sha.put (hs.getD i 0).toNat 4).map bV).length = 4 := by rw [List.length_map, Go.Sha.put_len]
 rw [e5, List.take_left' e1, List.drop_append, List.drop_of_length_le (by omega), List.nil_append, e1, Nat.add_sub_cancel_left]
 simp [Go.Sha.put]

set_option maxRecDepth 100000 in
set_option maxHeartbeats 8000000 in
theorem refSum_ok (b : List UInt8) (v : Value) (w : World) (hv : Rd (hw w) v b.length 1 (b.map bV)) (hl : b.length ≤ 1000000000) :
  Calls Tryd.prog 81 #[v] w fun e w' => e = .returned (hV (Go.Sha.sha b)) ∧ Below w.heap.size w w' := by
 obtain ⟨va0, vc0, rfl, _⟩ := hv.shape
 have hz := Go.Sha.zeros_le b.length
 refine enter1 _ Tryd.func81 rfl Tryd.ntmps81 Tryd.results81 rfl ?_
 repeat (first | refine W_seq ?_ | refine W_region ?_ | refine Wd ?_ | refine W_block ?_ | refine W_exit ?_ | refine W_skip ?_ | refine W_ret ?_ | refine T_nil ?_ | refine Ar ?_ | refine Pv ?_)
 refine T_alloc (fun _ => trivial) rfl rfl rfl rfl rfl rfl rfl fun b0 wa hb0 ho hga => ?_
 have hBa : Below w.heap.size w wa := below_of_grown hga
 repeat (first | refine W_seq ?_ | refine W_region ?_ | refine Wd ?_ | refine W_block ?_ | refine W_exit ?_ | refine W_skip ?_ | refine W_ret ?_ | refine T_nil ?_ | refine Ar ?_ | refine Pv ?_)
 refine T_call (fun _ => trivial) rfl rfl g_rounds rfl rfl rfl rfl ((rounds_ok wa).mono ?_)
 rintro e wb ⟨rfl, hBb⟩
 refine ⟨_, rfl, ?_⟩
 have q0 := blk_lt ho
 have q1 := hBb.size
 replace ho := blk_call ho hBb
 replace hBa := hBa.call hBb
 clear hBb hga
 repeat (first | refine W_seq ?_ | refine W_region ?_ | refine Wd ?_ | refine W_block ?_ | refine W_exit ?_ | refine W_skip ?_ | refine W_ret ?_ | refine T_nil ?_ | refine Ar ?_ | refine Pv ?_)
 refine T_alloc (fun _ => trivial) rfl rfl rfl rfl rfl rfl rfl fun kb wc hkb hk hgc => ?_
 replace ho := gblk hgc ho (by simp)
 replace hBa := hBa.step0 hgc
 have q2 := blk_lt hk
 repeat (first | refine W_seq ?_ | refine W_region ?_ | refine Wd ?_ | refine W_block ?_ | refine W_exit ?_ | refine W_skip ?_ | refine W_ret ?_ | refine T_nil ?_ | refine Ar ?_ | refine Pv ?_)
 refine T_storeF (v := .agg (W8 Go.Sha.table)) (fun _ => trivial) rfl rfl rfl rfl rfl rfl rfl hk rfl rfl rfl (one_wV _) fun wd hkd hgd _ => ?_
 replace ho := gblk hgd ho (by simp; omega)
 replace hBa := hBa.stepg hgd (by omega)
 have q3 := hgd.size
 clear hk hgc hgd
 repeat (first | refine W_seq ?_ | refine W_region ?_ | refine Wd ?_ | refine W_block ?_ | refine W_exit ?_ | refine W_skip ?_ | refine W_ret ?_ | refine T_nil ?_ | refine Ar ?_ | refine Pv ?_ | refine T_buildA1 rfl rfl rfl rfl rfl rfl rfl rfl rfl rfl rfl rfl rfl ?_)
 refine T_alloc (fun _ => trivial) rfl rfl rfl rfl rfl rfl rfl fun hb we hhb hh hge => ?_
 replace ho := gblk hge ho (by simp)
 replace hkd := gblk hge hkd (by simp)
 replace hBa := hBa.step0 hge
 have q4 := blk_lt hh
 repeat (first | refine W_seq ?_ | refine W_region ?_ | refine Wd ?_ | refine W_block ?_ | refine W_exit ?_ | refine W_skip ?_ | refine W_ret ?_ | refine T_nil ?_ | refine Ar ?_ | refine Pv ?_)
 refine T_storeF (v := .agg (W8 Go.Sha.begin)) (fun _ => trivial) rfl rfl rfl rfl rfl rfl rfl hh rfl rfl rfl (one_wV _) fun w1 hhd hg1 _ => ?_
 replace ho := gblk hg1 ho (by simp; omega)
 replace hkd := gblk hg1 hkd (by simp; omega)
 replace hBa := hBa.stepg hg1 (by omega)
 have q5 := hg1.size
 clear hh hge hg1
 have hlt : w.heap.size ≤ b0 ∧ b0 < kb ∧ kb < hb ∧ hb < w1.heap.size := by omega
 clear q0 q1 q2 q3 q4 q5 hb0 hkb hhb
 have hv1 := hv.below hBa
 repeat (first | refine W_seq ?_ | refine W_region ?_ | refine Wd ?_ | refine W_block ?_ | refine W_exit ?_ | refine W_skip ?_ | refine W_ret ?_ | refine T_nil ?_ | refine Ar ?_ | refine Pv ?_)
 refine T_append (size := 1) (base := w1.heap.size) (fun _ => trivial) rfl rfl rfl rfl rfl rfl rfl rfl rfl rfl rfl rfl (by decide) (World.ownsRow_nil _ _ _ _) hv1 (one_bV _) (by unfold maxLen; omega) (by show _ * 1 ≤ _; omega) (Nat.le_refl _) fun v2 w2 ho2 hg2 => ?_
 simp only [Nat.zero_add, List.nil_append] at ho2
 have hB2 := (below_refl w1).step hg2 (by simp [Value.ownBlock])
 clear hg2 hv1 hv
 repeat (first | refine W_seq ?_ | refine W_region ?_ | refine Wd ?_ | refine W_block ?_ | refine W_exit ?_ | refine W_skip ?_ | refine W_ret ?_ | refine T_nil ?_ | refine Ar ?_ | refine Pv ?_)
 refine T_lit1 (fun _ => trivial) rfl rfl rfl rfl rfl rfl rfl rfl rfl rfl rfl rfl fun vl w3 hl3 hg3 => ?_
 replace ho2 := ho2.kept hg3 (by cases hq : v2.ownBlock <;> simp)
 have hB3 := hB2.step0 hg3
 clear hg3 hB2
 repeat (first | refine W_seq ?_ | refine W_region ?_ | refine Wd ?_ | refine W_block ?_ | refine W_exit ?_ | refine W_skip ?_ | refine W_ret ?_ | refine T_nil ?_ | refine Ar ?_ | refine Pv ?_)
 refine T_append (size := 1) (fun _ => trivial) rfl rfl rfl rfl rfl rfl rfl rfl rfl rfl rfl rfl (by decide) ho2 (Rd.of_owns hl3) (one_bV [0x80]) (by unfold maxLen; omega) (by show _ * 1 ≤ _; omega) hB3.size fun v4 w4 ho4 hg4 => ?_
 have hB4 := hB3.step hg4 (fun g hg => (ho2.lt g hg).1)
 clear hg4 hB3 ho2 hl3
 have ho4' : w4.ownsRow w1.heap.size 5 1 v4 (b.length + 1 + 0) ((b ++ [0x80] ++ List.replicate 0 (0 : UInt8)).map bV) := by
  rw [List.replicate_zero, List.append_nil, List.map_append]; exact ho4
 clear ho4
 obtain ⟨a4, c4, hv4, _⟩ := (Rd.of_owns ho4').shape
 subst hv4
 repeat (first | refine W_seq ?_ | refine W_region ?_ | refine Wd ?_ | refine W_block ?_ | refine W_exit ?_ | refine W_skip ?_ | refine W_ret ?_ | refine T_nil ?_ | refine Ar ?_ | refine Pv ?_)
 refine W_loop (fun M ρ w' => ∃ (j : Nat) (v : Value), M = Go.Sha.zeros b.length - j ∧ j ≤ Go.Sha.zeros b.length ∧ ρ = [(0, .slice va0 b.length vc0), (2, .pointer (some ⟨b0, 0, none⟩)), (3, .pointer (some ⟨kb, 0, none⟩)), (4, .pointer (some ⟨hb, 0, none⟩)), (5, v)] ∧
   w'.ownsRow w1.heap.size 5 1 v (b.length + 1 + j) ((b ++ [0x80] ++ List.replicate j (0 : UInt8)).map bV) ∧ Below w1.heap.size w1 w')
  (Go.Sha.zeros b.length - 0) [(0, .slice va0 b.length vc0), (2, .pointer (some ⟨b0, 0, none⟩)), (3, .pointer (some ⟨kb, 0, none⟩)), (4, .pointer (some ⟨hb, 0, none⟩)), (5, .slice a4 (b.length + 1 + 0) c4)] ⟨rfl, rfl, rfl, rfl, rfl, trivial⟩ ⟨0, _, rfl, by omega, rfl, ho4', hB4⟩ ?_
 clear ho4' hB4
 rintro M ρ w5 ⟨j, v, rfl, hj, rfl, ho5, hB5⟩
 obtain ⟨va, vc, hvs, _⟩ := (Rd.of_owns ho5).shape
 subst hvs
 repeat (first | refine W_seq ?_ | refine W_region ?_ | refine Wd ?_ | refine W_block ?_ | refine W_exit ?_ | refine W_skip ?_ | refine W_ret ?_ | refine T_nil ?_ | refine Ar ?_ | refine Pv ?_ | refine T_rem rfl rfl rfl rfl rfl rfl (by omega) ?_)
 refine W_cond_not rfl (fun h => ?_) (fun h => ?_)
 ·have hj1 : j + 1 ≤ Go.Sha.zeros b.length := by unfold Go.Sha.zeros at *; omega
  repeat (first | refine W_seq ?_ | refine W_region ?_ | refine Wd ?_ | refine W_block ?_ | refine W_exit ?_ | refine W_skip ?_ | refine W_ret ?_ | refine T_nil ?_ | refine Ar ?_ | refine Pv ?_)
  refine T_lit1 (fun _ => trivial) rfl rfl rfl rfl rfl rfl rfl rfl rfl rfl rfl rfl fun vl w6 hl6 hg6 => ?_
  replace ho5 := ho5.kept hg6 (by cases hq : (Value.slice va (b.length + 1 + j) vc).ownBlock <;> simp)
  have hB6 := hB5.step0 hg6
  clear hg6 hB5
  repeat (first | refine W_seq ?_ | refine W_region ?_ | refine Wd ?_ | refine W_block ?_ | refine W_exit ?_ | refine W_skip ?_ | refine W_ret ?_ | refine T_nil ?_ | refine Ar ?_ | refine Pv ?_)
  refine T_append (size := 1) (fun _ => trivial) rfl rfl rfl rfl rfl rfl rfl rfl rfl rfl rfl rfl (by decide) ho5 (Rd.of_owns hl6) (one_bV [0]) (by unfold maxLen; omega) (by show _ * 1 ≤ _; omega) hB6.size fun v7 w7 ho7 hg7 => ?_
  have hB7 := hB6.step hg7 (fun g hg => (ho5.lt g hg).1)
  have ho7' : w7.ownsRow w1.heap.size 5 1 v7 (b.length + 1 + (j + 1)) ((b ++ [0x80] ++ List.replicate (j + 1) (0 : UInt8)).map bV) := by
   rw [List.replicate_succ', ← List.append_assoc, List.map_append]
   exact ho7
  clear ho7 hg7 hB6 ho5 hl6
  obtain ⟨a7, c7, hv7, _⟩ := (Rd.of_owns ho7').shape
  subst hv7
  repeat (first | refine W_seq ?_ | refine W_region ?_ | refine Wd ?_ | refine W_block ?_ | refine W_exit ?_ | refine W_skip ?_ | refine W_ret ?_ | refine T_nil ?_ | refine Ar ?_ | refine Pv ?_)
  exact ⟨Go.Sha.zeros b.length - (j + 1), [(0, .slice va0 b.length vc0), (2, .pointer (some ⟨b0, 0, none⟩)), (3, .pointer (some ⟨kb, 0, none⟩)), (4, .pointer (some ⟨hb, 0, none⟩)), (5, .slice a7 (b.length + 1 + (j + 1)) c7)], by omega, ⟨rfl, rfl, rfl, rfl, rfl, trivial⟩, j + 1, _, rfl, hj1, rfl, ho7', hB7⟩
 ·have hj1 : j = Go.Sha.zeros b.length := by unfold Go.Sha.zeros at *; omega
  subst hj1
  repeat (first | refine W_seq ?_ | refine W_region ?_ | refine Wd ?_ | refine W_block ?_ | refine W_exit ?_ | refine W_skip ?_ | refine W_ret ?_ | refine T_nil ?_ | refine Ar ?_ | refine Pv ?_)
  refine T_call (fun _ => trivial) rfl rfl g_rput rfl rfl rfl rfl ((rput_ok (8 * b.length) 8 w5 (by omega) (by decide)).mono ?_)
  rintro e w6 ⟨vp, rfl, hp6, hB6⟩
  refine ⟨_, rfl, ?_⟩
  replace ho5 := ho5.kept (grown_of_below hB6 none) (by cases hq : (Value.slice va (b.length + 1 + Go.Sha.zeros b.length) vc).ownBlock <;> simp)
  replace hB5 := hB5.call hB6
  clear hB6
  obtain ⟨pa, pc, hvp, _⟩ := (Rd.of_owns hp6).shape
  subst hvp
  repeat (first | refine W_seq ?_ | refine W_region ?_ | refine Wd ?_ | refine W_block ?_ | refine W_exit ?_ | refine W_skip ?_ | refine W_ret ?_ | refine T_nil ?_ | refine Ar ?_ | refine Pv ?_)
  refine T_append (size := 1) (fun _ => trivial) rfl rfl rfl rfl rfl rfl rfl rfl rfl rfl rfl rfl (by decide) ho5 (Rd.of_owns hp6) (one_bV _) (by unfold maxLen; omega) (by show _ * 1 ≤ _; omega) hB5.size fun v7 w7 ho7 hg7 => ?_
  have hB7 := hB5.step hg7 (fun g hg => (ho5.lt g hg).1)
  obtain ⟨x, hx⟩ : ∃ x, x = b ++ Go.Sha.pad b.length := ⟨_, rfl⟩
  have hxl : x.length = b.length + 1 + Go.Sha.zeros b.length + 8 := by rw [hx]; simp [Go.Sha.pad, Go.Sha.put_len]; omega
  have hx64 : x.length % 64 = 0 := by rw [hx, List.length_append]; exact Go.Sha.pad_len b.length
  have ho7' : w7.ownsRow w1.heap.size 5 1 v7 x.length (x.map bV) := by
   rw [hxl]
   have e : x = b ++ [0x80] ++ List.replicate (Go.Sha.zeros b.length) 0 ++ Go.Sha.put (8 * b.length) 8 := by rw [hx]; simp [Go.Sha.pad]
   rw [e, List.map_append]
   exact ho7
  have hsha : Go.Sha.sha b = Go.Sha.out (Go.Sha.chew Go.Sha.begin x) := by rw [hx]; rfl
  clear hx ho7 hg7 ho5 hp6 hB5
  obtain ⟨g, cap, cur, rfl, hg0, hm, hcap, htake⟩ := owns_block ho7' (by omega) (by omega)
  rw [Nat.mul_one] at htake
  clear ho7'
  replace ho := blk_call ho hB7
  replace hkd := blk_call hkd hB7
  replace hhd := blk_call hhd hB7
  replace hBa := hBa.call hB7
  clear hB7 hj
  obtain ⟨c0, hc0, ho'⟩ : ∃ c0 : Array Value, c0.size = 32 ∧ w7.heap[b0]? = some (.cells c0 23 (0, 0)) := ⟨_, rfl, ho⟩
  clear ho
  have hkd' : w7.heap[kb]? = some (.cells (W8 Go.Sha.table) 128 (0, 0)) := hkd
  have hhd' : w7.heap[hb]? = some (.cells (W8 Go.Sha.begin) 130 (0, 0)) := hhd
  clear hkd hhd
  repeat (first | refine W_seq ?_ | refine W_region ?_ | refine Wd ?_ | refine W_block ?_ | refine W_exit ?_ | refine W_skip ?_ | refine W_ret ?_ | refine T_nil ?_ | refine Ar ?_ | refine Pv ?_)
  refine W_loop (fun M ρ w' => ∃ (j : Nat) (hs : List (BitVec 32)), M = x.length / 64 - j ∧ 64 * j ≤ x.length ∧ ρ = [(2, .pointer (some ⟨b0, 0, none⟩)), (3, .pointer (some ⟨kb, 0, none⟩)), (4, .pointer (some ⟨hb, 0, none⟩)), (5, .slice (some ⟨g, 0, none⟩) x.length cap), (6, .int .i64 ((64 * j : Nat) : Int))] ∧ hs.length = 8 ∧
    Go.Sha.chew Go.Sha.begin x = Go.Sha.chew hs (x.drop (64 * j)) ∧ w'.heap[b0]? = some (.cells c0 23 (0, 0)) ∧ w'.heap[kb]? = some (.cells (W8 Go.Sha.table) 128 (0, 0)) ∧ w'.heap[hb]? = some (.cells (W8 hs) 130 (0, 0)) ∧
    w'.heap[g]? = some (.cells cur 5 (0, 0)) ∧ Below w.heap.size w w')
   (x.length / 64 - 0) [(2, .pointer (some ⟨b0, 0, none⟩)), (3, .pointer (some ⟨kb, 0, none⟩)), (4, .pointer (some ⟨hb, 0, none⟩)), (5, .slice (some ⟨g, 0, none⟩) x.length cap), (6, .int .i64 (0 : Int))] ⟨rfl, rfl, rfl, rfl, rfl, trivial⟩ ⟨0, Go.Sha.begin, rfl, by omega, rfl, rfl, rfl, ho', hkd', hhd', hm, hBa⟩ ?_
  clear ho' hkd' hhd' hm hBa
  rintro M ρ w8 ⟨j, hs, rfl, hjx, rfl, h8, hch, ho, hkd, hhd, hm, hBa⟩
  repeat (first | refine W_seq ?_ | refine W_region ?_ | refine Wd ?_ | refine W_block ?_ | refine W_exit ?_ | refine W_skip ?_ | refine W_ret ?_ | refine T_nil ?_ | refine Ar ?_ | refine Pv ?_)
  refine Aa (fun hgo => ?_) (fun hgo => ?_)
  ·have hj64 : 64 * j + 64 ≤ x.length := by omega
   obtain ⟨L, hL⟩ : ∃ L, L = (x.drop (64 * j)).take 64 := ⟨_, rfl⟩
   have hLl : L.length = 64 := by rw [hL, List.length_take, List.length_drop]; omega
   have hLx : ∀ q, q < 64 → x[64 * j + q]? = some (L.getD q 0) := fun q hq => by
    rw [hL, List.getD_eq_getElem?_getD, List.getElem?_take, if_pos hq, List.getElem?_drop, List.getElem?_eq_getElem (by omega)]; rfl
   have hch2 := Go.Sha.chew_step (h := hs) (l := x.drop (64 * j)) (by rw [List.length_drop]; omega)
   rw [← hL, List.drop_drop] at hch2
   have hnext := hch.trans hch2.1
   clear hch2 hch
   repeat (first | refine W_seq ?_ | refine W_region ?_ | refine Wd ?_ | refine W_block ?_ | refine W_exit ?_ | refine W_skip ?_ | refine W_ret ?_ | refine T_nil ?_ | refine Ar ?_ | refine Pv ?_)
   refine T_alloc (fun _ => trivial) rfl rfl rfl rfl rfl rfl rfl fun wbk w9 hwb hw9 hg9 => ?_
   have hB9 : Below w8.heap.size w8 w9 := below_of_grown hg9
   have q8 := blk_lt hm
   have hw9' : w9.heap[wbk]? = some (.cells (W8 (wsq L 0)) 128 (0, 0)) := hw9
   clear hw9 hg9
   repeat (first | refine W_seq ?_ | refine W_region ?_ | refine Wd ?_ | refine W_block ?_ | refine W_exit ?_ | refine W_skip ?_ | refine W_ret ?_ | refine T_nil ?_ | refine Ar ?_ | refine Pv ?_)
   refine W_loop (fun M ρ w' => ∃ k : Nat, M = 16 - k ∧ k ≤ 16 ∧ ρ = [(2, .pointer (some ⟨b0, 0, none⟩)), (3, .pointer (some ⟨kb, 0, none⟩)), (4, .pointer (some ⟨hb, 0, none⟩)), (5, .slice (some ⟨g, 0, none⟩) x.length cap), (6, .int .i64 ((64 * j : Nat) : Int)), (7, .pointer (some ⟨wbk, 0, none⟩)), (8, .int .i64 (k : Int))] ∧ w'.heap[wbk]? = some (.cells (W8 (wsq L k)) 128 (0, 0)) ∧ Below w8.heap.size w8 w')
    (16 - 0) [(2, .pointer (some ⟨b0, 0, none⟩)), (3, .pointer (some ⟨kb, 0, none⟩)), (4, .pointer (some ⟨hb, 0, none⟩)), (5, .slice (some ⟨g, 0, none⟩) x.length cap), (6, .int .i64 ((64 * j : Nat) : Int)), (7, .pointer (some ⟨wbk, 0, none⟩)), (8, .int .i64 (0 : Int))] ⟨rfl, rfl, rfl, rfl, rfl, rfl, rfl, trivial⟩ ⟨0, rfl, by omega, rfl, hw9', hB9⟩ ?_
   clear hw9' hB9
   rintro M ρ w10 ⟨k, rfl, hk16, rfl, hwk, hB10⟩
   repeat (first | refine W_seq ?_ | refine W_region ?_ | refine Wd ?_ | refine W_block ?_ | refine W_exit ?_ | refine W_skip ?_ | refine W_ret ?_ | refine T_nil ?_ | refine Ar ?_ | refine Pv ?_)
   refine Aa (fun h => ?_) (fun h => ?_)
   ·have hlt16 : k < 16 := by omega
    have hr := rd_block (xs := x.map bV) (m := x.length) (size := 1) (cap := cap) (blk_call hm hB10) (by simp) hcap (by rw [Nat.mul_one]; exact htake)
    repeat (first | refine W_seq ?_ | refine W_region ?_ | refine Wd ?_ | refine W_block ?_ | refine W_exit ?_ | refine W_skip ?_ | refine W_ret ?_ | refine T_nil ?_ | refine Ar ?_ | refine Pv ?_ | refine T_slice (size := 1) (l := 64 * j + 4 * k) (h := x.length) rfl rfl rfl rfl rfl rfl rfl rfl rfl rfl hr rfl (bound_of (by omega)) (by omega) (Nat.le_refl _) (fun a' c' r => ?_))
    obtain ⟨pb, po, pc', hpe, _, hcell⟩ := r.get (by omega)
    simp only [Value.slice.injEq, true_and] at hpe
    obtain ⟨rfl, rfl⟩ := hpe
    have hby : ∀ q, q < 4 → w10.cell? ⟨pb, po + q, none⟩ = some (bV (L.getD (4 * k + q) 0)) := fun q hq => cell_of_hcell (hcell q _ (by
     rw [List.getElem?_take, if_pos (by omega), List.getElem?_drop, List.getElem?_map]
     have e : (64 * j + 4 * k) * 1 + q = 64 * j + (4 * k + q) := by omega
     rw [e, hLx _ (by omega)]; rfl))
    have y0 := hby 0 (by omega)
    have y1 := hby 1 (by omega)
    have y2 := hby 2 (by omega)
    have y3 := hby 3 (by omega)
    clear hby hcell
    repeat (first | refine W_seq ?_ | refine W_region ?_ | refine Wd ?_ | refine W_block ?_ | refine W_exit ?_ | refine W_skip ?_ | refine W_ret ?_ | refine T_nil ?_ | refine T_w rfl rfl rfl rfl rfl rfl rfl ?_ | refine T_wb rfl rfl rfl rfl rfl rfl rfl ?_ | refine T_wnot rfl rfl rfl rfl rfl ?_ | refine T_wshl rfl rfl rfl rfl rfl rfl rfl ?_ | refine T_wshr rfl rfl rfl rfl rfl rfl rfl ?_ | refine Ar ?_ | refine T_idx1 rfl rfl rfl rfl rfl rfl rfl rfl rfl (by omega) ?_ | refine T_idxA1 rfl rfl rfl rfl rfl rfl rfl rfl rfl (by omega) ?_ | refine Pv ?_ | refine T_load rfl rfl rfl rfl rfl rfl rfl y0 ?_ | refine T_load rfl rfl rfl rfl rfl rfl rfl y1 ?_ | refine T_load rfl rfl rfl rfl rfl rfl rfl y2 ?_ | refine T_load rfl rfl rfl rfl rfl rfl rfl y3 ?_)
    refine T_store1 (v := wV (Go.Sha.be L k)) k (fun _ => trivial) rfl rfl rfl rfl rfl rfl rfl rfl rfl rfl hwk (by omega) (by simp [wsq_len L k (by omega)]; omega) fun w11 hwk' hg11 _ => ?_
    rw [wsq_set L k (by omega) _ (sched_lo L k hlt16).symm] at hwk'
    replace hB10 := hB10.stepg (undrew hg11) (by omega)
    clear hwk y0 y1 y2 y3 hg11
    repeat (first | refine W_seq ?_ | refine W_region ?_ | refine Wd ?_ | refine W_block ?_ | refine W_exit ?_ | refine W_skip ?_ | refine W_ret ?_ | refine T_nil ?_ | refine Ar ?_ | refine Pv ?_)
    exact ⟨16 - (k + 1), [(2, .pointer (some ⟨b0, 0, none⟩)), (3, .pointer (some ⟨kb, 0, none⟩)), (4, .pointer (some ⟨hb, 0, none⟩)), (5, .slice (some ⟨g, 0, none⟩) x.length cap), (6, .int .i64 ((64 * j : Nat) : Int)), (7, .pointer (some ⟨wbk, 0, none⟩)), (8, .int .i64 ((k + 1 : Nat) : Int))], by omega, ⟨rfl, rfl, rfl, rfl, rfl, rfl, rfl, trivial⟩, k + 1, rfl, by omega, rfl, hwk', hB10⟩
   ·have hk0 : k = 16 := by omega
    subst hk0
    repeat (first | refine W_seq ?_ | refine W_region ?_ | refine Wd ?_ | refine W_block ?_ | refine W_exit ?_ | refine W_skip ?_ | refine W_ret ?_ | refine T_nil ?_ | refine Ar ?_ | refine Pv ?_)
    refine W_loop (fun M ρ w' => ∃ k : Nat, M = 64 - k ∧ 16 ≤ k ∧ k ≤ 64 ∧ ρ = [(2, .pointer (some ⟨b0, 0, none⟩)), (3, .pointer (some ⟨kb, 0, none⟩)), (4, .pointer (some ⟨hb, 0, none⟩)), (5, .slice (some ⟨g, 0, none⟩) x.length cap), (6, .int .i64 ((64 * j : Nat) : Int)), (7, .pointer (some ⟨wbk, 0, none⟩)), (10, .int .i64 (k : Int))] ∧ w'.heap[wbk]? = some (.cells (W8 (wsq L k)) 128 (0, 0)) ∧ Below w8.heap.size w8 w')
     (64 - 16) [(2, .pointer (some ⟨b0, 0, none⟩)), (3, .pointer (some ⟨kb, 0, none⟩)), (4, .pointer (some ⟨hb, 0, none⟩)), (5, .slice (some ⟨g, 0, none⟩) x.length cap), (6, .int .i64 ((64 * j : Nat) : Int)), (7, .pointer (some ⟨wbk, 0, none⟩)), (10, .int .i64 (16 : Int))] ⟨rfl, rfl, rfl, rfl, rfl, rfl, rfl, trivial⟩ ⟨16, rfl, by omega, by omega, rfl, hwk, hB10⟩ ?_
    clear hwk hB10
    rintro M ρ w11 ⟨k, rfl, hk0, hk64, rfl, hwk, hB10⟩
    repeat (first | refine W_seq ?_ | refine W_region ?_ | refine Wd ?_ | refine W_block ?_ | refine W_exit ?_ | refine W_skip ?_ | refine W_ret ?_ | refine T_nil ?_ | refine Ar ?_ | refine Pv ?_)
    refine Aa (fun h => ?_) (fun h => ?_)
    ·have hlt : k < 64 := by omega
     have hwl := wsq_len L k hk64
     repeat (first | refine W_seq ?_ | refine W_region ?_ | refine W_plan planT rfl (by kernel_rfl) trivial ?_ | refine W_block ?_ | refine W_exit ?_ | refine W_skip ?_ | refine W_ret ?_ | refine T_nil ?_ | refine T_w rfl rfl rfl rfl rfl rfl rfl ?_ | refine T_wb rfl rfl rfl rfl rfl rfl rfl ?_ | refine T_wnot rfl rfl rfl rfl rfl ?_ | refine T_wshl rfl rfl rfl rfl rfl rfl rfl ?_ | refine T_wshr rfl rfl rfl rfl rfl rfl rfl ?_ | refine Ar ?_ | refine T_idx1 rfl rfl rfl rfl rfl rfl rfl rfl rfl (by omega) ?_ | refine T_idxA1 rfl rfl rfl rfl rfl rfl rfl rfl rfl (by omega) ?_ | refine Pv ?_ | (refine T_load rfl rfl rfl rfl rfl rfl rfl (cellW hwk _ (k - 15) (by omega) (by rw [hwl]; omega)) ?_) | (refine T_load rfl rfl rfl rfl rfl rfl rfl (cellW hwk _ (k - 2) (by omega) (by rw [hwl]; omega)) ?_) | (refine T_load rfl rfl rfl rfl rfl rfl rfl (cellW hwk _ (k - 16) (by omega) (by rw [hwl]; omega)) ?_) | (refine T_load rfl rfl rfl rfl rfl rfl rfl (cellW hwk _ (k - 7) (by omega) (by rw [hwl]; omega)) ?_) | refine T_callP rfl rfl g_turn i_turn rfl rfl rfl rfl (fun u => turnI _ _ u (by decide)) ?_)
     refine T_store1 (v := wV ((Go.Sha.sched L (k + 1)).getD k 0)) k (fun _ => trivial) rfl rfl (congrArg (fun x => some (wV x)) (sched_hi L k (by omega) hlt).symm) rfl rfl rfl rfl rfl rfl rfl hwk (by omega) (by simp [hwl]; omega) fun w12 hwk' hg12 _ => ?_
     rw [wsq_set L k hlt _ rfl] at hwk'
     replace hB10 := hB10.stepg (undrew (undrew hg12)) (by omega)
     clear hwk hwl hg12
     repeat (first | refine W_seq ?_ | refine W_region ?_ | refine Wd ?_ | refine W_block ?_ | refine W_exit ?_ | refine W_skip ?_ | refine W_ret ?_ | refine T_nil ?_ | refine Ar ?_ | refine Pv ?_)
     exact ⟨64 - (k + 1), [(2, .pointer (some ⟨b0, 0, none⟩)), (3, .pointer (some ⟨kb, 0, none⟩)), (4, .pointer (some ⟨hb, 0, none⟩)), (5, .slice (some ⟨g, 0, none⟩) x.length cap), (6, .int .i64 ((64 * j : Nat) : Int)), (7, .pointer (some ⟨wbk, 0, none⟩)), (10, .int .i64 ((k + 1 : Nat) : Int))], by omega, ⟨rfl, rfl, rfl, rfl, rfl, rfl, rfl, trivial⟩, k + 1, rfl, by omega, by omega, rfl, hwk', hB10⟩
    ·have hk1 : k = 64 := by omega
     subst hk1
     replace ho := blk_call ho hB10
     replace hkd := blk_call hkd hB10
     replace hhd := blk_call hhd hB10
     replace hm := blk_call hm hB10
     replace hBa := hBa.call hB10
     clear hB10
     have hcS : ∀ k, k < 64 → wV ((wsq L 64).getD k 0) = wV ((Go.Sha.sched L 64).getD k 0) := fun k hk => by rw [wsq_get L k 64 hk (by omega)]
     repeat (first | refine W_seq ?_ | refine W_region ?_ | refine Wd ?_ | refine W_block ?_ | refine W_exit ?_ | refine W_skip ?_ | refine W_ret ?_ | refine T_nil ?_ | refine T_w rfl rfl rfl rfl rfl rfl rfl ?_ | refine T_wb rfl rfl rfl rfl rfl rfl rfl ?_ | refine T_wnot rfl rfl rfl rfl rfl ?_ | refine T_wshl rfl rfl rfl rfl rfl rfl rfl ?_ | refine T_wshr rfl rfl rfl rfl rfl rfl rfl ?_ | refine Ar ?_ | refine T_idx1 rfl rfl rfl rfl rfl rfl rfl rfl rfl (by omega) ?_ | refine T_idxA1 rfl rfl rfl rfl rfl rfl rfl rfl rfl (by omega) ?_ | refine Pv ?_ | refine T_load rfl rfl rfl rfl rfl rfl rfl (cellW hhd _ 0 rfl (by omega)) ?_ | refine T_load rfl rfl rfl rfl rfl rfl rfl (cellW hhd _ 1 rfl (by omega)) ?_ | refine T_load rfl rfl rfl rfl rfl rfl rfl (cellW hhd _ 2 rfl (by omega)) ?_ | refine T_load rfl rfl rfl rfl rfl rfl rfl (cellW hhd _ 3 rfl (by omega)) ?_ | refine T_load rfl rfl rfl rfl rfl rfl rfl (cellW hhd _ 4 rfl (by omega)) ?_ | refine T_load rfl rfl rfl rfl rfl rfl rfl (cellW hhd _ 5 rfl (by omega)) ?_ | refine T_load rfl rfl rfl rfl rfl rfl rfl (cellW hhd _ 6 rfl (by omega)) ?_ | refine T_load rfl rfl rfl rfl rfl rfl rfl (cellW hhd _ 7 rfl (by omega)) ?_)
     refine W_loop (fun M ρ w' => ∃ k : Nat, M = 64 - k ∧ k ≤ 64 ∧ ρ = [(2, .pointer (some ⟨b0, 0, none⟩)), (3, .pointer (some ⟨kb, 0, none⟩)), (4, .pointer (some ⟨hb, 0, none⟩)), (5, .slice (some ⟨g, 0, none⟩) x.length cap), (6, .int .i64 ((64 * j : Nat) : Int)), (7, .pointer (some ⟨wbk, 0, none⟩)), (13, wV ((Go.Sha.rnds L hs k).getD 0 0)), (14, wV ((Go.Sha.rnds L hs k).getD 1 0)), (15, wV ((Go.Sha.rnds L hs k).getD 2 0)), (16, wV ((Go.Sha.rnds L hs k).getD 3 0)), (17, wV ((Go.Sha.rnds L hs k).getD 4 0)), (18, wV ((Go.Sha.rnds L hs k).getD 5 0)), (19, wV ((Go.Sha.rnds L hs k).getD 6 0)), (20, wV ((Go.Sha.rnds L hs k).getD 7 0)), (21, .int .i64 (k : Int))] ∧ w'.heap[wbk]? = some (.cells (W8 (wsq L 64)) 128 (0, 0)) ∧
       w'.heap[b0]? = some (.cells c0 23 (0, 0)) ∧ w'.heap[kb]? = some (.cells (W8 Go.Sha.table) 128 (0, 0)) ∧ w'.heap[hb]? = some (.cells (W8 hs) 130 (0, 0)) ∧ w'.heap[g]? = some (.cells cur 5 (0, 0)) ∧ Below w.heap.size w w')
      (64 - 0) [(2, .pointer (some ⟨b0, 0, none⟩)), (3, .pointer (some ⟨kb, 0, none⟩)), (4, .pointer (some ⟨hb, 0, none⟩)), (5, .slice (some ⟨g, 0, none⟩) x.length cap), (6, .int .i64 ((64 * j : Nat) : Int)), (7, .pointer (some ⟨wbk, 0, none⟩)), (13, wV ((hs).getD 0 0)), (14, wV ((hs).getD 1 0)), (15, wV ((hs).getD 2 0)), (16, wV ((hs).getD 3 0)), (17, wV ((hs).getD 4 0)), (18, wV ((hs).getD 5 0)), (19, wV ((hs).getD 6 0)), (20, wV ((hs).getD 7 0)), (21, .int .i64 (0 : Int))] ⟨rfl, rfl, rfl, rfl, rfl, rfl, rfl, rfl, rfl, rfl, rfl, rfl, rfl, rfl, rfl, trivial⟩ ⟨0, rfl, by omega, rfl, hwk, ho, hkd, hhd, hm, ⟨hBa.os, hBa.tape, hBa.output, hBa.size, hBa.block⟩⟩ ?_
     clear hwk ho hkd hhd hm hBa
     rintro M ρ w12 ⟨k, rfl, hk64', rfl, hwk, ho, hkd, hhd, hm, hBa⟩
     repeat (first | refine W_seq ?_ | refine W_region ?_ | refine Wd ?_ | refine W_block ?_ | refine W_exit ?_ | refine W_skip ?_ | refine W_ret ?_ | refine T_nil ?_ | refine Ar ?_ | refine Pv ?_)
     refine Aa (fun h => ?_) (fun h => ?_)
     ·have hlt : k < 64 := by omega
      have hS : w12.cell? ⟨wbk, 0 + (k : Int).toNat, none⟩ = some (wV ((Go.Sha.sched L 64).getD k 0)) := by rw [← hcS k hlt]; exact cellW hwk _ k (by omega) (by rw [wsq_len L 64 (by omega)]; exact hlt)
      have hK : w12.cell? ⟨kb, 0 + (k : Int).toNat, none⟩ = some (wV (Go.Sha.table.getD k 0)) := cellW hkd _ k (by omega) (by rw [table_len]; exact hlt)
      repeat (first | refine W_seq ?_ | refine W_region ?_ | refine W_plan planT rfl (by kernel_rfl) trivial ?_ | refine W_block ?_ | refine W_exit ?_ | refine W_skip ?_ | refine W_ret ?_ | refine T_nil ?_ | refine T_w rfl rfl rfl rfl rfl rfl rfl ?_ | refine T_wb rfl rfl rfl rfl rfl rfl rfl ?_ | refine T_wnot rfl rfl rfl rfl rfl ?_ | refine T_wshl rfl rfl rfl rfl rfl rfl rfl ?_ | refine T_wshr rfl rfl rfl rfl rfl rfl rfl ?_ | refine Ar ?_ | refine T_idx1 rfl rfl rfl rfl rfl rfl rfl rfl rfl (by omega) ?_ | refine T_idxA1 rfl rfl rfl rfl rfl rfl rfl rfl rfl (by omega) ?_ | refine Pv ?_ | refine T_load rfl rfl rfl rfl rfl rfl rfl hS ?_ | refine T_load rfl rfl rfl rfl rfl rfl rfl hK ?_ | refine T_callP rfl rfl g_turn i_turn rfl rfl rfl rfl (fun u => turnI _ _ u (by decide)) ?_ | (refine T_call (fun _ => trivial) rfl rfl g_turn rfl rfl rfl rfl ((turnI _ _ _ (by decide)).mono ?_); rintro e wx ⟨rfl, hwx⟩; subst hwx; refine ⟨_, rfl, ?_⟩))
      exact ⟨64 - (k + 1), [(2, .pointer (some ⟨b0, 0, none⟩)), (3, .pointer (some ⟨kb, 0, none⟩)), (4, .pointer (some ⟨hb, 0, none⟩)), (5, .slice (some ⟨g, 0, none⟩) x.length cap), (6, .int .i64 ((64 * j : Nat) : Int)), (7, .pointer (some ⟨wbk, 0, none⟩)), (13, wV ((Go.Sha.rnds L hs (k + 1)).getD 0 0)), (14, wV ((Go.Sha.rnds L hs (k + 1)).getD 1 0)), (15, wV ((Go.Sha.rnds L hs (k + 1)).getD 2 0)), (16, wV ((Go.Sha.rnds L hs (k + 1)).getD 3 0)), (17, wV ((Go.Sha.rnds L hs (k + 1)).getD 4 0)), (18, wV ((Go.Sha.rnds L hs (k + 1)).getD 5 0)), (19, wV ((Go.Sha.rnds L hs (k + 1)).getD 6 0)), (20, wV ((Go.Sha.rnds L hs (k + 1)).getD 7 0)), (21, .int .i64 ((k + 1 : Nat) : Int))], by omega, ⟨rfl, rfl, rfl, rfl, rfl, rfl, congrArg (fun z => some (wV z)) (BitVec.add_assoc _ _ _).symm, rfl, rfl, rfl, rfl, rfl, rfl, rfl, rfl, trivial⟩, k + 1, rfl, by omega, rfl, hwk, ho, hkd, hhd, hm, ⟨hBa.os, hBa.tape, hBa.output, hBa.size, hBa.block⟩⟩
     ·have hk2 : k = 64 := by omega
      subst hk2
      have hV8 := Go.Sha.rnds_len L hs h8 64
      have hmix : Go.Sha.mix hs L = addK hs (Go.Sha.rnds L hs 64) 8 := (addK_all _ _ h8 hV8).symm
      rw [hmix] at hnext
      obtain ⟨V, hVV⟩ : ∃ V, V = Go.Sha.rnds L hs 64 := ⟨_, rfl⟩
      rw [← hVV] at hV8 hnext ⊢
      rw [← addK_zero hs V] at hhd
      clear hVV hmix hwk hcS hLx hL
      have hgb : hb ≠ g ∧ b0 ≠ hb ∧ kb ≠ hb := by omega
      repeat (first | refine W_seq ?_ | refine W_region ?_ | refine Wd ?_ | refine W_block ?_ | refine W_exit ?_ | refine W_skip ?_ | refine W_ret ?_ | refine T_nil ?_ | refine T_w rfl rfl rfl rfl rfl rfl rfl ?_ | refine T_wb rfl rfl rfl rfl rfl rfl rfl ?_ | refine T_wnot rfl rfl rfl rfl rfl ?_ | refine T_wshl rfl rfl rfl rfl rfl rfl rfl ?_ | refine T_wshr rfl rfl rfl rfl rfl rfl rfl ?_ | refine Ar ?_ | refine T_idx1 rfl rfl rfl rfl rfl rfl rfl rfl rfl (by omega) ?_ | refine T_idxA1 rfl rfl rfl rfl rfl rfl rfl rfl rfl (by omega) ?_ | refine Pv ?_)
      have a0 := addK_len hs V 0 h8 hV8 (by omega)
      have y0 := cellW hhd (0 + (0 : Int).toNat) 0 rfl (by rw [a0]; omega)
      rw [addK_get hs V 0 h8 hV8 (by omega)] at y0
      repeat (first | refine W_seq ?_ | refine W_region ?_ | refine Wd ?_ | refine W_block ?_ | refine W_exit ?_ | refine W_skip ?_ | refine W_ret ?_ | refine T_nil ?_ | refine T_w rfl rfl rfl rfl rfl rfl rfl ?_ | refine T_wb rfl rfl rfl rfl rfl rfl rfl ?_ | refine T_wnot rfl rfl rfl rfl rfl ?_ | refine T_wshl rfl rfl rfl rfl rfl rfl rfl ?_ | refine T_wshr rfl rfl rfl rfl rfl rfl rfl ?_ | refine Ar ?_ | refine T_idx1 rfl rfl rfl rfl rfl rfl rfl rfl rfl (by omega) ?_ | refine T_idxA1 rfl rfl rfl rfl rfl rfl rfl rfl rfl (by omega) ?_ | refine Pv ?_ | refine T_load rfl rfl rfl rfl rfl rfl rfl y0 ?_)
      refine T_store1 (v := wV (hs.getD 0 0 + V.getD 0 0)) 0 (fun _ => trivial) rfl rfl rfl rfl rfl rfl rfl rfl rfl rfl hhd rfl (by rw [List.size_toArray, List.length_map, a0]; omega) fun x0 hh0 hg0 _ => ?_
      rw [addK_set hs V 0 h8 hV8 (by omega)] at hh0
      clear hhd y0
      have hhd := hh0
      replace ho := gblk hg0 ho (by simp; omega)
      replace hkd := gblk hg0 hkd (by simp; omega)
      replace hm := gblk hg0 hm (by simp; omega)
      replace hBa := hBa.stepg hg0 (by omega)
      clear hh0 hg0
      have a1 := addK_len hs V 1 h8 hV8 (by omega)
      have y1 := cellW hhd (0 + (1 : Int).toNat) 1 rfl (by rw [a1]; omega)
      rw [addK_get hs V 1 h8 hV8 (by omega)] at y1
      repeat (first | refine W_seq ?_ | refine W_region ?_ | refine Wd ?_ | refine W_block ?_ | refine W_exit ?_ | refine W_skip ?_ | refine W_ret ?_ | refine T_nil ?_ | refine T_w rfl rfl rfl rfl rfl rfl rfl ?_ | refine T_wb rfl rfl rfl rfl rfl rfl rfl ?_ | refine T_wnot rfl rfl rfl rfl rfl ?_ | refine T_wshl rfl rfl rfl rfl rfl rfl rfl ?_ | refine T_wshr rfl rfl rfl rfl rfl rfl rfl ?_ | refine Ar ?_ | refine T_idx1 rfl rfl rfl rfl rfl rfl rfl rfl rfl (by omega) ?_ | refine T_idxA1 rfl rfl rfl rfl rfl rfl rfl rfl rfl (by omega) ?_ | refine Pv ?_ | refine T_load rfl rfl rfl rfl rfl rfl rfl y1 ?_)
      refine T_store1 (v := wV (hs.getD 1 0 + V.getD 1 0)) 1 (fun _ => trivial) rfl rfl rfl rfl rfl rfl rfl rfl rfl rfl hhd rfl (by rw [List.size_toArray, List.length_map, a1]; omega) fun x1 hh1 hg1 _ => ?_
      rw [addK_set hs V 1 h8 hV8 (by omega)] at hh1
      clear hhd y1
      have hhd := hh1
      replace ho := gblk hg1 ho (by simp; omega)
      replace hkd := gblk hg1 hkd (by simp; omega)
      replace hm := gblk hg1 hm (by simp; omega)
      replace hBa := hBa.stepg hg1 (by omega)
      clear hh1 hg1
      have a2 := addK_len hs V 2 h8 hV8 (by omega)
      have y2 := cellW hhd (0 + (2 : Int).toNat) 2 rfl (by rw [a2]; omega)
      rw [addK_get hs V 2 h8 hV8 (by omega)] at y2
      repeat (first | refine W_seq ?_ | refine W_region ?_ | refine Wd ?_ | refine W_block ?_ | refine W_exit ?_ | refine W_skip ?_ | refine W_ret ?_ | refine T_nil ?_ | refine T_w rfl rfl rfl rfl rfl rfl rfl ?_ | refine T_wb rfl rfl rfl rfl rfl rfl rfl ?_ | refine T_wnot rfl rfl rfl rfl rfl ?_ | refine T_wshl rfl rfl rfl rfl rfl rfl rfl ?_ | refine T_wshr rfl rfl rfl rfl rfl rfl rfl ?_ | refine Ar ?_ | refine T_idx1 rfl rfl rfl rfl rfl rfl rfl rfl rfl (by omega) ?_ | refine T_idxA1 rfl rfl rfl rfl rfl rfl rfl rfl rfl (by omega) ?_ | refine Pv ?_ | refine T_load rfl rfl rfl rfl rfl rfl rfl y2 ?_)
      refine T_store1 (v := wV (hs.getD 2 0 + V.getD 2 0)) 2 (fun _ => trivial) rfl rfl rfl rfl rfl rfl rfl rfl rfl rfl hhd rfl (by rw [List.size_toArray, List.length_map, a2]; omega) fun x2 hh2 hg2 _ => ?_
      rw [addK_set hs V 2 h8 hV8 (by omega)] at hh2
      clear hhd y2
      have hhd := hh2
      replace ho := gblk hg2 ho (by simp; omega)
      replace hkd := gblk hg2 hkd (by simp; omega)
      replace hm := gblk hg2 hm (by simp; omega)
      replace hBa := hBa.stepg hg2 (by omega)
      clear hh2 hg2
      have a3 := addK_len hs V 3 h8 hV8 (by omega)
      have y3 := cellW hhd (0 + (3 : Int).toNat) 3 rfl (by rw [a3]; omega)
      rw [addK_get hs V 3 h8 hV8 (by omega)] at y3
      repeat (first | refine W_seq ?_ | refine W_region ?_ | refine Wd ?_ | refine W_block ?_ | refine W_exit ?_ | refine W_skip ?_ | refine W_ret ?_ | refine T_nil ?_ | refine T_w rfl rfl rfl rfl rfl rfl rfl ?_ | refine T_wb rfl rfl rfl rfl rfl rfl rfl ?_ | refine T_wnot rfl rfl rfl rfl rfl ?_ | refine T_wshl rfl rfl rfl rfl rfl rfl rfl ?_ | refine T_wshr rfl rfl rfl rfl rfl rfl rfl ?_ | refine Ar ?_ | refine T_idx1 rfl rfl rfl rfl rfl rfl rfl rfl rfl (by omega) ?_ | refine T_idxA1 rfl rfl rfl rfl rfl rfl rfl rfl rfl (by omega) ?_ | refine Pv ?_ | refine T_load rfl rfl rfl rfl rfl rfl rfl y3 ?_)
      refine T_store1 (v := wV (hs.getD 3 0 + V.getD 3 0)) 3 (fun _ => trivial) rfl rfl rfl rfl rfl rfl rfl rfl rfl rfl hhd rfl (by rw [List.size_toArray, List.length_map, a3]; omega) fun x3 hh3 hg3 _ => ?_
      rw [addK_set hs V 3 h8 hV8 (by omega)] at hh3
      clear hhd y3
      have hhd := hh3
      replace ho := gblk hg3 ho (by simp; omega)
      replace hkd := gblk hg3 hkd (by simp; omega)
      replace hm := gblk hg3 hm (by simp; omega)
      replace hBa := hBa.stepg hg3 (by omega)
      clear hh3 hg3
      have a4 := addK_len hs V 4 h8 hV8 (by omega)
      have y4 := cellW hhd (0 + (4 : Int).toNat) 4 rfl (by rw [a4]; omega)
      rw [addK_get hs V 4 h8 hV8 (by omega)] at y4
      repeat (first | refine W_seq ?_ | refine W_region ?_ | refine Wd ?_ | refine W_block ?_ | refine W_exit ?_ | refine W_skip ?_ | refine W_ret ?_ | refine T_nil ?_ | refine T_w rfl rfl rfl rfl rfl rfl rfl ?_ | refine T_wb rfl rfl rfl rfl rfl rfl rfl ?_ | refine T_wnot rfl rfl rfl rfl rfl ?_ | refine T_wshl rfl rfl rfl rfl rfl rfl rfl ?_ | refine T_wshr rfl rfl rfl rfl rfl rfl rfl ?_ | refine Ar ?_ | refine T_idx1 rfl rfl rfl rfl rfl rfl rfl rfl rfl (by omega) ?_ | refine T_idxA1 rfl rfl rfl rfl rfl rfl rfl rfl rfl (by omega) ?_ | refine Pv ?_ | refine T_load rfl rfl rfl rfl rfl rfl rfl y4 ?_)
      refine T_store1 (v := wV (hs.getD 4 0 + V.getD 4 0)) 4 (fun _ => trivial) rfl rfl rfl rfl rfl rfl rfl rfl rfl rfl hhd rfl (by rw [List.size_toArray, List.length_map, a4]; omega) fun x4 hh4 hg4 _ => ?_
      rw [addK_set hs V 4 h8 hV8 (by omega)] at hh4
      clear hhd y4
      have hhd := hh4
      replace ho := gblk hg4 ho (by simp; omega)
      replace hkd := gblk hg4 hkd (by simp; omega)
      replace hm := gblk hg4 hm (by simp; omega)
      replace hBa := hBa.stepg hg4 (by omega)
      clear hh4 hg4
      have a5 := addK_len hs V 5 h8 hV8 (by omega)
      have y5 := cellW hhd (0 + (5 : Int).toNat) 5 rfl (by rw [a5]; omega)
      rw [addK_get hs V 5 h8 hV8 (by omega)] at y5
      repeat (first | refine W_seq ?_ | refine W_region ?_ | refine Wd ?_ | refine W_block ?_ | refine W_exit ?_ | refine W_skip ?_ | refine W_ret ?_ | refine T_nil ?_ | refine T_w rfl rfl rfl rfl rfl rfl rfl ?_ | refine T_wb rfl rfl rfl rfl rfl rfl rfl ?_ | refine T_wnot rfl rfl rfl rfl rfl ?_ | refine T_wshl rfl rfl rfl rfl rfl rfl rfl ?_ | refine T_wshr rfl rfl rfl rfl rfl rfl rfl ?_ | refine Ar ?_ | refine T_idx1 rfl rfl rfl rfl rfl rfl rfl rfl rfl (by omega) ?_ | refine T_idxA1 rfl rfl rfl rfl rfl rfl rfl rfl rfl (by omega) ?_ | refine Pv ?_ | refine T_load rfl rfl rfl rfl rfl rfl rfl y5 ?_)
      refine T_store1 (v := wV (hs.getD 5 0 + V.getD 5 0)) 5 (fun _ => trivial) rfl rfl rfl rfl rfl rfl rfl rfl rfl rfl hhd rfl (by rw [List.size_toArray, List.length_map, a5]; omega) fun x5 hh5 hg5 _ => ?_
      rw [addK_set hs V 5 h8 hV8 (by omega)] at hh5
      clear hhd y5
      have hhd := hh5
      replace ho := gblk hg5 ho (by simp; omega)
      replace hkd := gblk hg5 hkd (by simp; omega)
      replace hm := gblk hg5 hm (by simp; omega)
      replace hBa := hBa.stepg hg5 (by omega)
      clear hh5 hg5
      have a6 := addK_len hs V 6 h8 hV8 (by omega)
      have y6 := cellW hhd (0 + (6 : Int).toNat) 6 rfl (by rw [a6]; omega)
      rw [addK_get hs V 6 h8 hV8 (by omega)] at y6
      repeat (first | refine W_seq ?_ | refine W_region ?_ | refine Wd ?_ | refine W_block ?_ | refine W_exit ?_ | refine W_skip ?_ | refine W_ret ?_ | refine T_nil ?_ | refine T_w rfl rfl rfl rfl rfl rfl rfl ?_ | refine T_wb rfl rfl rfl rfl rfl rfl rfl ?_ | refine T_wnot rfl rfl rfl rfl rfl ?_ | refine T_wshl rfl rfl rfl rfl rfl rfl rfl ?_ | refine T_wshr rfl rfl rfl rfl rfl rfl rfl ?_ | refine Ar ?_ | refine T_idx1 rfl rfl rfl rfl rfl rfl rfl rfl rfl (by omega) ?_ | refine T_idxA1 rfl rfl rfl rfl rfl rfl rfl rfl rfl (by omega) ?_ | refine Pv ?_ | refine T_load rfl rfl rfl rfl rfl rfl rfl y6 ?_)
      refine T_store1 (v := wV (hs.getD 6 0 + V.getD 6 0)) 6 (fun _ => trivial) rfl rfl rfl rfl rfl rfl rfl rfl rfl rfl hhd rfl (by rw [List.size_toArray, List.length_map, a6]; omega) fun x6 hh6 hg6 _ => ?_
      rw [addK_set hs V 6 h8 hV8 (by omega)] at hh6
      clear hhd y6
      have hhd := hh6
      replace ho := gblk hg6 ho (by simp; omega)
      replace hkd := gblk hg6 hkd (by simp; omega)
      replace hm := gblk hg6 hm (by simp; omega)
      replace hBa := hBa.stepg hg6 (by omega)
      clear hh6 hg6
      have a7 := addK_len hs V 7 h8 hV8 (by omega)
      have y7 := cellW hhd (0 + (7 : Int).toNat) 7 rfl (by rw [a7]; omega)
      rw [addK_get hs V 7 h8 hV8 (by omega)] at y7
      repeat (first | refine W_seq ?_ | refine W_region ?_ | refine Wd ?_ | refine W_block ?_ | refine W_exit ?_ | refine W_skip ?_ | refine W_ret ?_ | refine T_nil ?_ | refine T_w rfl rfl rfl rfl rfl rfl rfl ?_ | refine T_wb rfl rfl rfl rfl rfl rfl rfl ?_ | refine T_wnot rfl rfl rfl rfl rfl ?_ | refine T_wshl rfl rfl rfl rfl rfl rfl rfl ?_ | refine T_wshr rfl rfl rfl rfl rfl rfl rfl ?_ | refine Ar ?_ | refine T_idx1 rfl rfl rfl rfl rfl rfl rfl rfl rfl (by omega) ?_ | refine T_idxA1 rfl rfl rfl rfl rfl rfl rfl rfl rfl (by omega) ?_ | refine Pv ?_ | refine T_load rfl rfl rfl rfl rfl rfl rfl y7 ?_)
      refine T_store1 (v := wV (hs.getD 7 0 + V.getD 7 0)) 7 (fun _ => trivial) rfl rfl rfl rfl rfl rfl rfl rfl rfl rfl hhd rfl (by rw [List.size_toArray, List.length_map, a7]; omega) fun x7 hh7 hg7 _ => ?_
      rw [addK_set hs V 7 h8 hV8 (by omega)] at hh7
      clear hhd y7
      have hhd := hh7
      replace ho := gblk hg7 ho (by simp; omega)
      replace hkd := gblk hg7 hkd (by simp; omega)
      replace hm := gblk hg7 hm (by simp; omega)
      replace hBa := hBa.stepg hg7 (by omega)
      clear hh7 hg7
      have a8 := addK_len hs V 8 h8 hV8 (by omega)
      repeat (first | refine W_seq ?_ | refine W_region ?_ | refine Wd ?_ | refine W_block ?_ | refine W_exit ?_ | refine W_skip ?_ | refine W_ret ?_ | refine T_nil ?_ | refine Ar ?_ | refine Pv ?_)
      refine ⟨x.length / 64 - (j + 1), [(2, .pointer (some ⟨b0, 0, none⟩)), (3, .pointer (some ⟨kb, 0, none⟩)), (4, .pointer (some ⟨hb, 0, none⟩)), (5, .slice (some ⟨g, 0, none⟩) x.length cap), (6, .int .i64 ((64 * (j + 1) : Nat) : Int))], by omega, ⟨rfl, rfl, rfl, rfl, congrArg (fun z => some (Value.int .i64 z)) (by omega), trivial⟩, j + 1, addK hs V 8, rfl, by omega, rfl, a8, ?_, ho, hkd, hhd, hm, hBa⟩
      rw [show 64 * (j + 1) = 64 * j + 64 by omega]
      exact hnext
  ·have hx0 : x.drop (64 * j) = [] := List.drop_of_length_le (by omega)
   rw [hx0, (Go.Sha.chew_short (h := hs) (l := []) (by simp)).1] at hch
   have hfin : Go.Sha.sha b = Go.Sha.out hs := by rw [hsha, hch]
   clear hch hx0 hsha hkd hm htake
   repeat (first | refine W_seq ?_ | refine W_region ?_ | refine Wd ?_ | refine W_block ?_ | refine W_exit ?_ | refine W_skip ?_ | refine W_ret ?_ | refine T_nil ?_ | refine Ar ?_ | refine Pv ?_)
   refine T_alloc (fun _ => trivial) rfl rfl rfl rfl rfl rfl rfl fun ob w9 hob ho9 hg9 => ?_
   have q8 := blk_lt hhd
   have q9 := hBa.size
   replace ho := gblk hg9 ho (by simp)
   replace hhd := gblk hg9 hhd (by simp)
   replace hBa := hBa.step0 hg9
   have hobn : w.heap.size ≤ ob ∧ ob ≠ hb ∧ ob ≠ b0 := by have := blk_lt ho; omega
   have ho9' : w9.heap[ob]? = some (.cells (outC hs 0).toArray 23 (0, 0)) := ho9
   clear ho9 hg9 q8 q9 hob
   repeat (first | refine W_seq ?_ | refine W_region ?_ | refine Wd ?_ | refine W_block ?_ | refine W_exit ?_ | refine W_skip ?_ | refine W_ret ?_ | refine T_nil ?_ | refine Ar ?_ | refine Pv ?_)
   refine W_loop (fun M ρ w' => ∃ i : Nat, M = 8 - i ∧ i ≤ 8 ∧ ρ = [(2, .pointer (some ⟨b0, 0, none⟩)), (4, .pointer (some ⟨hb, 0, none⟩)), (24, .pointer (some ⟨ob, 0, none⟩)), (25, .int .i64 (i : Int))] ∧ w'.heap[b0]? = some (.cells c0 23 (0, 0)) ∧ w'.heap[hb]? = some (.cells (W8 hs) 130 (0, 0)) ∧ w'.heap[ob]? = some (.cells (outC hs i).toArray 23 (0, 0)) ∧ Below w.heap.size w w')
    (8 - 0) [(2, .pointer (some ⟨b0, 0, none⟩)), (4, .pointer (some ⟨hb, 0, none⟩)), (24, .pointer (some ⟨ob, 0, none⟩)), (25, .int .i64 (0 : Int))] ⟨rfl, rfl, rfl, rfl, trivial⟩ ⟨0, rfl, by omega, rfl, ho, hhd, ho9', hBa⟩ ?_
   clear ho hhd ho9' hBa
   rintro M ρ w10 ⟨i, rfl, hi, rfl, ho, hhd, hout, hBa⟩
   repeat (first | refine W_seq ?_ | refine W_region ?_ | refine Wd ?_ | refine W_block ?_ | refine W_exit ?_ | refine W_skip ?_ | refine W_ret ?_ | refine T_nil ?_ | refine Ar ?_ | refine Pv ?_)
   refine Aa (fun h => ?_) (fun h => ?_)
   ·have hi8 : i < 8 := by omega
    have hol := outC_len hs h8 i hi
    have hld : ∀ u : World, (planH hb hs).C u → u.cell? ⟨hb, 0 + (i : Int).toNat, none⟩ = some (wV (hs.getD i 0)) := fun u hu => cellW hu _ i (by omega) (by omega)
    repeat (first | refine W_seq ?_ | refine W_region ?_ | refine W_plan (planH hb hs) rfl (by kernel_rfl) hhd ?_ | refine W_block ?_ | refine W_exit ?_ | refine W_skip ?_ | refine W_ret ?_ | refine T_nil ?_ | refine T_w rfl rfl rfl rfl rfl rfl rfl ?_ | refine T_wb rfl rfl rfl rfl rfl rfl rfl ?_ | refine T_wnot rfl rfl rfl rfl rfl ?_ | refine T_wshl rfl rfl rfl rfl rfl rfl rfl ?_ | refine T_wshr rfl rfl rfl rfl rfl rfl rfl ?_ | refine Ar ?_ | refine T_idx1 rfl rfl rfl rfl rfl rfl rfl rfl rfl (by omega) ?_ | refine T_idxA1 rfl rfl rfl rfl rfl rfl rfl rfl rfl (by omega) ?_ | refine Pv ?_ | refine T_loadP rfl rfl rfl rfl rfl rfl rfl hld ?_)
    refine T_store1P (v := bV (UInt8.ofNat ((hs.getD i 0).toNat / 256 ^ 3))) (4 * i) (fun w' hg hc => gblk hg hc (by simp; omega)) rfl rfl (congrArg (fun z => some (Value.int .u8 z)) (byte_at _ 24 3 (by decide))) rfl rfl rfl rfl rfl rfl rfl hout (by omega) (by rw [List.size_toArray, hol]; omega) fun w11 hc11 hg11 _ => ?_
    repeat (first | refine W_seq ?_ | refine W_region ?_ | refine W_plan (planH hb hs) rfl (by kernel_rfl) hhd ?_ | refine W_block ?_ | refine W_exit ?_ | refine W_skip ?_ | refine W_ret ?_ | refine T_nil ?_ | refine T_w rfl rfl rfl rfl rfl rfl rfl ?_ | refine T_wb rfl rfl rfl rfl rfl rfl rfl ?_ | refine T_wnot rfl rfl rfl rfl rfl ?_ | refine T_wshl rfl rfl rfl rfl rfl rfl rfl ?_ | refine T_wshr rfl rfl rfl rfl rfl rfl rfl ?_ | refine Ar ?_ | refine T_idx1 rfl rfl rfl rfl rfl rfl rfl rfl rfl (by omega) ?_ | refine T_idxA1 rfl rfl rfl rfl rfl rfl rfl rfl rfl (by omega) ?_ | refine Pv ?_)
    refine T_store1P (v := bV (UInt8.ofNat ((hs.getD i 0).toNat / 256 ^ 2))) (4 * i + 1) (fun w' hg hc => gblk hg hc (by simp; omega)) rfl rfl (congrArg (fun z => some (Value.int .u8 z)) (byte_at _ 16 2 (by decide))) rfl rfl rfl rfl rfl rfl rfl hc11 (by omega) (by rw [Array.size_setIfInBounds, List.size_toArray, hol]; omega) fun w12 hc12 hg12 _ => ?_
    repeat (first | refine W_seq ?_ | refine W_region ?_ | refine W_plan (planH hb hs) rfl (by kernel_rfl) hhd ?_ | refine W_block ?_ | refine W_exit ?_ | refine W_skip ?_ | refine W_ret ?_ | refine T_nil ?_ | refine T_w rfl rfl rfl rfl rfl rfl rfl ?_ | refine T_wb rfl rfl rfl rfl rfl rfl rfl ?_ | refine T_wnot rfl rfl rfl rfl rfl ?_ | refine T_wshl rfl rfl rfl rfl rfl rfl rfl ?_ | refine T_wshr rfl rfl rfl rfl rfl rfl rfl ?_ | refine Ar ?_ | refine T_idx1 rfl rfl rfl rfl rfl rfl rfl rfl rfl (by omega) ?_ | refine T_idxA1 rfl rfl rfl rfl rfl rfl rfl rfl rfl (by omega) ?_ | refine Pv ?_)
    refine T_store1P (v := bV (UInt8.ofNat ((hs.getD i 0).toNat / 256 ^ 1))) (4 * i + 2) (fun w' hg hc => gblk hg hc (by simp; omega)) rfl rfl (congrArg (fun z => some (Value.int .u8 z)) (byte_at _ 8 1 (by decide))) rfl rfl rfl rfl rfl rfl rfl hc12 (by omega) (by rw [Array.size_setIfInBounds, Array.size_setIfInBounds, List.size_toArray, hol]; omega) fun w13 hc13 hg13 _ => ?_
    repeat (first | refine W_seq ?_ | refine W_region ?_ | refine W_plan (planH hb hs) rfl (by kernel_rfl) hhd ?_ | refine W_block ?_ | refine W_exit ?_ | refine W_skip ?_ | refine W_ret ?_ | refine T_nil ?_ | refine T_w rfl rfl rfl rfl rfl rfl rfl ?_ | refine T_wb rfl rfl rfl rfl rfl rfl rfl ?_ | refine T_wnot rfl rfl rfl rfl rfl ?_ | refine T_wshl rfl rfl rfl rfl rfl rfl rfl ?_ | refine T_wshr rfl rfl rfl rfl rfl rfl rfl ?_ | refine Ar ?_ | refine T_idx1 rfl rfl rfl rfl rfl rfl rfl rfl rfl (by omega) ?_ | refine T_idxA1 rfl rfl rfl rfl rfl rfl rfl rfl rfl (by omega) ?_ | refine Pv ?_)
    refine T_store1P (v := bV (UInt8.ofNat ((hs.getD i 0).toNat / 256 ^ 0))) (4 * i + 3) (fun w' hg hc => gblk hg hc (by simp; omega)) rfl rfl (congrArg (fun z => some (Value.int .u8 z)) (byte_0 _)) rfl rfl rfl rfl rfl rfl rfl hc13 (by omega) (by rw [Array.size_setIfInBounds, Array.size_setIfInBounds, Array.size_setIfInBounds, List.size_toArray, hol]; omega) fun w14 hc14 hg14 _ => ?_
    rw [outC_set4 hs h8 i hi8] at hc14
    have hgg := gb_trans (gb_trans (gb_trans (undrew hg11) hg12 (by simp)) hg13 (by simp)) hg14 (by simp)
    replace ho := gblk hgg ho (by simp; omega)
    replace hhd := gblk hgg hhd (by simp; omega)
    replace hBa := hBa.stepg hgg (by omega)
    clear hgg hg11 hg12 hg13 hg14 hc11 hc12 hc13 hld hout
    repeat (first | refine W_seq ?_ | refine W_region ?_ | refine Wd ?_ | refine W_block ?_ | refine W_exit ?_ | refine W_skip ?_ | refine W_ret ?_ | refine T_nil ?_ | refine Ar ?_ | refine Pv ?_)
    exact ⟨8 - (i + 1), [(2, .pointer (some ⟨b0, 0, none⟩)), (4, .pointer (some ⟨hb, 0, none⟩)), (24, .pointer (some ⟨ob, 0, none⟩)), (25, .int .i64 ((i + 1 : Nat) : Int))], by omega, ⟨rfl, rfl, rfl, rfl, trivial⟩, i + 1, rfl, by omega, rfl, ho, hhd, hc14, hBa⟩
   ·have hi8 : i = 8 := by omega
    subst hi8
    have ho8 : (outC hs 8).toArray = ((Go.Sha.sha b).map bV).toArray := by
     rw [outC, List.take_of_length_le (by omega), hfin]; simp
    rw [ho8] at hout
    repeat (first | refine W_seq ?_ | refine W_region ?_ | refine Wd ?_ | refine W_block ?_ | refine W_exit ?_ | refine W_skip ?_ | refine W_ret ?_ | refine T_nil ?_ | refine Ar ?_ | refine Pv ?_ | (refine T_loadA ((Go.Sha.sha b).map bV).toArray rfl rfl rfl rfl rfl rfl rfl rfl (by simp [Go.Sha.sha_len]; rfl) (fun j v hj => blk_cells hout j v hj) ?_))
    refine T_storeF (v := hV (Go.Sha.sha b)) (fun _ => trivial) rfl rfl rfl rfl rfl rfl rfl ho rfl (by simp [hV, Value.cells, Go.Sha.sha_len]; rfl) (by simp [hV, Value.cells, Go.Sha.sha_len, hc0]) (one_bA _) fun w13 hc13 hg13 _ => ?_
    replace hBa := hBa.stepg hg13 (by omega)
    repeat (first | refine W_seq ?_ | refine W_region ?_ | refine Wd ?_ | refine W_block ?_ | refine W_exit ?_ | refine W_skip ?_ | refine W_ret ?_ | refine T_nil ?_ | refine Ar ?_ | refine Pv ?_)
    refine ⟨_, ⟨_, _, _, rfl, rfl, run_loadVarA (cs := ((Go.Sha.sha b).map bV).toArray) rfl rfl (by simp [Go.Sha.sha_len]; rfl) (blk_cells hc13), rfl⟩, rfl, hBa⟩

end Go.Proofs.YtmjmjjkigblbgaaDoor
