/- Walks of the program's functions. -/
import Derived.Test.YtfcejolipdcoaaaGreatDoorTab
import Derived.Test.YtfcejolipdcoaaaGreatDoorAuAll
set_option linter.unusedVariables false
set_option linter.unusedSimpArgs false
set_option maxRecDepth 8192
namespace Go.Proofs.YtfcejolipdcoaaaGreatDoor
open Go Go.F Go.RowKit

noncomputable def planT : Plan := ⟨fun o => match o.op with | .call ⟨.value (.func f), _, _⟩ => (if f = 85 then .pure else .loud) | op => cls Tryz.prog op, fun _ => True⟩
noncomputable def planH (hb : Nat) (hs : List (BitVec 32)) : Plan := ⟨fun o => match o.op with | .load _ _ => .pure | op => cls Tryz.prog op, fun u => u.heap[hb]? = some (.cells (W8 hs) 106 (0, 0))⟩

theorem turnI (a : BitVec 32) (k : Int) (w : World) (hk : 0 < k ∧ k < 32) : Calls Tryz.prog 85 #[wV a, .int .u64 k] w fun e w' => e = .returned (wV (Go.Sha.rotr a k.toNat)) ∧ w' = w := by
 have := turn_ok a k.toNat w (by omega)
 rwa [Int.toNat_of_nonneg (by omega)] at this

theorem byte_at (a : BitVec 32) (q j : Nat) (hq : 2 ^ q = 256 ^ j) : IntKind.u8.wrap ((a >>> q).toNat : Int) = ((UInt8.ofNat (a.toNat / 256 ^ j)).toNat : Int) := by
 rw [b_wrap, BitVec.toNat_ushiftRight, Nat.shiftRight_eq_div_pow, hq]
theorem byte_0 (a : BitVec 32) : IntKind.u8.wrap (a.toNat : Int) = ((UInt8.ofNat (a.toNat / 256 ^ 0)).toNat : Int) := by
 rw [b_wrap, Nat.pow_zero, Nat.div_one]

theorem outC_set4 (hs : List (BitVec 32)) (h : hs.length = 8) (i : Nat) (hi : i < 8) :
  (((((outC hs i).toArray.setIfInBounds (4 * i) (bV (UInt8.ofNat ((hs.getD i 0).toNat / 256 ^ 3)))).setIfInBounds (4 * i + 1) (bV (UInt8.ofNat ((hs.getD i 0).toNat / 256 ^ 2)))).setIfInBounds (4 * i + 2) (bV (UInt8.ofNat ((hs.getD i 0).toNat / 256 ^ 1)))).setIfInBounds (4 * i + 3) (bV (UInt8.ofNat ((hs.getD i 0).toNat / 256 ^ 0)))) = (outC hs (i + 1)).toArray := by
 rw [← outC_step hs h i hi]
 have e1 : ((Go.Sha.out (hs.take i)).map bV).length = 4 * i := by rw [List.length_map, Go.Sha.out_len, List.length_take]; omega
 have e2 : 32 - 4 * i = (32 - 4 * (i + 1)) + 1 + 1 + 1 + 1 := by omega
 obtain ⟨A, hA⟩ : ∃ A, A = (Go.Sha.out (hs.take i)).map bV := ⟨_, rfl⟩
 have e3 : outC hs i = A ++ bV 0 :: bV 0 :: bV 0 :: bV 0 :: List.replicate (32 - 4 * (i + 1)) (bV 0) := by
  rw [outC, e2, ← hA]; simp [List.replicate_succ]
 rw [← hA] at e1
 rw [e3]
 simp only [List.setIfInBounds_toArray, Nat.zero_add]
 congr 1
 have s0 : ∀ (l : List Value) (v : Value) (q : Nat), (A ++ l).set (4 * i + q) v = A ++ l.set q v := fun l v q => by
  rw [List.set_append, if_neg (by omega)]; congr 1; congr 1; omega
 have s00 := fun l v => s0 l v 0
 simp only [Nat.add_zero] at s00
 rw [s00, s0, s0, s0]
 have e5 : ((Go.Sha.put (hs.getD i 0).toNat 4).map bV).length = 4 := by rw [List.length_map, Go.Sha.put_len]
 rw [e5, List.take_left' e1, List.drop_append, List.drop_of_length_le (by omega), List.nil_append, e1, Nat.add_sub_cancel_left]
 simp [Go.Sha.put]

set_option maxRecDepth 100000 in
set_option maxHeartbeats 8000000 in
theorem refSum_ok (b : List UInt8) (v : Value) (w : World) (hv : Rd (hw w) v b.length 1 (b.map bV)) (hl : b.length ≤ 1000000000) :
  Calls Tryz.prog 53 #[v] w fun e w' => e = .returned (hV (Go.Sha.sha b)) ∧ Below w.heap.size w w' := by
 obtain ⟨va0, vc0, rfl, _⟩ := hv.shape
 have hz := Go.Sha.zeros_le b.length
 refine enter1 _ Tryz.func53 rfl Tryz.ntmps53 Tryz.results53 rfl ?_
 repeat (first | refine Wx ?_ | refine Wd ?_ | refine T_nil ?_ | refine Ar ?_ | refine Pv ?_)
 refine T_alloc (fun _ => trivial) rfl rfl rfl rfl rfl rfl rfl fun b0 wa hb0 ho hga => ?_
 have hBa : Below w.heap.size w wa := below_of_grown hga
 repeat (first | refine Wx ?_ | refine Wd ?_ | refine T_nil ?_ | refine Ar ?_ | refine Pv ?_)
 refine T_call (fun _ => trivial) rfl rfl g_rounds rfl rfl rfl rfl ((rounds_ok wa).mono ?_)
 rintro e wb ⟨rfl, hBb⟩
 refine ⟨_, rfl, ?_⟩
 have q0 := blk_lt ho
 have q1 := hBb.size
 replace ho := blk_call ho hBb
 replace hBa := hBa.call hBb
 clear hBb hga
 repeat (first | refine Wx ?_ | refine Wd ?_ | refine T_nil ?_ | refine Ar ?_ | refine Pv ?_)
 refine T_alloc (fun _ => trivial) rfl rfl rfl rfl rfl rfl rfl fun kb wc hkb hk hgc => ?_
 replace ho := gblk hgc ho (by simp)
 replace hBa := hBa.step0 hgc
 have q2 := blk_lt hk
 repeat (first | refine Wx ?_ | refine Wd ?_ | refine T_nil ?_ | refine Ar ?_ | refine Pv ?_)
 refine T_storeF (v := .agg (W8 Go.Sha.table)) (fun _ => trivial) rfl rfl rfl rfl rfl rfl rfl hk rfl rfl rfl (one_wV _) fun wd hkd hgd _ => ?_
 replace ho := gblk hgd ho (by simp; omega)
 replace hBa := hBa.stepg hgd (by omega)
 have q3 := hgd.size
 clear hk hgc hgd
 repeat (first | refine Wx ?_ | refine Wd ?_ | refine T_nil ?_ | refine Ar ?_ | refine Pv ?_ | refine T_buildA1 rfl rfl rfl rfl rfl rfl rfl rfl rfl rfl rfl rfl rfl ?_)
 refine T_alloc (fun _ => trivial) rfl rfl rfl rfl rfl rfl rfl fun hb we hhb hh hge => ?_
 replace ho := gblk hge ho (by simp)
 replace hkd := gblk hge hkd (by simp)
 replace hBa := hBa.step0 hge
 have q4 := blk_lt hh
 repeat (first | refine Wx ?_ | refine Wd ?_ | refine T_nil ?_ | refine Ar ?_ | refine Pv ?_)
 refine T_storeF (v := .agg (W8 Go.Sha.begin)) (fun _ => trivial) rfl rfl rfl rfl rfl rfl rfl hh rfl rfl rfl (one_wV _) fun w1 hhd hg1 _ => ?_
 replace ho := gblk hg1 ho (by simp; omega)
 replace hkd := gblk hg1 hkd (by simp; omega)
 replace hBa := hBa.stepg hg1 (by omega)
 have q5 := hg1.size
 clear hh hge hg1
 have hlt : w.heap.size ≤ b0 ∧ b0 < kb ∧ kb < hb ∧ hb < w1.heap.size := by omega
 clear q0 q1 q2 q3 q4 q5 hb0 hkb hhb
 have hv1 := hv.below hBa
 repeat (first | refine Wx ?_ | refine Wd ?_ | refine T_nil ?_ | refine Ar ?_ | refine Pv ?_)
 refine T_append (size := 1) (base := w1.heap.size) (fun _ => trivial) rfl rfl rfl rfl rfl rfl rfl rfl rfl rfl rfl rfl (by decide) (World.ownsRow_nil _ _ _ _) hv1 (one_bV _) (by unfold maxLen; omega) (by show _ * 1 ≤ _; omega) (Nat.le_refl _) fun v2 w2 ho2 hg2 => ?_
 simp only [Nat.zero_add, List.nil_append] at ho2
 have hB2 := (below_refl w1).step hg2 (by simp [Value.ownBlock])
 clear hg2 hv1 hv
 repeat (first | refine Wx ?_ | refine Wd ?_ | refine T_nil ?_ | refine Ar ?_ | refine Pv ?_)
 refine T_lit1 (fun _ => trivial) rfl rfl rfl rfl rfl rfl rfl rfl rfl rfl rfl rfl fun vl w3 hl3 hg3 => ?_
 replace ho2 := ho2.kept hg3 (by cases hq : v2.ownBlock <;> simp)
 have hB3 := hB2.step0 hg3
 clear hg3 hB2
 repeat (first | refine Wx ?_ | refine Wd ?_ | refine T_nil ?_ | refine Ar ?_ | refine Pv ?_)
 refine T_append (size := 1) (fun _ => trivial) rfl rfl rfl rfl rfl rfl rfl rfl rfl rfl rfl rfl (by decide) ho2 (Rd.of_owns hl3) (one_bV [0x80]) (by unfold maxLen; omega) (by show _ * 1 ≤ _; omega) hB3.size fun v4 w4 ho4 hg4 => ?_
 have hB4 := hB3.step hg4 (fun g hg => (ho2.lt g hg).1)
 clear hg4 hB3 ho2 hl3
 have ho4' : w4.ownsRow w1.heap.size 5 1 v4 (b.length + 1 + 0) ((b ++ [0x80] ++ List.replicate 0 (0 : UInt8)).map bV) := by
  rw [List.replicate_zero, List.append_nil, List.map_append]; exact ho4
 clear ho4
 obtain ⟨a4, c4, hv4, _⟩ := (Rd.of_owns ho4').shape
 subst hv4
 repeat (first | refine Wx ?_ | refine Wd ?_ | refine T_nil ?_ | refine Ar ?_ | refine Pv ?_)
 refine W_loop (fun M ρ w' => ∃ (j : Nat) (v : Value), M = Go.Sha.zeros b.length - j ∧ j ≤ Go.Sha.zeros b.length ∧ ρ = [(0, .slice va0 b.length vc0), (2, .pointer (some ⟨b0, 0, none⟩)), (3, .pointer (some ⟨kb, 0, none⟩)), (4, .pointer (some ⟨hb, 0, none⟩)), (5, v)] ∧
   w'.ownsRow w1.heap.size 5 1 v (b.length + 1 + j) ((b ++ [0x80] ++ List.replicate j (0 : UInt8)).map bV) ∧ Below w1.heap.size w1 w')
  (Go.Sha.zeros b.length - 0) [(0, .slice va0 b.length vc0), (2, .pointer (some ⟨b0, 0, none⟩)), (3, .pointer (some ⟨kb, 0, none⟩)), (4, .pointer (some ⟨hb, 0, none⟩)), (5, .slice a4 (b.length + 1 + 0) c4)] ⟨rfl, rfl, rfl, rfl, rfl, trivial⟩ ⟨0, _, rfl, by omega, rfl, ho4', hB4⟩ ?_
 clear ho4' hB4
 rintro M ρ w5 ⟨j, v, rfl, hj, rfl, ho5, hB5⟩
 obtain ⟨va, vc, hvs, _⟩ := (Rd.of_owns ho5).shape
 subst hvs
 repeat (first | refine Wx ?_ | refine Wd ?_ | refine T_nil ?_ | refine Ar ?_ | refine Pv ?_ | refine T_rem rfl rfl rfl rfl rfl rfl (by omega) ?_)
 refine W_cond_not rfl (fun h => ?_) (fun h => ?_)
 ·have hj1 : j + 1 ≤ Go.Sha.zeros b.length := by unfold Go.Sha.zeros at *; omega
  repeat (first | refine Wx ?_ | refine Wd ?_ | refine T_nil ?_ | refine Ar ?_ | refine Pv ?_)
  refine T_lit1 (fun _ => trivial) rfl rfl rfl rfl rfl rfl rfl rfl rfl rfl rfl rfl fun vl w6 hl6 hg6 => ?_
  replace ho5 := ho5.kept hg6 (by cases hq : (Value.slice va (b.length + 1 + j) vc).ownBlock <;> simp)
  have hB6 := hB5.step0 hg6
  clear hg6 hB5
  repeat (first | refine Wx ?_ | refine Wd ?_ | refine T_nil ?_ | refine Ar ?_ | refine Pv ?_)
  refine T_append (size := 1) (fun _ => trivial) rfl rfl rfl rfl rfl rfl rfl rfl rfl rfl rfl rfl (by decide) ho5 (Rd.of_owns hl6) (one_bV [0]) (by unfold maxLen; omega) (by show _ * 1 ≤ _; omega) hB6.size fun v7 w7 ho7 hg7 => ?_
  have hB7 := hB6.step hg7 (fun g hg => (ho5.lt g hg).1)
  have ho7' : w7.ownsRow w1.heap.size 5 1 v7 (b.length + 1 + (j + 1)) ((b ++ [0x80] ++ List.replicate (j + 1) (0 : UInt8)).map bV) := by
   rw [List.replicate_succ', ← List.append_assoc, List.map_append]
   exact ho7
  clear ho7 hg7 hB6 ho5 hl6
  obtain ⟨a7, c7, hv7, _⟩ := (Rd.of_owns ho7').shape
  subst hv7
  repeat (first | refine Wx ?_ | refine Wd ?_ | refine T_nil ?_ | refine Ar ?_ | refine Pv ?_)
  exact ⟨Go.Sha.zeros b.length - (j + 1), [(0, .slice va0 b.length vc0), (2, .pointer (some ⟨b0, 0, none⟩)), (3, .pointer (some ⟨kb, 0, none⟩)), (4, .pointer (some ⟨hb, 0, none⟩)), (5, .slice a7 (b.length + 1 + (j + 1)) c7)], by omega, ⟨rfl, rfl, rfl, rfl, rfl, trivial⟩, j + 1, _, rfl, hj1, rfl, ho7', hB7⟩
 ·have hj1 : j = Go.Sha.zeros b.length := by unfold Go.Sha.zeros at *; omega
  subst hj1
  repeat (first | refine Wx ?_ | refine Wd ?_ | refine T_nil ?_ | refine Ar ?_ | refine Pv ?_)
  refine T_call (fun _ => trivial) rfl rfl g_rput rfl rfl rfl rfl ((rput_ok (8 * b.length) 8 w5 (by omega) (by decide)).mono ?_)
  rintro e w6 ⟨vp, rfl, hp6, hB6⟩
  refine ⟨_, rfl, ?_⟩
  replace ho5 := ho5.kept (grown_of_below hB6 none) (by cases hq : (Value.slice va (b.length + 1 + Go.Sha.zeros b.length) vc).ownBlock <;> simp)
  replace hB5 := hB5.call hB6
  clear hB6
  obtain ⟨pa, pc, hvp, _⟩ := (Rd.of_owns hp6).shape
  subst hvp
  repeat (first | refine Wx ?_ | refine Wd ?_ | refine T_nil ?_ | refine Ar ?_ | refine Pv ?_)
  refine T_append (size := 1) (fun _ => trivial) rfl rfl rfl rfl rfl rfl rfl rfl rfl rfl rfl rfl (by decide) ho5 (Rd.of_owns hp6) (one_bV _) (by unfold maxLen; omega) (by show _ * 1 ≤ _; omega) hB5.size fun v7 w7 ho7 hg7 => ?_
  have hB7 := hB5.step hg7 (fun g hg => (ho5.lt g hg).1)
  obtain ⟨x, hx⟩ : ∃ x, x = b ++ Go.Sha.pad b.length := ⟨_, rfl⟩
  have hxl : x.length = b.length + 1 + Go.Sha.zeros b.length + 8 := by rw [hx]; simp [Go.Sha.pad, Go.Sha.put_len]; omega
  have hx64 : x.length % 64 = 0 := by rw [hx, List.length_append]; exact Go.Sha.pad_len b.length
  have ho7' : w7.ownsRow w1.heap.size 5 1 v7 x.length (x.map bV) := by
   rw [hxl]
   have e : x = b ++ [0x80] ++ List.replicate (Go.Sha.zeros b.length) 0 ++ Go.Sha.put (8 * b.length) 8 := by rw [hx]; simp [Go.Sha.pad]
   rw [e, List.map_append]
   exact ho7
  have hsha : Go.Sha.sha b = Go.Sha.out (Go.Sha.chew Go.Sha.begin x) := by rw [hx]; rfl
  clear hx ho7 hg7 ho5 hp6 hB5
  obtain ⟨g, cap, cur, rfl, hg0, hm, hcap, htake⟩ := owns_block ho7' (by omega) (by omega)
  rw [Nat.mul_one] at htake
  clear ho7'
  replace ho := blk_call ho hB7
  replace hkd := blk_call hkd hB7
  replace hhd := blk_call hhd hB7
  replace hBa := hBa.call hB7
  clear hB7 hj
  obtain ⟨c0, hc0, ho'⟩ : ∃ c0 : Array Value, c0.size = 32 ∧ w7.heap[b0]? = some (.cells c0 37 (0, 0)) := ⟨_, rfl, ho⟩
  clear ho
  have hkd' : w7.heap[kb]? = some (.cells (W8 Go.Sha.table) 104 (0, 0)) := hkd
  have hhd' : w7.heap[hb]? = some (.cells (W8 Go.Sha.begin) 106 (0, 0)) := hhd
  clear hkd hhd
  repeat (first | refine Wx ?_ | refine Wd ?_ | refine T_nil ?_ | refine Ar ?_ | refine Pv ?_)
  refine W_loop (fun M ρ w' => ∃ (j : Nat) (hs : List (BitVec 32)), M = x.length / 64 - j ∧ 64 * j ≤ x.length ∧ ρ = [(2, .pointer (some ⟨b0, 0, none⟩)), (3, .pointer (some ⟨kb, 0, none⟩)), (4, .pointer (some ⟨hb, 0, none⟩)), (5, .slice (some ⟨g, 0, none⟩) x.length cap), (6, .int .i64 ((64 * j : Nat) : Int))] ∧ hs.length = 8 ∧
    Go.Sha.chew Go.Sha.begin x = Go.Sha.chew hs (x.drop (64 * j)) ∧ w'.heap[b0]? = some (.cells c0 37 (0, 0)) ∧ w'.heap[kb]? = some (.cells (W8 Go.Sha.table) 104 (0, 0)) ∧ w'.heap[hb]? = some (.cells (W8 hs) 106 (0, 0)) ∧
    w'.heap[g]? = some (.cells cur 5 (0, 0)) ∧ Below w.heap.size w w')
   (x.length / 64 - 0) [(2, .pointer (some ⟨b0, 0, none⟩)), (3, .pointer (some ⟨kb, 0, none⟩)), (4, .pointer (some ⟨hb, 0, none⟩)), (5, .slice (some ⟨g, 0, none⟩) x.length cap), (6, .int .i64 (0 : Int))] ⟨rfl, rfl, rfl, rfl, rfl, trivial⟩ ⟨0, Go.Sha.begin, rfl, by omega, rfl, rfl, rfl, ho', hkd', hhd', hm, hBa⟩ ?_
  clear ho' hkd' hhd' hm hBa
  rintro M ρ w8 ⟨j, hs, rfl, hjx, rfl, h8, hch, ho, hkd, hhd, hm, hBa⟩
  repeat (first | refine Wx ?_ | refine Wd ?_ | refine T_nil ?_ | refine Ar ?_ | refine Pv ?_)
  refine Aa (fun hgo => ?_) (fun hgo => ?_)
  ·have hj64 : 64 * j + 64 ≤ x.length := by omega
   obtain ⟨L, hL⟩ : ∃ L, L = (x.drop (64 * j)).take 64 := ⟨_, rfl⟩
   have hLl : L.length = 64 := by rw [hL, List.length_take, List.length_drop]; omega
   have hLx : ∀ q, q < 64 → x[64 * j + q]? = some (L.getD q 0) := fun q hq => by
    rw [hL, List.getD_eq_getElem?_getD, List.getElem?_take, if_pos hq, List.getElem?_drop, List.getElem?_eq_getElem (by omega)]; rfl
   have hch2 := Go.Sha.chew_step (h := hs) (l := x.drop (64 * j)) (by rw [List.length_drop]; omega)
   rw [← hL, List.drop_drop] at hch2
   have hnext := hch.trans hch2.1
   clear hch2 hch
   repeat (first | refine Wx ?_ | refine Wd ?_ | refine T_nil ?_ | refine Ar ?_ | refine Pv ?_)
   refine T_alloc (fun _ => trivial) rfl rfl rfl rfl rfl rfl rfl fun wbk w9 hwb hw9 hg9 => ?_
   have hB9 : Below w8.heap.size w8 w9 := below_of_grown hg9
   have q8 := blk_lt hm
   have hw9' : w9.heap[wbk]? = some (.cells (W8 (wsq L 0)) 104 (0, 0)) := hw9
   clear hw9 hg9
   repeat (first | refine Wx ?_ | refine Wd ?_ | refine T_nil ?_ | refine Ar ?_ | refine Pv ?_)
   refine W_loop (fun M ρ w' => ∃ k : Nat, M = 16 - k ∧ k ≤ 16 ∧ ρ = [(2, .pointer (some ⟨b0, 0, none⟩)), (3, .pointer (some ⟨kb, 0, none⟩)), (4, .pointer (some ⟨hb, 0, none⟩)), (5, .slice (some ⟨g, 0, none⟩) x.length cap), (6, .int .i64 ((64 * j : Nat) : Int)), (7, .pointer (some ⟨wbk, 0, none⟩)), (8, .int .i64 (k : Int))] ∧ w'.heap[wbk]? = some (.cells (W8 (wsq L k)) 104 (0, 0)) ∧ Below w8.heap.size w8 w')
    (16 - 0) [(2, .pointer (some ⟨b0, 0, none⟩)), (3, .pointer (some ⟨kb, 0, none⟩)), (4, .pointer (some ⟨hb, 0, none⟩)), (5, .slice (some ⟨g, 0, none⟩) x.length cap), (6, .int .i64 ((64 * j : Nat) : Int)), (7, .pointer (some ⟨wbk, 0, none⟩)), (8, .int .i64 (0 : Int))] ⟨rfl, rfl, rfl, rfl, rfl, rfl, rfl, trivial⟩ ⟨0, rfl, by omega, rfl, hw9', hB9⟩ ?_
   clear hw9' hB9
   rintro M ρ w10 ⟨k, rfl, hk16, rfl, hwk, hB10⟩
   repeat (first | refine Wx ?_ | refine Wd ?_ | refine T_nil ?_ | refine Ar ?_ | refine Pv ?_)
   refine Aa (fun h => ?_) (fun h => ?_)
   ·have hlt16 : k < 16 := by omega
    have hr := rd_block (xs := x.map bV) (m := x.length) (size := 1) (cap := cap) (blk_call hm hB10) (by simp) hcap (by rw [Nat.mul_one]; exact htake)
    repeat (first | refine Wx ?_ | refine Wd ?_ | refine T_nil ?_ | refine Ar ?_ | refine Pv ?_ | refine T_slice (size := 1) (l := 64 * j + 4 * k) (h := x.length) rfl rfl rfl rfl rfl rfl rfl rfl rfl rfl hr rfl (bound_of (by omega)) (by omega) (Nat.le_refl _) (fun a' c' r => ?_))
    obtain ⟨pb, po, pc', hpe, _, hcell⟩ := r.get (by omega)
    simp only [Value.slice.injEq, true_and] at hpe
    obtain ⟨rfl, rfl⟩ := hpe
    have hby : ∀ q, q < 4 → w10.cell? ⟨pb, po + q, none⟩ = some (bV (L.getD (4 * k + q) 0)) := fun q hq => cell_of_hcell (hcell q _ (by
     rw [List.getElem?_take, if_pos (by omega), List.getElem?_drop, List.getElem?_map]
     have e : (64 * j + 4 * k) * 1 + q = 64 * j + (4 * k + q) := by omega
     rw [e, hLx _ (by omega)]; rfl))
    have y0 := hby 0 (by omega)
    have y1 := hby 1 (by omega)
    have y2 := hby 2 (by omega)
    have y3 := hby 3 (by omega)
    clear hby hcell
    repeat (first | refine Wx ?_ | refine Wd ?_ | refine T_nil ?_ | refine T_w rfl rfl rfl rfl rfl rfl rfl ?_ | refine T_wb rfl rfl rfl rfl rfl rfl rfl ?_ | refine T_wnot rfl rfl rfl rfl rfl ?_ | refine T_wshl rfl rfl rfl rfl rfl rfl rfl ?_ | refine T_wshr rfl rfl rfl rfl rfl rfl rfl ?_ | refine Ar ?_ | refine T_idx1 rfl rfl rfl rfl rfl rfl rfl rfl rfl (by omega) ?_ | refine T_idxA1 rfl rfl rfl rfl rfl rfl rfl rfl rfl (by omega) ?_ | refine Pv ?_ | refine T_load rfl rfl rfl rfl rfl rfl rfl y0 ?_ | refine T_load rfl rfl rfl rfl rfl rfl rfl y1 ?_ | refine T_load rfl rfl rfl rfl rfl rfl rfl y2 ?_ | refine T_load rfl rfl rfl rfl rfl rfl rfl y3 ?_)
    refine T_store1 (v := wV (Go.Sha.be L k)) k (fun _ => trivial) rfl rfl rfl rfl rfl rfl rfl rfl rfl rfl hwk (by omega) (by simp [wsq_len L k (by omega)]; omega) fun w11 hwk' hg11 _ => ?_
    rw [wsq_set L k (by omega) _ (sched_lo L k hlt16).symm] at hwk'
    replace hB10 := hB10.stepg (undrew hg11) (by omega)
    clear hwk y0 y1 y2 y3 hg11
    repeat (first | refine Wx ?_ | refine Wd ?_ | refine T_nil ?_ | refine Ar ?_ | refine Pv ?_)
    exact ⟨16 - (k + 1), [(2, .pointer (some ⟨b0, 0, none⟩)), (3, .pointer (some ⟨kb, 0, none⟩)), (4, .pointer (some ⟨hb, 0, none⟩)), (5, .slice (some ⟨g, 0, none⟩) x.length cap), (6, .int .i64 ((64 * j : Nat) : Int)), (7, .pointer (some ⟨wbk, 0, none⟩)), (8, .int .i64 ((k + 1 : Nat) : Int))], by omega, ⟨rfl, rfl, rfl, rfl, rfl, rfl, rfl, trivial⟩, k + 1, rfl, by omega, rfl, hwk', hB10⟩
   ·have hk0 : k = 16 := by omega
    subst hk0
    repeat (first | refine Wx ?_ | refine Wd ?_ | refine T_nil ?_ | refine Ar ?_ | refine Pv ?_)
    refine W_loop (fun M ρ w' => ∃ k : Nat, M = 64 - k ∧ 16 ≤ k ∧ k ≤ 64 ∧ ρ = [(2, .pointer (some ⟨b0, 0, none⟩)), (3, .pointer (some ⟨kb, 0, none⟩)), (4, .pointer (some ⟨hb, 0, none⟩)), (5, .slice (some ⟨g, 0, none⟩) x.length cap), (6, .int .i64 ((64 * j : Nat) : Int)), (7, .pointer (some ⟨wbk, 0, none⟩)), (10, .int .i64 (k : Int))] ∧ w'.heap[wbk]? = some (.cells (W8 (wsq L k)) 104 (0, 0)) ∧ Below w8.heap.size w8 w')
     (64 - 16) [(2, .pointer (some ⟨b0, 0, none⟩)), (3, .pointer (some ⟨kb, 0, none⟩)), (4, .pointer (some ⟨hb, 0, none⟩)), (5, .slice (some ⟨g, 0, none⟩) x.length cap), (6, .int .i64 ((64 * j : Nat) : Int)), (7, .pointer (some ⟨wbk, 0, none⟩)), (10, .int .i64 (16 : Int))] ⟨rfl, rfl, rfl, rfl, rfl, rfl, rfl, trivial⟩ ⟨16, rfl, by omega, by omega, rfl, hwk, hB10⟩ ?_
    clear hwk hB10
    rintro M ρ w11 ⟨k, rfl, hk0, hk64, rfl, hwk, hB10⟩
    repeat (first | refine Wx ?_ | refine Wd ?_ | refine T_nil ?_ | refine Ar ?_ | refine Pv ?_)
    refine Aa (fun h => ?_) (fun h => ?_)
    ·have hlt : k < 64 := by omega
     have hwl := wsq_len L k hk64
     repeat (first | refine Wx ?_ | refine W_plan planT rfl (by kernel_rfl) trivial ?_ | refine T_nil ?_ | refine T_w rfl rfl rfl rfl rfl rfl rfl ?_ | refine T_wb rfl rfl rfl rfl rfl rfl rfl ?_ | refine T_wnot rfl rfl rfl rfl rfl ?_ | refine T_wshl rfl rfl rfl rfl rfl rfl rfl ?_ | refine T_wshr rfl rfl rfl rfl rfl rfl rfl ?_ | refine Ar ?_ | refine T_idx1 rfl rfl rfl rfl rfl rfl rfl rfl rfl (by omega) ?_ | refine T_idxA1 rfl rfl rfl rfl rfl rfl rfl rfl rfl (by omega) ?_ | refine Pv ?_ | (refine T_load rfl rfl rfl rfl rfl rfl rfl (cellW hwk _ (k - 15) (by omega) (by rw [hwl]; omega)) ?_) | (refine T_load rfl rfl rfl rfl rfl rfl rfl (cellW hwk _ (k - 2) (by omega) (by rw [hwl]; omega)) ?_) | (refine T_load rfl rfl rfl rfl rfl rfl rfl (cellW hwk _ (k - 16) (by omega) (by rw [hwl]; omega)) ?_) | (refine T_load rfl rfl rfl rfl rfl rfl rfl (cellW hwk _ (k - 7) (by omega) (by rw [hwl]; omega)) ?_) | refine T_callP rfl rfl g_turn i_turn rfl rfl rfl rfl (fun u => turnI _ _ u (by decide)) ?_)
     refine T_store1 (v := wV ((Go.Sha.sched L (k + 1)).getD k 0)) k (fun _ => trivial) rfl rfl (congrArg (fun x => some (wV x)) (sched_hi L k (by omega) hlt).symm) rfl rfl rfl rfl rfl rfl rfl hwk (by omega) (by simp [hwl]; omega) fun w12 hwk' hg12 _ => ?_
     rw [wsq_set L k hlt _ rfl] at hwk'
     replace hB10 := hB10.stepg (undrew (undrew hg12)) (by omega)
     clear hwk hwl hg12
     repeat (first | refine Wx ?_ | refine Wd ?_ | refine T_nil ?_ | refine Ar ?_ | refine Pv ?_)
     exact ⟨64 - (k + 1), [(2, .pointer (some ⟨b0, 0, none⟩)), (3, .pointer (some ⟨kb, 0, none⟩)), (4, .pointer (some ⟨hb, 0, none⟩)), (5, .slice (some ⟨g, 0, none⟩) x.length cap), (6, .int .i64 ((64 * j : Nat) : Int)), (7, .pointer (some ⟨wbk, 0, none⟩)), (10, .int .i64 ((k + 1 : Nat) : Int))], by omega, ⟨rfl, rfl, rfl, rfl, rfl, rfl, rfl, trivial⟩, k + 1, rfl, by omega, by omega, rfl, hwk', hB10⟩
    ·have hk1 : k = 64 := by omega
     subst hk1
     replace ho := blk_call ho hB10
     replace hkd := blk_call hkd hB10
     replace hhd := blk_call hhd hB10
     replace hm := blk_call hm hB10
     replace hBa := hBa.call hB10
     clear hB10
     have hcS : ∀ k, k < 64 → wV ((wsq L 64).getD k 0) = wV ((Go.Sha.sched L 64).getD k 0) := fun k hk => by rw [wsq_get L k 64 hk (by omega)]
     repeat (first | refine Wx ?_ | refine Wd ?_ | refine T_nil ?_ | refine T_w rfl rfl rfl rfl rfl rfl rfl ?_ | refine T_wb rfl rfl rfl rfl rfl rfl rfl ?_ | refine T_wnot rfl rfl rfl rfl rfl ?_ | refine T_wshl rfl rfl rfl rfl rfl rfl rfl ?_ | refine T_wshr rfl rfl rfl rfl rfl rfl rfl ?_ | refine Ar ?_ | refine T_idx1 rfl rfl rfl rfl rfl rfl rfl rfl rfl (by omega) ?_ | refine T_idxA1 rfl rfl rfl rfl rfl rfl rfl rfl rfl (by omega) ?_ | refine Pv ?_ | refine T_load rfl rfl rfl rfl rfl rfl rfl (cellW hhd _ 0 rfl (by omega)) ?_ | refine T_load rfl rfl rfl rfl rfl rfl rfl (cellW hhd _ 1 rfl (by omega)) ?_ | refine T_load rfl rfl rfl rfl rfl rfl rfl (cellW hhd _ 2 rfl (by omega)) ?_ | refine T_load rfl rfl rfl rfl rfl rfl rfl (cellW hhd _ 3 rfl (by omega)) ?_ | refine T_load rfl rfl rfl rfl rfl rfl rfl (cellW hhd _ 4 rfl (by omega)) ?_ | refine T_load rfl rfl rfl rfl rfl rfl rfl (cellW hhd _ 5 rfl (by omega)) ?_ | refine T_load rfl rfl rfl rfl rfl rfl rfl (cellW hhd _ 6 rfl (by omega)) ?_ | refine T_load rfl rfl rfl rfl rfl rfl rfl (cellW hhd _ 7 rfl (by omega)) ?_)
     refine W_loop (fun M ρ w' => ∃ k : Nat, M = 64 - k ∧ k ≤ 64 ∧ ρ = [(2, .pointer (some ⟨b0, 0, none⟩)), (3, .pointer (some ⟨kb, 0, none⟩)), (4, .pointer (some ⟨hb, 0, none⟩)), (5, .slice (some ⟨g, 0, none⟩) x.length cap), (6, .int .i64 ((64 * j : Nat) : Int)), (7, .pointer (some ⟨wbk, 0, none⟩)), (13, wV ((Go.Sha.rnds L hs k).getD 0 0)), (14, wV ((Go.Sha.rnds L hs k).getD 1 0)), (15, wV ((Go.Sha.rnds L hs k).getD 2 0)), (16, wV ((Go.Sha.rnds L hs k).getD 3 0)), (17, wV ((Go.Sha.rnds L hs k).getD 4 0)), (18, wV ((Go.Sha.rnds L hs k).getD 5 0)), (19, wV ((Go.Sha.rnds L hs k).getD 6 0)), (20, wV ((Go.Sha.rnds L hs k).getD 7 0)), (21, .int .i64 (k : Int))] ∧ w'.heap[wbk]? = some (.cells (W8 (wsq L 64)) 104 (0, 0)) ∧
       w'.heap[b0]? = some (.cells c0 37 (0, 0)) ∧ w'.heap[kb]? = some (.cells (W8 Go.Sha.table) 104 (0, 0)) ∧ w'.heap[hb]? = some (.cells (W8 hs) 106 (0, 0)) ∧ w'.heap[g]? = some (.cells cur 5 (0, 0)) ∧ Below w.heap.size w w')
      (64 - 0) [(2, .pointer (some ⟨b0, 0, none⟩)), (3, .pointer (some ⟨kb, 0, none⟩)), (4, .pointer (some ⟨hb, 0, none⟩)), (5, .slice (some ⟨g, 0, none⟩) x.length cap), (6, .int .i64 ((64 * j : Nat) : Int)), (7, .pointer (some ⟨wbk, 0, none⟩)), (13, wV ((hs).getD 0 0)), (14, wV ((hs).getD 1 0)), (15, wV ((hs).getD 2 0)), (16, wV ((hs).getD 3 0)), (17, wV ((hs).getD 4 0)), (18, wV ((hs).getD 5 0)), (19, wV ((hs).getD 6 0)), (20, wV ((hs).getD 7 0)), (21, .int .i64 (0 : Int))] ⟨rfl, rfl, rfl, rfl, rfl, rfl, rfl, rfl, rfl, rfl, rfl, rfl, rfl, rfl, rfl, trivial⟩ ⟨0, rfl, by omega, rfl, hwk, ho, hkd, hhd, hm, ⟨hBa.os, hBa.tape, hBa.output, hBa.size, hBa.block⟩⟩ ?_
     clear hwk ho hkd hhd hm hBa
     rintro M ρ w12 ⟨k, rfl, hk64', rfl, hwk, ho, hkd, hhd, hm, hBa⟩
     repeat (first | refine Wx ?_ | refine Wd ?_ | refine T_nil ?_ | refine Ar ?_ | refine Pv ?_)
     refine Aa (fun h => ?_) (fun h => ?_)
     ·have hlt : k < 64 := by omega
      have hS : w12.cell? ⟨wbk, 0 + (k : Int).toNat, none⟩ = some (wV ((Go.Sha.sched L 64).getD k 0)) := by rw [← hcS k hlt]; exact cellW hwk _ k (by omega) (by rw [wsq_len L 64 (by omega)]; exact hlt)
      have hK : w12.cell? ⟨kb, 0 + (k : Int).toNat, none⟩ = some (wV (Go.Sha.table.getD k 0)) := cellW hkd _ k (by omega) (by rw [table_len]; exact hlt)
      repeat (first | refine Wx ?_ | refine W_plan planT rfl (by kernel_rfl) trivial ?_ | refine T_nil ?_ | refine T_w rfl rfl rfl rfl rfl rfl rfl ?_ | refine T_wb rfl rfl rfl rfl rfl rfl rfl ?_ | refine T_wnot rfl rfl rfl rfl rfl ?_ | refine T_wshl rfl rfl rfl rfl rfl rfl rfl ?_ | refine T_wshr rfl rfl rfl rfl rfl rfl rfl ?_ | refine Ar ?_ | refine T_idx1 rfl rfl rfl rfl rfl rfl rfl rfl rfl (by omega) ?_ | refine T_idxA1 rfl rfl rfl rfl rfl rfl rfl rfl rfl (by omega) ?_ | refine Pv ?_ | refine T_load rfl rfl rfl rfl rfl rfl rfl hS ?_ | refine T_load rfl rfl rfl rfl rfl rfl rfl hK ?_ | refine T_callP rfl rfl g_turn i_turn rfl rfl rfl rfl (fun u => turnI _ _ u (by decide)) ?_ | (refine T_call (fun _ => trivial) rfl rfl g_turn rfl rfl rfl rfl ((turnI _ _ _ (by decide)).mono ?_); rintro e wx ⟨rfl, hwx⟩; subst hwx; refine ⟨_, rfl, ?_⟩))
      exact ⟨64 - (k + 1), [(2, .pointer (some ⟨b0, 0, none⟩)), (3, .pointer (some ⟨kb, 0, none⟩)), (4, .pointer (some ⟨hb, 0, none⟩)), (5, .slice (some ⟨g, 0, none⟩) x.length cap), (6, .int .i64 ((64 * j : Nat) : Int)), (7, .pointer (some ⟨wbk, 0, none⟩)), (13, wV ((Go.Sha.rnds L hs (k + 1)).getD 0 0)), (14, wV ((Go.Sha.rnds L hs (k + 1)).getD 1 0)), (15, wV ((Go.Sha.rnds L hs (k + 1)).getD 2 0)), (16, wV ((Go.Sha.rnds L hs (k + 1)).getD 3 0)), (17, wV ((Go.Sha.rnds L hs (k + 1)).getD 4 0)), (18, wV ((Go.Sha.rnds L hs (k + 1)).getD 5 0)), (19, wV ((Go.Sha.rnds L hs (k + 1)).getD 6 0)), (20, wV ((Go.Sha.rnds L hs (k + 1)).getD 7 0)), (21, .int .i64 ((k + 1 : Nat) : Int))], by omega, ⟨rfl, rfl, rfl, rfl, rfl, rfl, congrArg (fun z => some (wV z)) (BitVec.add_assoc _ _ _).symm, rfl, rfl, rfl, rfl, rfl, rfl, rfl, rfl, trivial⟩, k + 1, rfl, by omega, rfl, hwk, ho, hkd, hhd, hm, ⟨hBa.os, hBa.tape, hBa.output, hBa.size, hBa.block⟩⟩
     ·have hk2 : k = 64 := by omega
      subst hk2
      have hV8 := Go.Sha.rnds_len L hs h8 64
      have hmix : Go.Sha.mix hs L = addK hs (Go.Sha.rnds L hs 64) 8 := (addK_all _ _ h8 hV8).symm
      rw [hmix] at hnext
      obtain ⟨V, hVV⟩ : ∃ V, V = Go.Sha.rnds L hs 64 := ⟨_, rfl⟩
      rw [← hVV] at hV8 hnext ⊢
      rw [← addK_zero hs V] at hhd
      clear hVV hmix hwk hcS hLx hL
      have hgb : hb ≠ g ∧ b0 ≠ hb ∧ kb ≠ hb := by omega
      repeat (first | refine Wx ?_ | refine Wd ?_ | refine T_nil ?_ | refine T_w rfl rfl rfl rfl rfl rfl rfl ?_ | refine T_wb rfl rfl rfl rfl rfl rfl rfl ?_ | refine T_wnot rfl rfl rfl rfl rfl ?_ | refine T_wshl rfl rfl rfl rfl rfl rfl rfl ?_ | refine T_wshr rfl rfl rfl rfl rfl rfl rfl ?_ | refine Ar ?_ | refine T_idx1 rfl rfl rfl rfl rfl rfl rfl rfl rfl (by omega) ?_ | refine T_idxA1 rfl rfl rfl rfl rfl rfl rfl rfl rfl (by omega) ?_ | refine Pv ?_)
      have a0 := addK_len hs V 0 h8 hV8 (by omega)
      have y0 := cellW hhd (0 + (0 : Int).toNat) 0 rfl (by rw [a0]; omega)
      rw [addK_get hs V 0 h8 hV8 (by omega)] at y0
      repeat (first | refine Wx ?_ | refine Wd ?_ | refine T_nil ?_ | refine T_w rfl rfl rfl rfl rfl rfl rfl ?_ | refine T_wb rfl rfl rfl rfl rfl rfl rfl ?_ | refine T_wnot rfl rfl rfl rfl rfl ?_ | refine T_wshl rfl rfl rfl rfl rfl rfl rfl ?_ | refine T_wshr rfl rfl rfl rfl rfl rfl rfl ?_ | refine Ar ?_ | refine T_idx1 rfl rfl rfl rfl rfl rfl rfl rfl rfl (by omega) ?_ | refine T_idxA1 rfl rfl rfl rfl rfl rfl rfl rfl rfl (by omega) ?_ | refine Pv ?_ | refine T_load rfl rfl rfl rfl rfl rfl rfl y0 ?_)
      refine T_store1 (v := wV (hs.getD 0 0 + V.getD 0 0)) 0 (fun _ => trivial) rfl rfl rfl rfl rfl rfl rfl rfl rfl rfl hhd rfl (by rw [List.size_toArray, List.length_map, a0]; omega) fun x0 hh0 hg0 _ => ?_
      rw [addK_set hs V 0 h8 hV8 (by omega)] at hh0
      clear hhd y0
      have hhd := hh0
      replace ho := gblk hg0 ho (by simp; omega)
      replace hkd := gblk hg0 hkd (by simp; omega)
      replace hm := gblk hg0 hm (by simp; omega)
      replace hBa := hBa.stepg hg0 (by omega)
      clear hh0 hg0
      have a1 := addK_len hs V 1 h8 hV8 (by omega)
      have y1 := cellW hhd (0 + (1 : Int).toNat) 1 rfl (by rw [a1]; omega)
      rw [addK_get hs V 1 h8 hV8 (by omega)] at y1
      repeat (first | refine Wx ?_ | refine Wd ?_ | refine T_nil ?_ | refine T_w rfl rfl rfl rfl rfl rfl rfl ?_ | refine T_wb rfl rfl rfl rfl rfl rfl rfl ?_ | refine T_wnot rfl rfl rfl rfl rfl ?_ | refine T_wshl rfl rfl rfl rfl rfl rfl rfl ?_ | refine T_wshr rfl rfl rfl rfl rfl rfl rfl ?_ | refine Ar ?_ | refine T_idx1 rfl rfl rfl rfl rfl rfl rfl rfl rfl (by omega) ?_ | refine T_idxA1 rfl rfl rfl rfl rfl rfl rfl rfl rfl (by omega) ?_ | refine Pv ?_ | refine T_load rfl rfl rfl rfl rfl rfl rfl y1 ?_)
      refine T_store1 (v := wV (hs.getD 1 0 + V.getD 1 0)) 1 (fun _ => trivial) rfl rfl rfl rfl rfl rfl rfl rfl rfl rfl hhd rfl (by rw [List.size_toArray, List.length_map, a1]; omega) fun x1 hh1 hg1 _ => ?_
      rw [addK_set hs V 1 h8 hV8 (by omega)] at hh1
      clear hhd y1
      have hhd := hh1
      replace ho := gblk hg1 ho (by simp; omega)
      replace hkd := gblk hg1 hkd (by simp; omega)
      replace hm := gblk hg1 hm (by simp; omega)
      replace hBa := hBa.stepg hg1 (by omega)
      clear hh1 hg1
      have a2 := addK_len hs V 2 h8 hV8 (by omega)
      have y2 := cellW hhd (0 + (2 : Int).toNat) 2 rfl (by rw [a2]; omega)
      rw [addK_get hs V 2 h8 hV8 (by omega)] at y2
      repeat (first | refine Wx ?_ | refine Wd ?_ | refine T_nil ?_ | refine T_w rfl rfl rfl rfl rfl rfl rfl ?_ | refine T_wb rfl rfl rfl rfl rfl rfl rfl ?_ | refine T_wnot rfl rfl rfl rfl rfl ?_ | refine T_wshl rfl rfl rfl rfl rfl rfl rfl ?_ | refine T_wshr rfl rfl rfl rfl rfl rfl rfl ?_ | refine Ar ?_ | refine T_idx1 rfl rfl rfl rfl rfl rfl rfl rfl rfl (by omega) ?_ | refine T_idxA1 rfl rfl rfl rfl rfl rfl rfl rfl rfl (by omega) ?_ | refine Pv ?_ | refine T_load rfl rfl rfl rfl rfl rfl rfl y2 ?_)
      refine T_store1 (v := wV (hs.getD 2 0 + V.getD 2 0)) 2 (fun _ => trivial) rfl rfl rfl rfl rfl rfl rfl rfl rfl rfl hhd rfl (by rw [List.size_toArray, List.length_map, a2]; omega) fun x2 hh2 hg2 _ => ?_
      rw [addK_set hs V 2 h8 hV8 (by omega)] at hh2
      clear hhd y2
      have hhd := hh2
      replace ho := gblk hg2 ho (by simp; omega)
      replace hkd := gblk hg2 hkd (by simp; omega)
      replace hm := gblk hg2 hm (by simp; omega)
      replace hBa := hBa.stepg hg2 (by omega)
      clear hh2 hg2
      have a3 := addK_len hs V 3 h8 hV8 (by omega)
      have y3 := cellW hhd (0 + (3 : Int).toNat) 3 rfl (by rw [a3]; omega)
      rw [addK_get hs V 3 h8 hV8 (by omega)] at y3
      repeat (first | refine Wx ?_ | refine Wd ?_ | refine T_nil ?_ | refine T_w rfl rfl rfl rfl rfl rfl rfl ?_ | refine T_wb rfl rfl rfl rfl rfl rfl rfl ?_ | refine T_wnot rfl rfl rfl rfl rfl ?_ | refine T_wshl rfl rfl rfl rfl rfl rfl rfl ?_ | refine T_wshr rfl rfl rfl rfl rfl rfl rfl ?_ | refine Ar ?_ | refine T_idx1 rfl rfl rfl rfl rfl rfl rfl rfl rfl (by omega) ?_ | refine T_idxA1 rfl rfl rfl rfl rfl rfl rfl rfl rfl (by omega) ?_ | refine Pv ?_ | refine T_load rfl rfl rfl rfl rfl rfl rfl y3 ?_)
      refine T_store1 (v := wV (hs.getD 3 0 + V.getD 3 0)) 3 (fun _ => trivial) rfl rfl rfl rfl rfl rfl rfl rfl rfl rfl hhd rfl (by rw [List.size_toArray, List.length_map, a3]; omega) fun x3 hh3 hg3 _ => ?_
      rw [addK_set hs V 3 h8 hV8 (by omega)] at hh3
      clear hhd y3
      have hhd := hh3
      replace ho := gblk hg3 ho (by simp; omega)
      replace hkd := gblk hg3 hkd (by simp; omega)
      replace hm := gblk hg3 hm (by simp; omega)
      replace hBa := hBa.stepg hg3 (by omega)
      clear hh3 hg3
      have a4 := addK_len hs V 4 h8 hV8 (by omega)
      have y4 := cellW hhd (0 + (4 : Int).toNat) 4 rfl (by rw [a4]; omega)
      rw [addK_get hs V 4 h8 hV8 (by omega)] at y4
      repeat (first | refine Wx ?_ | refine Wd ?_ | refine T_nil ?_ | refine T_w rfl rfl rfl rfl rfl rfl rfl ?_ | refine T_wb rfl rfl rfl rfl rfl rfl rfl ?_ | refine T_wnot rfl rfl rfl rfl rfl ?_ | refine T_wshl rfl rfl rfl rfl rfl rfl rfl ?_ | refine T_wshr rfl rfl rfl rfl rfl rfl rfl ?_ | refine Ar ?_ | refine T_idx1 rfl rfl rfl rfl rfl rfl rfl rfl rfl (by omega) ?_ | refine T_idxA1 rfl rfl rfl rfl rfl rfl rfl rfl rfl (by omega) ?_ | refine Pv ?_ | refine T_load rfl rfl rfl rfl rfl rfl rfl y4 ?_)
      refine T_store1 (v := wV (hs.getD 4 0 + V.getD 4 0)) 4 (fun _ => trivial) rfl rfl rfl rfl rfl rfl rfl rfl rfl rfl hhd rfl (by rw [List.size_toArray, List.length_map, a4]; omega) fun x4 hh4 hg4 _ => ?_
      rw [addK_set hs V 4 h8 hV8 (by omega)] at hh4
      clear hhd y4
      have hhd := hh4
      replace ho := gblk hg4 ho (by simp; omega)
      replace hkd := gblk hg4 hkd (by simp; omega)
      replace hm := gblk hg4 hm (by simp; omega)
      replace hBa := hBa.stepg hg4 (by omega)
      clear hh4 hg4
      have a5 := addK_len hs V 5 h8 hV8 (by omega)
      have y5 := cellW hhd (0 + (5 : Int).toNat) 5 rfl (by rw [a5]; omega)
      rw [addK_get hs V 5 h8 hV8 (by omega)] at y5
      repeat (first | refine Wx ?_ | refine Wd ?_ | refine T_nil ?_ | refine T_w rfl rfl rfl rfl rfl rfl rfl ?_ | refine T_wb rfl rfl rfl rfl rfl rfl rfl ?_ | refine T_wnot rfl rfl rfl rfl rfl ?_ | refine T_wshl rfl rfl rfl rfl rfl rfl rfl ?_ | refine T_wshr rfl rfl rfl rfl rfl rfl rfl ?_ | refine Ar ?_ | refine T_idx1 rfl rfl rfl rfl rfl rfl rfl rfl rfl (by omega) ?_ | refine T_idxA1 rfl rfl rfl rfl rfl rfl rfl rfl rfl (by omega) ?_ | refine Pv ?_ | refine T_load rfl rfl rfl rfl rfl rfl rfl y5 ?_)
      refine T_store1 (v := wV (hs.getD 5 0 + V.getD 5 0)) 5 (fun _ => trivial) rfl rfl rfl rfl rfl rfl rfl rfl rfl rfl hhd rfl (by rw [List.size_toArray, List.length_map, a5]; omega) fun x5 hh5 hg5 _ => ?_
      rw [addK_set hs V 5 h8 hV8 (by omega)] at hh5
      clear hhd y5
      have hhd := hh5
      replace ho := gblk hg5 ho (by simp; omega)
      replace hkd := gblk hg5 hkd (by simp; omega)
      replace hm := gblk hg5 hm (by simp; omega)
      replace hBa := hBa.stepg hg5 (by omega)
      clear hh5 hg5
      have a6 := addK_len hs V 6 h8 hV8 (by omega)
      have y6 := cellW hhd (0 + (6 : Int).toNat) 6 rfl (by rw [a6]; omega)
      rw [addK_get hs V 6 h8 hV8 (by omega)] at y6
      repeat (first | refine Wx ?_ | refine Wd ?_ | refine T_nil ?_ | refine T_w rfl rfl rfl rfl rfl rfl rfl ?_ | refine T_wb rfl rfl rfl rfl rfl rfl rfl ?_ | refine T_wnot rfl rfl rfl rfl rfl ?_ | refine T_wshl rfl rfl rfl rfl rfl rfl rfl ?_ | refine T_wshr rfl rfl rfl rfl rfl rfl rfl ?_ | refine Ar ?_ | refine T_idx1 rfl rfl rfl rfl rfl rfl rfl rfl rfl (by omega) ?_ | refine T_idxA1 rfl rfl rfl rfl rfl rfl rfl rfl rfl (by omega) ?_ | refine Pv ?_ | refine T_load rfl rfl rfl rfl rfl rfl rfl y6 ?_)
      refine T_store1 (v := wV (hs.getD 6 0 + V.getD 6 0)) 6 (fun _ => trivial) rfl rfl rfl rfl rfl rfl rfl rfl rfl rfl hhd rfl (by rw [List.size_toArray, List.length_map, a6]; omega) fun x6 hh6 hg6 _ => ?_
      rw [addK_set hs V 6 h8 hV8 (by omega)] at hh6
      clear hhd y6
      have hhd := hh6
      replace ho := gblk hg6 ho (by simp; omega)
      replace hkd := gblk hg6 hkd (by simp; omega)
      replace hm := gblk hg6 hm (by simp; omega)
      replace hBa := hBa.stepg hg6 (by omega)
      clear hh6 hg6
      have a7 := addK_len hs V 7 h8 hV8 (by omega)
      have y7 := cellW hhd (0 + (7 : Int).toNat) 7 rfl (by rw [a7]; omega)
      rw [addK_get hs V 7 h8 hV8 (by omega)] at y7
      repeat (first | refine Wx ?_ | refine Wd ?_ | refine T_nil ?_ | refine T_w rfl rfl rfl rfl rfl rfl rfl ?_ | refine T_wb rfl rfl rfl rfl rfl rfl rfl ?_ | refine T_wnot rfl rfl rfl rfl rfl ?_ | refine T_wshl rfl rfl rfl rfl rfl rfl rfl ?_ | refine T_wshr rfl rfl rfl rfl rfl rfl rfl ?_ | refine Ar ?_ | refine T_idx1 rfl rfl rfl rfl rfl rfl rfl rfl rfl (by omega) ?_ | refine T_idxA1 rfl rfl rfl rfl rfl rfl rfl rfl rfl (by omega) ?_ | refine Pv ?_ | refine T_load rfl rfl rfl rfl rfl rfl rfl y7 ?_)
      refine T_store1 (v := wV (hs.getD 7 0 + V.getD 7 0)) 7 (fun _ => trivial) rfl rfl rfl rfl rfl rfl rfl rfl rfl rfl hhd rfl (by rw [List.size_toArray, List.length_map, a7]; omega) fun x7 hh7 hg7 _ => ?_
      rw [addK_set hs V 7 h8 hV8 (by omega)] at hh7
      clear hhd y7
      have hhd := hh7
      replace ho := gblk hg7 ho (by simp; omega)
      replace hkd := gblk hg7 hkd (by simp; omega)
      replace hm := gblk hg7 hm (by simp; omega)
      replace hBa := hBa.stepg hg7 (by omega)
      clear hh7 hg7
      have a8 := addK_len hs V 8 h8 hV8 (by omega)
      repeat (first | refine Wx ?_ | refine Wd ?_ | refine T_nil ?_ | refine Ar ?_ | refine Pv ?_)
      refine ⟨x.length / 64 - (j + 1), [(2, .pointer (some ⟨b0, 0, none⟩)), (3, .pointer (some ⟨kb, 0, none⟩)), (4, .pointer (some ⟨hb, 0, none⟩)), (5, .slice (some ⟨g, 0, none⟩) x.length cap), (6, .int .i64 ((64 * (j + 1) : Nat) : Int))], by omega, ⟨rfl, rfl, rfl, rfl, congrArg (fun z => some (Value.int .i64 z)) (by omega), trivial⟩, j + 1, addK hs V 8, rfl, by omega, rfl, a8, ?_, ho, hkd, hhd, hm, hBa⟩
      rw [show 64 * (j + 1) = 64 * j + 64 by omega]
      exact hnext
  ·have hx0 : x.drop (64 * j) = [] := List.drop_of_length_le (by omega)
   rw [hx0, (Go.Sha.chew_short (h := hs) (l := []) (by simp)).1] at hch
   have hfin : Go.Sha.sha b = Go.Sha.out hs := by rw [hsha, hch]
   clear hch hx0 hsha hkd hm htake
   repeat (first | refine Wx ?_ | refine Wd ?_ | refine T_nil ?_ | refine Ar ?_ | refine Pv ?_)
   refine T_alloc (fun _ => trivial) rfl rfl rfl rfl rfl rfl rfl fun ob w9 hob ho9 hg9 => ?_
   have q8 := blk_lt hhd
   have q9 := hBa.size
   replace ho := gblk hg9 ho (by simp)
   replace hhd := gblk hg9 hhd (by simp)
   replace hBa := hBa.step0 hg9
   have hobn : w.heap.size ≤ ob ∧ ob ≠ hb ∧ ob ≠ b0 := by have := blk_lt ho; omega
   have ho9' : w9.heap[ob]? = some (.cells (outC hs 0).toArray 37 (0, 0)) := ho9
   clear ho9 hg9 q8 q9 hob
   repeat (first | refine Wx ?_ | refine Wd ?_ | refine T_nil ?_ | refine Ar ?_ | refine Pv ?_)
   refine W_loop (fun M ρ w' => ∃ i : Nat, M = 8 - i ∧ i ≤ 8 ∧ ρ = [(2, .pointer (some ⟨b0, 0, none⟩)), (4, .pointer (some ⟨hb, 0, none⟩)), (24, .pointer (some ⟨ob, 0, none⟩)), (25, .int .i64 (i : Int))] ∧ w'.heap[b0]? = some (.cells c0 37 (0, 0)) ∧ w'.heap[hb]? = some (.cells (W8 hs) 106 (0, 0)) ∧ w'.heap[ob]? = some (.cells (outC hs i).toArray 37 (0, 0)) ∧ Below w.heap.size w w')
    (8 - 0) [(2, .pointer (some ⟨b0, 0, none⟩)), (4, .pointer (some ⟨hb, 0, none⟩)), (24, .pointer (some ⟨ob, 0, none⟩)), (25, .int .i64 (0 : Int))] ⟨rfl, rfl, rfl, rfl, trivial⟩ ⟨0, rfl, by omega, rfl, ho, hhd, ho9', hBa⟩ ?_
   clear ho hhd ho9' hBa
   rintro M ρ w10 ⟨i, rfl, hi, rfl, ho, hhd, hout, hBa⟩
   repeat (first | refine Wx ?_ | refine Wd ?_ | refine T_nil ?_ | refine Ar ?_ | refine Pv ?_)
   refine Aa (fun h => ?_) (fun h => ?_)
   ·have hi8 : i < 8 := by omega
    have hol := outC_len hs h8 i hi
    have hld : ∀ u : World, (planH hb hs).C u → u.cell? ⟨hb, 0 + (i : Int).toNat, none⟩ = some (wV (hs.getD i 0)) := fun u hu => cellW hu _ i (by omega) (by omega)
    repeat (first | refine Wx ?_ | refine W_plan (planH hb hs) rfl (by kernel_rfl) hhd ?_ | refine T_nil ?_ | refine T_w rfl rfl rfl rfl rfl rfl rfl ?_ | refine T_wb rfl rfl rfl rfl rfl rfl rfl ?_ | refine T_wnot rfl rfl rfl rfl rfl ?_ | refine T_wshl rfl rfl rfl rfl rfl rfl rfl ?_ | refine T_wshr rfl rfl rfl rfl rfl rfl rfl ?_ | refine Ar ?_ | refine T_idx1 rfl rfl rfl rfl rfl rfl rfl rfl rfl (by omega) ?_ | refine T_idxA1 rfl rfl rfl rfl rfl rfl rfl rfl rfl (by omega) ?_ | refine Pv ?_ | refine T_loadP rfl rfl rfl rfl rfl rfl rfl hld ?_)
    refine T_store1P (v := bV (UInt8.ofNat ((hs.getD i 0).toNat / 256 ^ 3))) (4 * i) (fun w' hg hc => gblk hg hc (by simp; omega)) rfl rfl (congrArg (fun z => some (Value.int .u8 z)) (byte_at _ 24 3 (by decide))) rfl rfl rfl rfl rfl rfl rfl hout (by omega) (by rw [List.size_toArray, hol]; omega) fun w11 hc11 hg11 _ => ?_
    repeat (first | refine Wx ?_ | refine W_plan (planH hb hs) rfl (by kernel_rfl) hhd ?_ | refine T_nil ?_ | refine T_w rfl rfl rfl rfl rfl rfl rfl ?_ | refine T_wb rfl rfl rfl rfl rfl rfl rfl ?_ | refine T_wnot rfl rfl rfl rfl rfl ?_ | refine T_wshl rfl rfl rfl rfl rfl rfl rfl ?_ | refine T_wshr rfl rfl rfl rfl rfl rfl rfl ?_ | refine Ar ?_ | refine T_idx1 rfl rfl rfl rfl rfl rfl rfl rfl rfl (by omega) ?_ | refine T_idxA1 rfl rfl rfl rfl rfl rfl rfl rfl rfl (by omega) ?_ | refine Pv ?_)
    refine T_store1P (v := bV (UInt8.ofNat ((hs.getD i 0).toNat / 256 ^ 2))) (4 * i + 1) (fun w' hg hc => gblk hg hc (by simp; omega)) rfl rfl (congrArg (fun z => some (Value.int .u8 z)) (byte_at _ 16 2 (by decide))) rfl rfl rfl rfl rfl rfl rfl hc11 (by omega) (by rw [Array.size_setIfInBounds, List.size_toArray, hol]; omega) fun w12 hc12 hg12 _ => ?_
    repeat (first | refine Wx ?_ | refine W_plan (planH hb hs) rfl (by kernel_rfl) hhd ?_ | refine T_nil ?_ | refine T_w rfl rfl rfl rfl rfl rfl rfl ?_ | refine T_wb rfl rfl rfl rfl rfl rfl rfl ?_ | refine T_wnot rfl rfl rfl rfl rfl ?_ | refine T_wshl rfl rfl rfl rfl rfl rfl rfl ?_ | refine T_wshr rfl rfl rfl rfl rfl rfl rfl ?_ | refine Ar ?_ | refine T_idx1 rfl rfl rfl rfl rfl rfl rfl rfl rfl (by omega) ?_ | refine T_idxA1 rfl rfl rfl rfl rfl rfl rfl rfl rfl (by omega) ?_ | refine Pv ?_)
    refine T_store1P (v := bV (UInt8.ofNat ((hs.getD i 0).toNat / 256 ^ 1))) (4 * i + 2) (fun w' hg hc => gblk hg hc (by simp; omega)) rfl rfl (congrArg (fun z => some (Value.int .u8 z)) (byte_at _ 8 1 (by decide))) rfl rfl rfl rfl rfl rfl rfl hc12 (by omega) (by rw [Array.size_setIfInBounds, Array.size_setIfInBounds, List.size_toArray, hol]; omega) fun w13 hc13 hg13 _ => ?_
    repeat (first | refine Wx ?_ | refine W_plan (planH hb hs) rfl (by kernel_rfl) hhd ?_ | refine T_nil ?_ | refine T_w rfl rfl rfl rfl rfl rfl rfl ?_ | refine T_wb rfl rfl rfl rfl rfl rfl rfl ?_ | refine T_wnot rfl rfl rfl rfl rfl ?_ | refine T_wshl rfl rfl rfl rfl rfl rfl rfl ?_ | refine T_wshr rfl rfl rfl rfl rfl rfl rfl ?_ | refine Ar ?_ | refine T_idx1 rfl rfl rfl rfl rfl rfl rfl rfl rfl (by omega) ?_ | refine T_idxA1 rfl rfl rfl rfl rfl rfl rfl rfl rfl (by omega) ?_ | refine Pv ?_)
    refine T_store1P (v := bV (UInt8.ofNat ((hs.getD i 0).toNat / 256 ^ 0))) (4 * i + 3) (fun w' hg hc => gblk hg hc (by simp; omega)) rfl rfl (congrArg (fun z => some (Value.int .u8 z)) (byte_0 _)) rfl rfl rfl rfl rfl rfl rfl hc13 (by omega) (by rw [Array.size_setIfInBounds, Array.size_setIfInBounds, Array.size_setIfInBounds, List.size_toArray, hol]; omega) fun w14 hc14 hg14 _ => ?_
    rw [outC_set4 hs h8 i hi8] at hc14
    have hgg := gb_trans (gb_trans (gb_trans (undrew hg11) hg12 (by simp)) hg13 (by simp)) hg14 (by simp)
    replace ho := gblk hgg ho (by simp; omega)
    replace hhd := gblk hgg hhd (by simp; omega)
    replace hBa := hBa.stepg hgg (by omega)
    clear hgg hg11 hg12 hg13 hg14 hc11 hc12 hc13 hld hout
    repeat (first | refine Wx ?_ | refine Wd ?_ | refine T_nil ?_ | refine Ar ?_ | refine Pv ?_)
    exact ⟨8 - (i + 1), [(2, .pointer (some ⟨b0, 0, none⟩)), (4, .pointer (some ⟨hb, 0, none⟩)), (24, .pointer (some ⟨ob, 0, none⟩)), (25, .int .i64 ((i + 1 : Nat) : Int))], by omega, ⟨rfl, rfl, rfl, rfl, trivial⟩, i + 1, rfl, by omega, rfl, ho, hhd, hc14, hBa⟩
   ·have hi8 : i = 8 := by omega
    subst hi8
    have ho8 : (outC hs 8).toArray = ((Go.Sha.sha b).map bV).toArray := by
     rw [outC, List.take_of_length_le (by omega), hfin]; simp
    rw [ho8] at hout
    repeat (first | refine Wx ?_ | refine Wd ?_ | refine T_nil ?_ | refine Ar ?_ | refine Pv ?_ | (refine T_loadA ((Go.Sha.sha b).map bV).toArray rfl rfl rfl rfl rfl rfl rfl rfl (by simp [Go.Sha.sha_len]; rfl) (fun j v hj => blk_cells hout j v hj) ?_))
    refine T_storeF (v := hV (Go.Sha.sha b)) (fun _ => trivial) rfl rfl rfl rfl rfl rfl rfl ho rfl (by simp [hV, Value.cells, Go.Sha.sha_len]; rfl) (by simp [hV, Value.cells, Go.Sha.sha_len, hc0]) (one_bA _) fun w13 hc13 hg13 _ => ?_
    replace hBa := hBa.stepg hg13 (by omega)
    repeat (first | refine Wx ?_ | refine Wd ?_ | refine T_nil ?_ | refine Ar ?_ | refine Pv ?_)
    refine ⟨_, ⟨_, _, _, rfl, rfl, run_loadVarA (cs := ((Go.Sha.sha b).map bV).toArray) rfl rfl (by simp [Go.Sha.sha_len]; rfl) (blk_cells hc13), rfl⟩, rfl, hBa⟩

end Go.Proofs.YtfcejolipdcoaaaGreatDoor
namespace Go.Proofs.YtfcejolipdcoaaaGreatDoor
open Go Go.F Go.RowKit
open Go.Au

theorem nets_end {W w : World} {D D' : List UInt8} {et : TypeId} {a : Option Addr} {c : Nat} (h : D = D') (hc : D.length ≤ c) (hr : rowZ w W.heap.size et 1 (.slice a D.length c) D.length (D.map bV)) (hB : Below W.heap.size W w) :
  ∃ a' c', D'.length ≤ c' ∧ Ending.returned (.slice a D.length c) = .returned (.slice a' D'.length c') ∧ rowZ w W.heap.size et 1 (.slice a' D'.length c') D'.length (D'.map bV) ∧ Below W.heap.size W w := by
 subst h; exact ⟨a, c, hc, rfl, hr, hB⟩
theorem row_of_owns {w w' : World} {e : Ending} {ty n : Nat} {D : List UInt8} (h : ∃ v, e = .returned v ∧ w'.ownsRow w.heap.size ty 1 v n (D.map bV) ∧ Below w.heap.size w w') :
  ∃ a c, D.length ≤ c ∧ e = .returned (.slice a D.length c) ∧ rowZ w' w.heap.size ty 1 (.slice a D.length c) D.length (D.map bV) ∧ Below w.heap.size w w' := by
 obtain ⟨v, rfl, ho, hB⟩ := h
 have hn : n = D.length := (Rd.of_owns ho).lenB
 subst hn
 obtain ⟨a, c, rfl, hc⟩ := (Rd.of_owns ho).shape
 exact ⟨a, c, hc, rfl, rowZ.of ho, hB⟩
theorem sumN_ok {H : Hp} {w : World} (hH : H.le (hw w)) {b : List UInt8} {a0 : Option Addr} {n0 c0 : Nat} (hv : Rd H (.slice a0 n0 c0) n0 1 (b.map bV)) (hl : b.length ≤ 1000000000) :
  Calls Tryz.prog 62 #[.slice a0 n0 c0] w fun e w' => e = .returned (hV (Go.Sha.sha b)) ∧ Below w.heap.size w w' := sum_ok b _ w (hv.canonB.mono hH) hl
theorem sumR_ok {H : Hp} {w : World} (hH : H.le (hw w)) {b : List UInt8} {a0 : Option Addr} {n0 c0 : Nat} (hv : Rd H (.slice a0 n0 c0) n0 1 (b.map bV)) (hl : b.length ≤ 1000000000) :
  Calls Tryz.prog 53 #[.slice a0 n0 c0] w fun e w' => e = .returned (hV (Go.Sha.sha b)) ∧ Below w.heap.size w w' := refSum_ok b _ w (hv.canonB.mono hH) hl
theorem putN_ok {H : Hp} {w : World} (_ : H.le (hw w)) (z : Int) (m : Nat) (hz : z ≤ 9223372036854775807) (hm : 0 < m ∧ m ≤ 8) :
  Calls Tryz.prog 65 #[.int .i64 z, .int .i64 ((m : Nat) : Int)] w fun e w' => ∃ a c, (Go.Sha.put (max 0 z).toNat m).length ≤ c ∧ e = .returned (.slice a (Go.Sha.put (max 0 z).toNat m).length c) ∧ rowZ w' w.heap.size 5 1 (.slice a (Go.Sha.put (max 0 z).toNat m).length c) (Go.Sha.put (max 0 z).toNat m).length ((Go.Sha.put (max 0 z).toNat m).map bV) ∧ Below w.heap.size w w' := by
 have h := put_ok z m w hz
 have e1 : (max 0 (min (m : Int) 8)).toNat = m := by omega
 rw [e1] at h
 exact h.mono fun e w' h => row_of_owns h
theorem putR_ok {H : Hp} {w : World} (_ : H.le (hw w)) (z : Int) (m : Nat) (hz : z ≤ 9223372036854775807) (hm : 0 < m ∧ m ≤ 8) :
  Calls Tryz.prog 77 #[.int .i64 z, .int .i64 ((m : Nat) : Int)] w fun e w' => ∃ a c, (Go.Sha.put (max 0 z).toNat m).length ≤ c ∧ e = .returned (.slice a (Go.Sha.put (max 0 z).toNat m).length c) ∧ rowZ w' w.heap.size 5 1 (.slice a (Go.Sha.put (max 0 z).toNat m).length c) (Go.Sha.put (max 0 z).toNat m).length ((Go.Sha.put (max 0 z).toNat m).map bV) ∧ Below w.heap.size w w' :=
 (rputZ_ok z _ m w hz rfl hm).mono fun e w' h => row_of_owns h

theorem digits_ok {H : Hp} {w : World} (hH : H.le (hw w)) (n : Nat) (hn : n < 10000) :
  Calls Tryz.prog 94 #[.int .i64 ((n : Nat) : Int)] w fun e w' => e = .returned (str (dec n)) ∧ Below w.heap.size w w' := by
 induction n using Nat.strongRecOn generalizing w H with
 | _ n ih =>
  refine enter1 _ Tryz.func94 rfl Tryz.ntmps94 Tryz.results94 rfl ?_
  have S0 := St.start w hH
  refine Wr (Pv (T_nil (W_seq (Wr ?_))))
  refine P2 (T_nil ?_)
  refine Aa (fun h1 => ?_) (fun h1 => ?_)
  ·refine Wr (Pv ?_)
   refine T_ari rfl rfl rfl rfl (by omega) ?_
   refine T_i2b (48 + n) (by omega) rfl rfl rfl rfl rfl rfl rfl ?_
   refine Ad (hone := by simp [Value.cells]; rfl) ([(UInt8.ofNat (48 + n) : UInt8)].map bV) fun a2 w3 hB4 ho5 => ?_
   have S6 := S0.own hB4 ho5
   refine ⟨trivial, ?_⟩
   obtain ⟨G8, hl9, S7, r10⟩ := S6.stillRow 0 rfl
   refine T_convG S7 r10 rfl rfl rfl rfl rfl rfl rfl rfl rfl (Pv (T_nil (W_ret ?_)))
   refine ⟨_, ⟨_, _, rfl, rfl, rfl⟩, ?_⟩
   exact ⟨by rw [dec_lt (by omega)]; rfl, S7.below⟩
  refine W_skip (W_seq (W_tree (plan Tryz.prog) (.step 0 (.step 1 (.step 3 (.step 4 (.step 5 (.step 6 (.fork 2 7 (.step 7 (.step 8 (.step 9 (.step 10 .done)))) (.fork 2 8 (.step 8 (.step 9 (.step 10 .done))) (.step 2 (.step 9 (.step 10 .done))))))))))) rfl (by kernel_rfl) trivial ?_))
  have S11 := S0.drew
  refine TT_step rfl (Pv ?_)
  refine Nt rfl (T_quo rfl rfl rfl rfl rfl rfl (by omega) ?_)
  refine Nt rfl (Pv ?_)
  refine Nt rfl (T_rem rfl rfl rfl rfl rfl rfl (by omega) ?_)
  refine Nt rfl (T_ari rfl rfl rfl rfl (by omega) ?_)
  refine Nt rfl (T_i2b (48 + (n % 10)) (by omega) rfl rfl rfl rfl rfl rfl rfl (T_nil ?_))
  refine TT_fork rfl rfl ?_ ?_
  ·refine T_callS rfl rfl g_aumbry_aumbryref01_Digits rfl rfl rfl rfl ((ih (n / 10) (by omega) S11.le (by omega)).mono ?_)
   rintro e w13 ⟨rfl, hB12⟩
   have S14 := S11.call hB12
   refine ⟨_, rfl, trivial, ?_⟩
   refine Nt rfl (Ad (hone := by simp [Value.cells]; rfl) ([(UInt8.ofNat (48 + (n % 10)) : UInt8)].map bV) fun a15 w16 hB17 ho18 => ?_)
   have S19 := S14.own hB17 ho18
   refine ⟨trivial, ?_⟩
   refine Nt rfl ?_
   obtain ⟨G21, hl22, S20, r23⟩ := S19.stillRow 0 rfl
   refine T_convG S20 r23 rfl rfl rfl rfl rfl rfl rfl rfl rfl (Nt rfl ?_)
   have hd1 := dec_len_le 5 (n / 10) (by omega)
   refine T_stradd rfl rfl rfl rfl rfl rfl (by simp only [List.length_cons, List.length_nil]; omega) ?_
   refine Nt rfl (Pv (T_nil (TT_done (W_ret ?_))))
   refine ⟨_, ⟨_, _, rfl, rfl, rfl⟩, ?_⟩
   have hd := dec_len_le 5 n (by omega)
   exact ⟨by rw [dec_ge (n := n) (by omega)]; rfl, S20.below⟩
  refine Ad (hone := by simp [Value.cells]; rfl) ([(UInt8.ofNat (48 + (n % 10)) : UInt8)].map bV) fun a24 w25 hB26 ho27 => ?_
  have S28 := S11.own hB26 ho27
  refine ⟨trivial, ?_⟩
  refine T_nil (TT_fork rfl rfl ?_ ?_)
  ·refine T_callS rfl rfl g_aumbry_aumbryref01_Digits rfl rfl rfl rfl ((ih (n / 10) (by omega) S28.le (by omega)).mono ?_)
   rintro e w30 ⟨rfl, hB29⟩
   have S31 := S28.call hB29
   refine ⟨_, rfl, trivial, ?_⟩
   refine Nt rfl ?_
   obtain ⟨G33, hl34, S32, r35⟩ := S31.stillRow 0 rfl
   refine T_convG S32 r35 rfl rfl rfl rfl rfl rfl rfl rfl rfl (Nt rfl ?_)
   have hd1 := dec_len_le 5 (n / 10) (by omega)
   refine T_stradd rfl rfl rfl rfl rfl rfl (by simp only [List.length_cons, List.length_nil]; omega) ?_
   refine Nt rfl (Pv (T_nil (TT_done (W_ret ?_))))
   refine ⟨_, ⟨_, _, rfl, rfl, rfl⟩, ?_⟩
   have hd := dec_len_le 5 n (by omega)
   exact ⟨by rw [dec_ge (n := n) (by omega)]; rfl, S32.below⟩
  obtain ⟨G37, hl38, S36, r39⟩ := S28.stillRow 0 rfl
  refine T_convG S36 r39 rfl rfl rfl rfl rfl rfl rfl rfl rfl (Nt rfl (T_callS rfl rfl g_aumbry_aumbryref01_Digits rfl rfl rfl rfl ((ih (n / 10) (by omega) S36.le (by omega)).mono ?_)))
  rintro e w41 ⟨rfl, hB40⟩
  have S42 := S36.call hB40
  refine ⟨_, rfl, trivial, ?_⟩
  refine Nt rfl ?_
  have hd1 := dec_len_le 5 (n / 10) (by omega)
  refine T_stradd rfl rfl rfl rfl rfl rfl (by simp only [List.length_cons, List.length_nil]; omega) ?_
  refine Nt rfl (Pv (T_nil (TT_done (W_ret ?_))))
  refine ⟨_, ⟨_, _, rfl, rfl, rfl⟩, ?_⟩
  have hd := dec_len_le 5 n (by omega)
  exact ⟨by rw [dec_ge (n := n) (by omega)]; rfl, S42.below⟩


theorem net_ok {H : Hp} {w : World} (hH : H.le (hw w)) (hT : Tabs H) {b : List UInt8} {aa0 : Option Addr} {nn0 cc0 : Nat} (hv : Rd H (.slice aa0 nn0 cc0) nn0 1 (b.map bV)) (hl : b.length < 10000) :
  Calls Tryz.prog 72 #[.slice aa0 nn0 cc0] w fun e w' => ∃ a c, (net b).length ≤ c ∧ e = .returned (.slice a (net b).length c) ∧ rowZ w' w.heap.size 5 1 (.slice a (net b).length c) (net b).length ((net b).map bV) ∧ Below w.heap.size w w' := by
 obtain rfl : nn0 = b.length := hv.lenB
 have hvcap : b.length ≤ cc0 := hv.capOf
 have hd := dec_len_le 5 b.length (by omega)
 refine enter1 _ Tryz.func72 rfl Tryz.ntmps72 Tryz.results72 rfl ?_
 have S0 := St.start w hH
 refine Wr (Pv (Nr ?_))
 refine P2 ?_
 refine T_callS rfl rfl g_strconv_Itoa rfl rfl rfl rfl ((itoa_ok S0.le hT b.length (by omega)).mono ?_)
 rintro e w2 ⟨rfl, hB1⟩
 have S3 := S0.call hB1
 refine ⟨_, rfl, trivial, ?_⟩
 refine T_s2b rfl rfl rfl rfl rfl rfl rfl rfl rfl (by unfold maxLen; omega) fun a4 c5 w6 hc7 hB8 ho9 => ?_
 have S10 := S3.own hB8 ho9
 refine ⟨trivial, ?_⟩
 refine Ad (hone := by simp [Value.cells]; rfl) ([(58 : UInt8)].map bV) fun a11 w12 hB13 ho14 => ?_
 have S15 := S10.own hB13 ho14
 refine ⟨trivial, ?_⟩
 refine Ae (h1 := by exact one_bV _) (hn' := by first | rfl | (simp; done) | (simp; omega) | omega) (hx' := by simp) (h63 := by unfold maxLen; simp only [List.length_append, List.length_cons, List.length_nil]; omega) (hbytes := by show _ * 1 ≤ _; simp only [List.length_append, List.length_cons, List.length_nil]; omega) 1 ((dec b.length ++ [(58 : UInt8)]).length) ((dec b.length ++ [(58 : UInt8)]).map bV) S15 (S15.rd 0 rfl) fun a16 c17 w18 hc19 S20 => ?_
 refine Pv (Nr ?_)
 refine P2 ?_
 refine Ae (h1 := by exact one_bV _) (hn' := by first | rfl | (simp; done) | (simp; omega) | omega) (hx' := by simp) (h63 := by unfold maxLen; simp only [List.length_append, List.length_cons, List.length_nil]; omega) (hbytes := by show _ * 1 ≤ _; simp only [List.length_append, List.length_cons, List.length_nil]; omega) 1 (((dec b.length ++ [(58 : UInt8)]) ++ b).length) (((dec b.length ++ [(58 : UInt8)]) ++ b).map bV) S20 (hv.mono S20.le) fun a21 c22 w23 hc24 S25 => ?_
 refine Pv (Nr ?_)
 refine Pv ?_
 refine Ad (hone := by simp [Value.cells]; rfl) ([(44 : UInt8)].map bV) fun a26 w27 hB28 ho29 => ?_
 have S30 := S25.own hB28 ho29
 refine ⟨trivial, ?_⟩
 have hD31 : (((dec b.length ++ [(58 : UInt8)]) ++ b) ++ [(44 : UInt8)]) = net b := (by simp [net])
 refine Ae (h1 := by exact one_bV _) (hn' := by rw [← hD31]; first | rfl | (simp; done) | (simp; omega) | omega) (hx' := by rw [← hD31]; simp) (h63 := by unfold maxLen; rw [← hD31]; simp only [List.length_append, List.length_cons, List.length_nil]; omega) (hbytes := by show _ * 1 ≤ _; rw [← hD31]; simp only [List.length_append, List.length_cons, List.length_nil]; omega) 2 ((net b).length) ((net b).map bV) S30 (S30.rd 0 rfl) fun a32 c33 w34 hc35 S36 => ?_
 refine Pv (T_nil (W_ret ?_))
 refine ⟨_, ⟨_, _, rfl, rfl, rfl⟩, ?_⟩
 exact ⟨_, _, hc35, rfl, S36.row 2 rfl, S36.below⟩


theorem netR_ok {H : Hp} {w : World} (hH : H.le (hw w)) {b : List UInt8} {aa0 : Option Addr} {nn0 cc0 : Nat} (hv : Rd H (.slice aa0 nn0 cc0) nn0 1 (b.map bV)) (hl : b.length < 10000) :
  Calls Tryz.prog 80 #[.slice aa0 nn0 cc0] w fun e w' => ∃ a c, (net b).length ≤ c ∧ e = .returned (.slice a (net b).length c) ∧ rowZ w' w.heap.size 5 1 (.slice a (net b).length c) (net b).length ((net b).map bV) ∧ Below w.heap.size w w' := by
 obtain rfl : nn0 = b.length := hv.lenB
 have hvcap : b.length ≤ cc0 := hv.capOf
 have hd := dec_len_le 5 b.length (by omega)
 refine enter1 _ Tryz.func80 rfl Tryz.ntmps80 Tryz.results80 rfl ?_
 have S0 := St.start w hH
 refine Wr (Pv (Nr ?_))
 refine P2 ?_
 refine T_callS rfl rfl g_aumbry_aumbryref01_Digits rfl rfl rfl rfl ((digits_ok S0.le b.length (by omega)).mono ?_)
 rintro e w2 ⟨rfl, hB1⟩
 have S3 := S0.call hB1
 refine ⟨_, rfl, trivial, ?_⟩
 refine T_s2b rfl rfl rfl rfl rfl rfl rfl rfl rfl (by unfold maxLen; omega) fun a4 c5 w6 hc7 hB8 ho9 => ?_
 have S10 := S3.own hB8 ho9
 refine ⟨trivial, ?_⟩
 refine Ad (hone := by simp [Value.cells]; rfl) ([(58 : UInt8)].map bV) fun a11 w12 hB13 ho14 => ?_
 have S15 := S10.own hB13 ho14
 refine ⟨trivial, ?_⟩
 refine Ae (h1 := by exact one_bV _) (hn' := by first | rfl | (simp; done) | (simp; omega) | omega) (hx' := by simp) (h63 := by unfold maxLen; simp only [List.length_append, List.length_cons, List.length_nil]; omega) (hbytes := by show _ * 1 ≤ _; simp only [List.length_append, List.length_cons, List.length_nil]; omega) 1 ((dec b.length ++ [(58 : UInt8)]).length) ((dec b.length ++ [(58 : UInt8)]).map bV) S15 (S15.rd 0 rfl) fun a16 c17 w18 hc19 S20 => ?_
 refine Pv (Nr ?_)
 refine P2 ?_
 refine Ae (h1 := by exact one_bV _) (hn' := by first | rfl | (simp; done) | (simp; omega) | omega) (hx' := by simp) (h63 := by unfold maxLen; simp only [List.length_append, List.length_cons, List.length_nil]; omega) (hbytes := by show _ * 1 ≤ _; simp only [List.length_append, List.length_cons, List.length_nil]; omega) 1 (((dec b.length ++ [(58 : UInt8)]) ++ b).length) (((dec b.length ++ [(58 : UInt8)]) ++ b).map bV) S20 (hv.mono S20.le) fun a21 c22 w23 hc24 S25 => ?_
 refine Pv (Nr ?_)
 refine Pv ?_
 refine Ad (hone := by simp [Value.cells]; rfl) ([(44 : UInt8)].map bV) fun a26 w27 hB28 ho29 => ?_
 have S30 := S25.own hB28 ho29
 refine ⟨trivial, ?_⟩
 have hD31 : (((dec b.length ++ [(58 : UInt8)]) ++ b) ++ [(44 : UInt8)]) = net b := (by simp [net])
 refine Ae (h1 := by exact one_bV _) (hn' := by rw [← hD31]; first | rfl | (simp; done) | (simp; omega) | omega) (hx' := by rw [← hD31]; simp) (h63 := by unfold maxLen; rw [← hD31]; simp only [List.length_append, List.length_cons, List.length_nil]; omega) (hbytes := by show _ * 1 ≤ _; rw [← hD31]; simp only [List.length_append, List.length_cons, List.length_nil]; omega) 2 ((net b).length) ((net b).map bV) S30 (S30.rd 0 rfl) fun a32 c33 w34 hc35 S36 => ?_
 refine Pv (T_nil (W_ret ?_))
 refine ⟨_, ⟨_, _, rfl, rfl, rfl⟩, ?_⟩
 exact ⟨_, _, hc35, rfl, S36.row 2 rfl, S36.below⟩


theorem nets_ok {H : Hp} {w : World} (hH : H.le (hw w)) (hT : Tabs H) {l : List (List UInt8)} {aa0 : Option Addr} {nn0 cc0 : Nat} (hv : RdL H (.slice aa0 nn0 cc0) l) (hb : (nets l).length < 10000) :
  Calls Tryz.prog 73 #[.slice aa0 nn0 cc0] w fun e w' => ∃ a c, (nets l).length ≤ c ∧ e = .returned (.slice a (nets l).length c) ∧ rowZ w' w.heap.size 5 1 (.slice a (nets l).length c) (nets l).length ((nets l).map bV) ∧ Below w.heap.size w w' := by
 obtain rfl : nn0 = l.length := hv.len
 have hcnt := nets_count l
 refine enter1 _ Tryz.func73 rfl Tryz.ntmps73 Tryz.results73 rfl ?_
 have S0 := St.start w hH
 refine Wr (Pv (Nr ?_))
 refine Pv (T_nil (W_seq (Wr ?_)))
 refine P3 (T_nil (W_block ?_))
 have S1 := S0.nilRow 5 1
 refine W_loop (fun M ρ w' => ∃ (k : Nat) (a4 : Option Addr) (c5 : Nat) (G2 : Hp), M = l.length - k ∧ k ≤ l.length ∧ ρ = [(3, .slice a4 ((nets (l.take k)).length) c5), (6, .slice aa0 l.length cc0), (7, .int .i64 ((l.length : Nat) : Int)), (8, .int .i64 (k : Int))] ∧ H.le G2 ∧ St w H G2 [.row 5 1 (.slice a4 ((nets (l.take k)).length) c5) ((nets (l.take k)).length) ((nets (l.take k)).map bV)] w' ∧ (nets (l.take k)).length ≤ c5)
  (l.length - 0) [(3, .slice none 0 0), (6, .slice aa0 l.length cc0), (7, .int .i64 ((l.length : Nat) : Int)), (8, .int .i64 ((0 : Nat) : Int))] ⟨rfl, rfl, ciI, ciI, trivial⟩ ⟨0, none, 0, H, rfl, (by omega), rfl, Hp.le.refl _, S1, (Nat.le_refl _)⟩ ?_
 rintro M ρ w7 ⟨k, a4, c5, G2, rfl, hp9, rfl, hl3, S8, hc6⟩
 have hnl := nets_take_le l k
 refine Wr (Pv (T_nil (W_seq ?_)))
 refine Aa (fun h10 => ?_) (fun h10 => ?_)
 ·refine W_skip (W_seq (W_block (Wr ?_)))
  obtain ⟨hs14, r15, r16⟩ := (hv.mono hl3)
  refine Af k r15 fun b11 o12 hc13 => ?_
  obtain ⟨a19, c20, hc22, hv18, r21⟩ := r16.at k (by omega)
  have hc23 := hc13 0 _ (by simpa using hv18)
  simp only [Nat.add_zero] at hc23
  refine Ab (r := by exact hc23) S8 ?_
  refine Pv (T_nil (W_region ?_))
  refine P2 ?_
  refine T_callS rfl rfl g_aumbry_code_Net rfl rfl rfl rfl ((net_ok S8.le (hT.mono hl3) r21 (nets_el hb k (by omega))).mono ?_)
  rintro e w29 ⟨a24, c25, hc26, rfl, ho27, hB28⟩
  have S30 := S8.own hB28 ho27
  refine ⟨_, rfl, trivial, ?_⟩
  have hD31 : (nets (l.take k) ++ net (l.getD k [])) = nets (l.take (k + 1)) := (nets_take (by omega))
  have hn1 := nets_take_le l (k + 1)
  refine Ae (h1 := by exact one_bV _) (hn' := by rw [← hD31]; first | rfl | (simp; done) | (simp; omega) | omega) (hx' := by rw [← hD31]; simp) (hbytes := by show _ * 1 ≤ _; omega) 1 ((nets (l.take (k + 1))).length) ((nets (l.take (k + 1))).map bV) S30 (S30.rd 0 rfl) fun a32 c33 w34 hc35 S36 => ?_
  refine Pv (T_nil (W_region ?_))
  refine T_ari rfl rfl rfl rfl (by omega) ?_
  refine Pv (T_nil ?_)
  have S37 := S36.drop 0
  exact ⟨l.length - (k + 1), [(3, .slice a32 ((nets (l.take (k + 1))).length) c33), (6, .slice aa0 l.length cc0), (7, .int .i64 ((l.length : Nat) : Int)), (8, .int .i64 ((k + 1 : Nat) : Int))], by omega, ⟨rfl, rfl, ciI, ciI, trivial⟩, k + 1, a32, c33, G2, rfl, (by omega), rfl, hl3, S37, hc35⟩
 refine W_exit (Wr (P2 (T_nil (W_ret ?_))))
 refine ⟨_, ⟨_, _, rfl, rfl, rfl⟩, ?_⟩
 obtain rfl : k = l.length := by omega
 exact nets_end (by rw [List.take_length]) hc6 (S8.row 0 rfl) S8.below


theorem netsR_ok {H : Hp} {w : World} (hH : H.le (hw w)) {l : List (List UInt8)} {aa0 : Option Addr} {nn0 cc0 : Nat} (hv : RdL H (.slice aa0 nn0 cc0) l) (hb : (nets l).length < 10000) :
  Calls Tryz.prog 82 #[.slice aa0 nn0 cc0] w fun e w' => ∃ a c, (nets l).length ≤ c ∧ e = .returned (.slice a (nets l).length c) ∧ rowZ w' w.heap.size 5 1 (.slice a (nets l).length c) (nets l).length ((nets l).map bV) ∧ Below w.heap.size w w' := by
 obtain rfl : nn0 = l.length := hv.len
 have hcnt := nets_count l
 refine enter1 _ Tryz.func82 rfl Tryz.ntmps82 Tryz.results82 rfl ?_
 have S0 := St.start w hH
 refine Wr (Pv (Nr ?_))
 refine Pv (T_nil (W_seq (Wr ?_)))
 refine P3 (T_nil (W_block ?_))
 have S1 := S0.nilRow 5 1
 refine W_loop (fun M ρ w' => ∃ (k : Nat) (a4 : Option Addr) (c5 : Nat) (G2 : Hp), M = l.length - k ∧ k ≤ l.length ∧ ρ = [(0, .slice aa0 l.length cc0), (3, .slice a4 ((nets (l.take k)).length) c5), (6, .int .i64 ((l.length : Nat) : Int)), (7, .int .i64 (k : Int))] ∧ H.le G2 ∧ St w H G2 [.row 5 1 (.slice a4 ((nets (l.take k)).length) c5) ((nets (l.take k)).length) ((nets (l.take k)).map bV)] w' ∧ (nets (l.take k)).length ≤ c5)
  (l.length - 0) [(0, .slice aa0 l.length cc0), (3, .slice none 0 0), (6, .int .i64 ((l.length : Nat) : Int)), (7, .int .i64 ((0 : Nat) : Int))] ⟨rfl, rfl, ciI, ciI, trivial⟩ ⟨0, none, 0, H, rfl, (by omega), rfl, Hp.le.refl _, S1, (Nat.le_refl _)⟩ ?_
 rintro M ρ w7 ⟨k, a4, c5, G2, rfl, hp9, rfl, hl3, S8, hc6⟩
 have hnl := nets_take_le l k
 refine Wr (Pv (T_nil (W_seq ?_)))
 refine Aa (fun h10 => ?_) (fun h10 => ?_)
 ·refine W_skip (W_seq (W_block (Wr (P2 (T_nil (W_region ?_))))))
  refine P3 ?_
  obtain ⟨hs14, r15, r16⟩ := (hv.mono hl3)
  refine Af k r15 fun b11 o12 hc13 => ?_
  obtain ⟨a19, c20, hc22, hv18, r21⟩ := r16.at k (by omega)
  have hc23 := hc13 0 _ (by simpa using hv18)
  simp only [Nat.add_zero] at hc23
  refine Ab (r := by exact hc23) S8 ?_
  refine T_callS rfl rfl g_aumbry_aumbryref01_Net rfl rfl rfl rfl ((netR_ok S8.le r21 (nets_el hb k (by omega))).mono ?_)
  rintro e w29 ⟨a24, c25, hc26, rfl, ho27, hB28⟩
  have S30 := S8.own hB28 ho27
  refine ⟨_, rfl, trivial, ?_⟩
  have hD31 : (nets (l.take k) ++ net (l.getD k [])) = nets (l.take (k + 1)) := (nets_take (by omega))
  have hn1 := nets_take_le l (k + 1)
  refine Ae (h1 := by exact one_bV _) (hn' := by rw [← hD31]; first | rfl | (simp; done) | (simp; omega) | omega) (hx' := by rw [← hD31]; simp) (hbytes := by show _ * 1 ≤ _; omega) 1 ((nets (l.take (k + 1))).length) ((nets (l.take (k + 1))).map bV) S30 (S30.rd 0 rfl) fun a32 c33 w34 hc35 S36 => ?_
  refine Pv (T_nil (W_region ?_))
  refine T_ari rfl rfl rfl rfl (by omega) ?_
  refine Pv (T_nil ?_)
  have S37 := S36.drop 0
  exact ⟨l.length - (k + 1), [(0, .slice aa0 l.length cc0), (3, .slice a32 ((nets (l.take (k + 1))).length) c33), (6, .int .i64 ((l.length : Nat) : Int)), (7, .int .i64 ((k + 1 : Nat) : Int))], by omega, ⟨rfl, rfl, ciI, ciI, trivial⟩, k + 1, a32, c33, G2, rfl, (by omega), rfl, hl3, S37, hc35⟩
 refine W_exit (Wr (P2 (T_nil (W_ret ?_))))
 refine ⟨_, ⟨_, _, rfl, rfl, rfl⟩, ?_⟩
 obtain rfl : k = l.length := by omega
 exact nets_end (by rw [List.take_length]) hc6 (S8.row 0 rfl) S8.below


theorem text_ok {H : Hp} {w : World} (hH : H.le (hw w)) (hT : Tabs H) {tag : List UInt8} {l : List (List UInt8)} {aa1 : Option Addr} {nn1 cc1 : Nat} (hv : RdL H (.slice aa1 nn1 cc1) l) (hb : (Go.Au.text tag l).length < 10000) :
  Calls Tryz.prog 37 #[str tag, .slice aa1 nn1 cc1] w fun e w' => ∃ a c, (Go.Au.text tag l).length ≤ c ∧ e = .returned (.slice a (Go.Au.text tag l).length c) ∧ rowZ w' w.heap.size 5 1 (.slice a (Go.Au.text tag l).length c) (Go.Au.text tag l).length ((Go.Au.text tag l).map bV) ∧ Below w.heap.size w w' := by
 obtain rfl : nn1 = l.length := hv.len
 have hb1 := text_tag tag l
 have hb2 := text_nets tag l
 refine enter2 _ Tryz.func37 rfl Tryz.ntmps37 Tryz.results37 rfl ?_
 have S0 := St.start w hH
 refine Wr (Pv (Nr ?_))
 refine Pv ?_
 refine T_s2b rfl rfl rfl rfl rfl rfl rfl rfl rfl (by unfold maxLen; omega) fun a1 c2 w3 hc4 hB5 ho6 => ?_
 have S7 := S0.own hB5 ho6
 refine ⟨trivial, ?_⟩
 obtain ⟨G9, hl10, S8, r11⟩ := S7.stillRow 0 rfl
 refine T_callS rfl rfl g_aumbry_code_Net rfl rfl rfl rfl ((net_ok S8.le (hT.mono hl10) r11 (by omega)).mono ?_)
 rintro e w17 ⟨a12, c13, hc14, rfl, ho15, hB16⟩
 have S18 := S8.own hB16 ho15
 refine ⟨_, rfl, trivial, ?_⟩
 refine Pv ?_
 refine T_callS rfl rfl g_aumbry_code_Nets rfl rfl rfl rfl ((nets_ok S18.le (hT.mono hl10) (hv.mono hl10) (by omega)).mono ?_)
 rintro e w24 ⟨a19, c20, hc21, rfl, ho22, hB23⟩
 have S25 := S18.own hB23 ho22
 refine ⟨_, rfl, trivial, ?_⟩
 have hD26 : (net tag ++ nets l) = Go.Au.text tag l := rfl
 refine Ae (h1 := by exact one_bV _) (hn' := by rw [← hD26]; first | rfl | (simp; done) | (simp; omega) | omega) (hx' := by rw [← hD26]; simp) (hbytes := by show _ * 1 ≤ _; omega) 1 ((Go.Au.text tag l).length) ((Go.Au.text tag l).map bV) S25 (S25.rd 0 rfl) fun a27 c28 w29 hc30 S31 => ?_
 refine Pv (T_nil (W_ret ?_))
 refine ⟨_, ⟨_, _, rfl, rfl, rfl⟩, ?_⟩
 exact ⟨_, _, hc30, rfl, S31.row 1 rfl, S31.below⟩


theorem tagged_ok {H : Hp} {w : World} (hH : H.le (hw w)) (hT : Tabs H) {tag : List UInt8} {l : List (List UInt8)} {aa1 : Option Addr} {nn1 cc1 : Nat} (hv : RdL H (.slice aa1 nn1 cc1) l) (hb : (Go.Au.text tag l).length < 10000) :
  Calls Tryz.prog 71 #[str tag, .slice aa1 nn1 cc1] w fun e w' => e = .returned (hV (Go.Au.tagged tag l)) ∧ Below w.heap.size w w' := by
 obtain rfl : nn1 = l.length := hv.len
 refine enter2 _ Tryz.func71 rfl Tryz.ntmps71 Tryz.results71 rfl ?_
 have S0 := St.start w hH
 refine Wr (Ac S0 fun b1 w2 S3 => (Nr ?_))
 refine P2 ?_
 refine T_callS rfl rfl g_aumbry_sha_Text rfl rfl rfl rfl ((text_ok S3.le hT hv (by omega)).mono ?_)
 rintro e w9 ⟨a4, c5, hc6, rfl, ho7, hB8⟩
 have S10 := S3.own hB8 ho7
 refine ⟨_, rfl, trivial, ?_⟩
 obtain ⟨G12, hl13, S11, r14⟩ := S10.stillRow 0 rfl
 refine T_callS rfl rfl g_aumbry_sha_Sum rfl rfl rfl rfl ((sumN_ok S11.le r14 (by omega)).mono ?_)
 rintro e w16 ⟨rfl, hB15⟩
 have S17 := S11.call hB15
 refine ⟨_, rfl, trivial, ?_⟩
 refine T_re (v' := hV (Go.Au.tagged tag l)) rfl (Ag (hl := by exact hVs (tagged_len _ _)) (hl2 := by exact hVs (tagged_len _ _)) (h1 := by exact one_hA _) 0 S17 fun w18 S19 => (T_nil (W_ret ?_)))
 refine ⟨_, ⟨_, _, _, rfl, rfl, run_loadVarA rfl rfl (hVs (tagged_len _ _)) (S19.cells 0 rfl), rfl⟩, ?_⟩
 exact ⟨rfl, S19.below⟩


theorem textR_ok {H : Hp} {w : World} (hH : H.le (hw w)) {tag : List UInt8} {l : List (List UInt8)} {aa1 : Option Addr} {nn1 cc1 : Nat} (hv : RdL H (.slice aa1 nn1 cc1) l) (hb : (Go.Au.text tag l).length < 10000) :
  Calls Tryz.prog 49 #[str tag, .slice aa1 nn1 cc1] w fun e w' => ∃ a c, (Go.Au.text tag l).length ≤ c ∧ e = .returned (.slice a (Go.Au.text tag l).length c) ∧ rowZ w' w.heap.size 5 1 (.slice a (Go.Au.text tag l).length c) (Go.Au.text tag l).length ((Go.Au.text tag l).map bV) ∧ Below w.heap.size w w' := by
 obtain rfl : nn1 = l.length := hv.len
 have hb1 := text_tag tag l
 have hb2 := text_nets tag l
 refine enter2 _ Tryz.func49 rfl Tryz.ntmps49 Tryz.results49 rfl ?_
 have S0 := St.start w hH
 refine Wr (Pv (Nr ?_))
 refine Pv ?_
 refine T_s2b rfl rfl rfl rfl rfl rfl rfl rfl rfl (by unfold maxLen; omega) fun a1 c2 w3 hc4 hB5 ho6 => ?_
 have S7 := S0.own hB5 ho6
 refine ⟨trivial, ?_⟩
 obtain ⟨G9, hl10, S8, r11⟩ := S7.stillRow 0 rfl
 refine T_callS rfl rfl g_aumbry_aumbryref01_Net rfl rfl rfl rfl ((netR_ok S8.le r11 (by omega)).mono ?_)
 rintro e w17 ⟨a12, c13, hc14, rfl, ho15, hB16⟩
 have S18 := S8.own hB16 ho15
 refine ⟨_, rfl, trivial, ?_⟩
 refine Pv ?_
 refine T_callS rfl rfl g_aumbry_aumbryref01_Nets rfl rfl rfl rfl ((netsR_ok S18.le (hv.mono hl10) (by omega)).mono ?_)
 rintro e w24 ⟨a19, c20, hc21, rfl, ho22, hB23⟩
 have S25 := S18.own hB23 ho22
 refine ⟨_, rfl, trivial, ?_⟩
 have hD26 : (net tag ++ nets l) = Go.Au.text tag l := rfl
 refine Ae (h1 := by exact one_bV _) (hn' := by rw [← hD26]; first | rfl | (simp; done) | (simp; omega) | omega) (hx' := by rw [← hD26]; simp) (hbytes := by show _ * 1 ≤ _; omega) 1 ((Go.Au.text tag l).length) ((Go.Au.text tag l).map bV) S25 (S25.rd 0 rfl) fun a27 c28 w29 hc30 S31 => ?_
 refine Pv (T_nil (W_ret ?_))
 refine ⟨_, ⟨_, _, rfl, rfl, rfl⟩, ?_⟩
 exact ⟨_, _, hc30, rfl, S31.row 1 rfl, S31.below⟩


theorem taggedR_ok {H : Hp} {w : World} (hH : H.le (hw w)) {tag : List UInt8} {l : List (List UInt8)} {aa1 : Option Addr} {nn1 cc1 : Nat} (hv : RdL H (.slice aa1 nn1 cc1) l) (hb : (Go.Au.text tag l).length < 10000) :
  Calls Tryz.prog 81 #[str tag, .slice aa1 nn1 cc1] w fun e w' => e = .returned (hV (Go.Au.tagged tag l)) ∧ Below w.heap.size w w' := by
 obtain rfl : nn1 = l.length := hv.len
 refine enter2 _ Tryz.func81 rfl Tryz.ntmps81 Tryz.results81 rfl ?_
 have S0 := St.start w hH
 refine Wr (Ac S0 fun b1 w2 S3 => (Nr ?_))
 refine P2 ?_
 refine T_callS rfl rfl g_aumbry_aumbryref01_Text rfl rfl rfl rfl ((textR_ok S3.le hv (by omega)).mono ?_)
 rintro e w9 ⟨a4, c5, hc6, rfl, ho7, hB8⟩
 have S10 := S3.own hB8 ho7
 refine ⟨_, rfl, trivial, ?_⟩
 obtain ⟨G12, hl13, S11, r14⟩ := S10.stillRow 0 rfl
 refine T_callS rfl rfl g_aumbry_aumbryref01_Sum rfl rfl rfl rfl ((sumR_ok S11.le r14 (by omega)).mono ?_)
 rintro e w16 ⟨rfl, hB15⟩
 have S17 := S11.call hB15
 refine ⟨_, rfl, trivial, ?_⟩
 refine T_re (v' := hV (Go.Au.tagged tag l)) rfl (Ag (hl := by exact hVs (tagged_len _ _)) (hl2 := by exact hVs (tagged_len _ _)) (h1 := by exact one_hA _) 0 S17 fun w18 S19 => (T_nil (W_ret ?_)))
 refine ⟨_, ⟨_, _, _, rfl, rfl, run_loadVarA rfl rfl (hVs (tagged_len _ _)) (S19.cells 0 rfl), rfl⟩, ?_⟩
 exact ⟨rfl, S19.below⟩

end Go.Proofs.YtfcejolipdcoaaaGreatDoor
namespace Go.Proofs.YtfcejolipdcoaaaGreatDoor
open Go Go.F Go.RowKit
open Go.Au hiding digits

theorem bits15 (c : UInt8) : bits .and .u8 (c.toNat : Int) 15 = ((c.toNat % 16 : Nat) : Int) := by
 have key : ∀ q : Fin 256, bits .and .u8 (q.val : Int) 15 = ((q.val % 16 : Nat) : Int) := by decide +kernel
 exact key ⟨c.toNat, c.toNat_lt⟩
theorem bits15i (n : Nat) (h : n < 1024) : bits .and .i64 ((n : Nat) : Int) 15 = ((n % 16 : Nat) : Int) := by
 have key : ∀ q : Fin 1024, bits .and .i64 (q.val : Int) 15 = ((q.val % 16 : Nat) : Int) := by decide +kernel
 exact key ⟨n, h⟩

theorem dig_end {W w : World} {D : List Int} {et k : Nat} {a : Option Addr} {c : Nat} (h : D.length = k) (hc : D.length ≤ c) (hr : rowZ w W.heap.size et 1 (.slice a D.length c) D.length (D.map iV)) (hB : Below W.heap.size W w) :
  ∃ a' c', k ≤ c' ∧ Ending.returned (.slice a D.length c) = .returned (.slice a' k c') ∧ rowZ w W.heap.size et 1 (.slice a' k c') k (D.map iV) ∧ Below W.heap.size W w := by
 subst h; exact ⟨a, c, hc, rfl, hr, hB⟩
theorem step_ok {H : Hp} {w : World} (hH : H.le (hw w)) (hT : Tabs H) {h : List UInt8} (hh : h.length = 32) :
  Calls Tryz.prog 74 #[hV h] w fun e w' => e = .returned (hV (Go.Au.step h)) ∧ Below w.heap.size w w' := by
 refine enter1 _ Tryz.func74 rfl Tryz.ntmps74 Tryz.results74 rfl ?_
 have S0 := St.start w hH
 refine Wr (Ah S0 fun b1 w2 S3 => ?_)
 refine Ac S3 fun b4 w5 S6 => (Nr ?_)
 obtain ⟨G8, hl9, S7, r10⟩ := S6.stillBlk 1 rfl
 refine T_sliceAll rfl rfl rfl rfl rfl rfl rfl rfl ?_
 have r11 := Rd.of_blk (m := 32) (size := 1) (xs := h.map bV) r10 (hcell1 _) (by rw [List.length_map, hh])
 have rs16 : Rds G8 [.slice (some ⟨b1, 0, none⟩) 32 32] [h] := Rds.cons (Rd.canonB r11) (Rds.nil _)
 refine Ad (hone := by simp [Value.cells]; rfl) [.slice (some ⟨b1, 0, none⟩) 32 32] fun a12 w13 hB14 ho15 => ?_
 have S17 := S7.own hB14 ho15
 refine ⟨trivial, ?_⟩
 obtain ⟨G19, hl20, S18, r21⟩ := S17.stillRow 0 rfl
 have r22 := RdL.mk r21 (rs16.mono hl20)
 refine T_callS rfl rfl g_aumbry_sha_Tagged rfl rfl rfl rfl ((tagged_ok S18.le (hT.mono (hl9.trans hl20)) r22 (text1 (by decide) (by omega))).mono ?_)
 rintro e w24 ⟨rfl, hB23⟩
 have S25 := S18.call hB23
 refine ⟨_, rfl, trivial, ?_⟩
 refine T_re (v' := hV (Go.Au.step h)) rfl (Ag (hl := by exact hVs (step_len _)) (hl2 := by exact hVs (step_len _)) (h1 := by exact one_hA _) 0 S25 fun w26 S27 => (T_nil (W_ret ?_)))
 refine ⟨_, ⟨_, _, _, rfl, rfl, run_loadVarA rfl rfl (hVs (step_len _)) (S27.cells 0 rfl), rfl⟩, ?_⟩
 exact ⟨rfl, S27.below⟩


theorem stepT_ok {H : Hp} {w : World} (hH : H.le (hw w)) {h : List UInt8} (hh : h.length = 32) :
  Calls Tryz.prog 52 #[hV h] w fun e w' => ∃ a c, (Go.Au.stepT h).length ≤ c ∧ e = .returned (.slice a (Go.Au.stepT h).length c) ∧ rowZ w' w.heap.size 5 1 (.slice a (Go.Au.stepT h).length c) (Go.Au.stepT h).length ((Go.Au.stepT h).map bV) ∧ Below w.heap.size w w' := by
 refine enter1 _ Tryz.func52 rfl Tryz.ntmps52 Tryz.results52 rfl ?_
 have S0 := St.start w hH
 refine Wr (Ah S0 fun b1 w2 S3 => ?_)
 refine Pv (Nr ?_)
 obtain ⟨G5, hl6, S4, r7⟩ := S3.stillBlk 0 rfl
 refine T_sliceAll rfl rfl rfl rfl rfl rfl rfl rfl ?_
 have r8 := Rd.of_blk (m := 32) (size := 1) (xs := h.map bV) r7 (hcell1 _) (by rw [List.length_map, hh])
 have rs13 : Rds G5 [.slice (some ⟨b1, 0, none⟩) 32 32] [h] := Rds.cons (Rd.canonB r8) (Rds.nil _)
 refine Ad (hone := by simp [Value.cells]; rfl) [.slice (some ⟨b1, 0, none⟩) 32 32] fun a9 w10 hB11 ho12 => ?_
 have S14 := S4.own hB11 ho12
 refine ⟨trivial, ?_⟩
 obtain ⟨G16, hl17, S15, r18⟩ := S14.stillRow 0 rfl
 have r19 := RdL.mk r18 (rs13.mono hl17)
 refine T_callS rfl rfl g_aumbry_aumbryref01_Text rfl rfl rfl rfl ((textR_ok S15.le r19 (text1 (by decide) (by omega))).mono ?_)
 rintro e w25 ⟨a20, c21, hc22, rfl, ho23, hB24⟩
 have S26 := S15.own hB24 ho23
 refine ⟨_, rfl, trivial, ?_⟩
 refine Pv (T_nil (W_ret ?_))
 refine ⟨_, ⟨_, _, rfl, rfl, rfl⟩, ?_⟩
 exact ⟨_, _, hc22, rfl, S26.row 0 rfl, S26.below⟩


theorem stepR_ok {H : Hp} {w : World} (hH : H.le (hw w)) {h : List UInt8} (hh : h.length = 32) :
  Calls Tryz.prog 83 #[hV h] w fun e w' => e = .returned (hV (Go.Au.step h)) ∧ Below w.heap.size w w' := by
 refine enter1 _ Tryz.func83 rfl Tryz.ntmps83 Tryz.results83 rfl ?_
 have S0 := St.start w hH
 refine Wr (Ah S0 fun b1 w2 S3 => ?_)
 refine Ac S3 fun b4 w5 S6 => (Nr ?_)
 refine Ai (hl := by exact hVs hh) 1 S6 ?_
 refine Cs g_aumbry_aumbryref07_stepText ((stepT_ok S6.le hh).mono ?_)
 rintro e w12 ⟨a7, c8, hc9, rfl, ho10, hB11⟩
 have S13 := S6.own hB11 ho10
 refine ⟨_, rfl, trivial, ?_⟩
 obtain ⟨G15, hl16, S14, r17⟩ := S13.stillRow 0 rfl
 refine T_callS rfl rfl g_aumbry_aumbryref01_Sum rfl rfl rfl rfl ((sumR_ok S14.le r17 (Nat.le_trans (Nat.le_of_lt (text1 (by decide) (by omega))) (by decide))).mono ?_)
 rintro e w19 ⟨rfl, hB18⟩
 have S20 := S14.call hB18
 refine ⟨_, rfl, trivial, ?_⟩
 refine T_re (v' := hV (Go.Au.step h)) rfl (Ag (hl := by exact hVs (step_len _)) (hl2 := by exact hVs (step_len _)) (h1 := by exact one_hA _) 0 S20 fun w21 S22 => (T_nil (W_ret ?_)))
 refine ⟨_, ⟨_, _, _, rfl, rfl, run_loadVarA rfl rfl (hVs (step_len _)) (S22.cells 0 rfl), rfl⟩, ?_⟩
 exact ⟨rfl, S22.below⟩


theorem along_ok {H : Hp} {w : World} (hH : H.le (hw w)) (hT : Tabs H) {h : List UInt8} (n : Int) (hh : h.length = 32) :
  Calls Tryz.prog 56 #[hV h, .int .i64 n] w fun e w' => e = .returned (hV (Go.Au.steps (max (0 : Int) (min n 15)).toNat h)) ∧ Below w.heap.size w w' := by
 refine enter2 _ Tryz.func56 rfl Tryz.ntmps56 Tryz.results56 rfl ?_
 have S0 := St.start w hH
 refine Wr (Ah S0 fun b1 w2 S3 => ?_)
 refine Ac S3 fun b4 w5 S6 => (T_nil (W_seq (Wr ?_)))
 iterate 4 refine Pv ?_
 refine T_nil (W_block ?_)
 refine W_loop (fun M ρ w' => ∃ (k : Nat) (G7 : Hp), M = (max (0 : Int) (min n 15)).toNat - k ∧ k ≤ (max (0 : Int) (min n 15)).toNat ∧ ρ = [(2, .pointer (some ⟨b1, 0, none⟩)), (4, .pointer (some ⟨b4, 0, none⟩)), (7, .int .i64 (max (0 : Int) (min n (15 : Int)))), (8, .int .i64 (k : Int))] ∧ H.le G7 ∧ St w H G7 [.blk b4 (hV (List.replicate 32 0) : Value).cells 37, .blk b1 (hV (Go.Au.steps k h) : Value).cells 37] w')
  ((max (0 : Int) (min n 15)).toNat - 0) [(2, .pointer (some ⟨b1, 0, none⟩)), (4, .pointer (some ⟨b4, 0, none⟩)), (7, .int .i64 (max (0 : Int) (min n (15 : Int)))), (8, .int .i64 ((0 : Nat) : Int))] ⟨rfl, rfl, ciI, ciI, trivial⟩ ⟨0, H, rfl, (by omega), rfl, Hp.le.refl _, S6⟩ ?_
 rintro M ρ w9 ⟨k, G7, rfl, hp11, rfl, hl8, S10⟩
 refine Wr (Pv (T_nil (W_seq ?_)))
 refine Aa (fun h12 => ?_) (fun h12 => ?_)
 ·refine W_skip (W_seq (W_block (W_region (Ai (hl := by exact hVs (steps_len _ hh)) 1 S10 ?_))))
  refine Cs g_aumbry_wots_Step ((step_ok S10.le (hT.mono hl8) (steps_len _ hh)).mono ?_)
  rintro e w14 ⟨rfl, hB13⟩
  have S15 := S10.call hB13
  refine ⟨_, rfl, trivial, ?_⟩
  refine Ag (hl := by exact hVs (step_len _)) (hl2 := by exact (hVs (step_len _)).trans (hVs (steps_len _ hh)).symm) (h1 := by exact one_hA _) 1 S15 fun w16 S17 => (T_nil (W_region ?_))
  refine Ar ?_
  refine Pv (T_nil ?_)
  exact ⟨(max (0 : Int) (min n 15)).toNat - (k + 1), [(2, .pointer (some ⟨b1, 0, none⟩)), (4, .pointer (some ⟨b4, 0, none⟩)), (7, .int .i64 (max (0 : Int) (min n (15 : Int)))), (8, .int .i64 ((k + 1 : Nat) : Int))], by omega, ⟨rfl, rfl, ciI, ciI, trivial⟩, k + 1, G7, rfl, (by omega), rfl, hl8, S17⟩
 refine W_exit (Wr (Ai (hl := by exact hVs (steps_len _ hh)) 1 S10 ?_))
 refine Ag (hl := by exact hVs (steps_len _ hh)) (hl2 := by exact hVs (steps_len _ hh)) (h1 := by exact one_hA _) 0 S10 fun w18 S19 => (T_nil (W_ret ?_))
 refine ⟨_, ⟨_, _, _, rfl, rfl, run_loadVarA rfl rfl (hVs (steps_len _ hh)) (S19.cells 0 rfl), rfl⟩, ?_⟩
 have e : k = (max (0 : Int) (min n 15)).toNat := by omega
 exact ⟨by rw [← e]; rfl, S19.below⟩


theorem alongR_ok {H : Hp} {w : World} (hH : H.le (hw w)) {h : List UInt8} (n : Int) (hh : h.length = 32) :
  Calls Tryz.prog 50 #[hV h, .int .i64 n] w fun e w' => e = .returned (hV (Go.Au.steps (max (0 : Int) (min n 15)).toNat h)) ∧ Below w.heap.size w w' := by
 refine enter2 _ Tryz.func50 rfl Tryz.ntmps50 Tryz.results50 rfl ?_
 have S0 := St.start w hH
 refine Wr (Ah S0 fun b1 w2 S3 => ?_)
 refine Ac S3 fun b4 w5 S6 => (T_nil (W_seq (Wr ?_)))
 refine Pv (T_nil (W_block ?_))
 refine W_loop (fun M ρ w' => ∃ (k : Nat) (G7 : Hp), M = (max (0 : Int) (min n 15)).toNat - k ∧ k ≤ (max (0 : Int) (min n 15)).toNat ∧ ρ = [(1, .int .i64 n), (2, .pointer (some ⟨b1, 0, none⟩)), (4, .pointer (some ⟨b4, 0, none⟩)), (5, .int .i64 (k : Int))] ∧ H.le G7 ∧ St w H G7 [.blk b4 (hV (List.replicate 32 0) : Value).cells 37, .blk b1 (hV (Go.Au.steps k h) : Value).cells 37] w')
  ((max (0 : Int) (min n 15)).toNat - 0) [(1, .int .i64 n), (2, .pointer (some ⟨b1, 0, none⟩)), (4, .pointer (some ⟨b4, 0, none⟩)), (5, .int .i64 ((0 : Nat) : Int))] ⟨ciI, rfl, rfl, ciI, trivial⟩ ⟨0, H, rfl, (by omega), rfl, Hp.le.refl _, S6⟩ ?_
 rintro M ρ w9 ⟨k, G7, rfl, hp11, rfl, hl8, S10⟩
 refine W_seq (Wr ?_)
 iterate 4 refine Pv ?_
 refine Td 9 (fun h12 => ?_) (fun h12 => ?_)
 ·iterate 2 (refine Ys ?_; refine Pv ?_)
  refine Pv (T_nil ?_)
  refine Aa (fun h13 => ?_) (fun h13 => ?_)
  ·refine W_skip (W_seq (W_block (W_region (Ai (hl := by exact hVs (steps_len _ hh)) 1 S10 ?_))))
   refine Cs g_aumbry_aumbryref07_Step ((stepR_ok S10.le (steps_len _ hh)).mono ?_)
   rintro e w15 ⟨rfl, hB14⟩
   have S16 := S10.call hB14
   refine ⟨_, rfl, trivial, ?_⟩
   refine Ag (hl := by exact hVs (step_len _)) (hl2 := by exact (hVs (step_len _)).trans (hVs (steps_len _ hh)).symm) (h1 := by exact one_hA _) 1 S16 fun w17 S18 => (T_nil (W_region ?_))
   refine Pv ?_
   refine Ar ?_
   refine Pv (T_nil ?_)
   exact ⟨(max (0 : Int) (min n 15)).toNat - (k + 1), [(1, .int .i64 n), (2, .pointer (some ⟨b1, 0, none⟩)), (4, .pointer (some ⟨b4, 0, none⟩)), (5, .int .i64 ((k + 1 : Nat) : Int))], by omega, ⟨ciI, rfl, rfl, ciI, trivial⟩, k + 1, G7, rfl, (by omega), rfl, hl8, S18⟩
  refine W_exit (Wr (Ai (hl := by exact hVs (steps_len _ hh)) 1 S10 ?_))
  refine Ag (hl := by exact hVs (steps_len _ hh)) (hl2 := by exact hVs (steps_len _ hh)) (h1 := by exact one_hA _) 0 S10 fun w19 S20 => (T_nil (W_ret ?_))
  refine ⟨_, ⟨_, _, _, rfl, rfl, run_loadVarA rfl rfl (hVs (steps_len _ hh)) (S20.cells 0 rfl), rfl⟩, ?_⟩
  have e : k = (max (0 : Int) (min n 15)).toNat := by omega
  exact ⟨by rw [← e]; rfl, S20.below⟩
 iterate 2 refine No ?_
 refine Pv (T_nil ?_)
 refine W_cond_false rfl (W_exit (Wr (Ai (hl := by exact hVs (steps_len _ hh)) 1 S10 ?_)))
 refine Ag (hl := by exact hVs (steps_len _ hh)) (hl2 := by exact hVs (steps_len _ hh)) (h1 := by exact one_hA _) 0 S10 fun w21 S22 => (T_nil (W_ret ?_))
 refine ⟨_, ⟨_, _, _, rfl, rfl, run_loadVarA rfl rfl (hVs (steps_len _ hh)) (S22.cells 0 rfl), rfl⟩, ?_⟩
 have e : k = (max (0 : Int) (min n 15)).toNat := by omega
 exact ⟨by rw [← e]; rfl, S22.below⟩


theorem start_ok {H : Hp} {w : World} (hH : H.le (hw w)) (hT : Tabs H) {seed : List UInt8} (leaf chain : Int) (hs : seed.length = 16) (hl : leaf ≤ 9223372036854775807) (hc : chain ≤ 9223372036854775807) :
  Calls Tryz.prog 57 #[hV seed, .int .i64 leaf, .int .i64 chain] w fun e w' => e = .returned (hV (Go.Au.start seed leaf chain)) ∧ Below w.heap.size w w' := by
 refine enter3 _ Tryz.func57 rfl Tryz.ntmps57 Tryz.results57 rfl ?_
 have S0 := St.start w hH
 refine Wr (Ah S0 fun b1 w2 S3 => ?_)
 refine Ac S3 fun b4 w5 S6 => (T_nil (W_seq ?_))
 refine W_draw rfl (by kernel_rfl) ?_
 have S7 := S6.drew
 obtain ⟨G9, hl10, S8, r11⟩ := S7.stillBlk 1 rfl
 refine T_sliceAll rfl rfl rfl rfl rfl rfl rfl rfl ?_
 have r12 := Rd.of_blk (m := 16) (size := 1) (xs := seed.map bV) r11 (hcell1 _) (by rw [List.length_map, hs])
 refine Pv ?_
 refine Cs g_aumbry_code_Put ((putN_ok S8.le leaf 4 (by omega) (by omega)).mono ?_)
 rintro e w18 ⟨a13, c14, hc15, rfl, ho16, hB17⟩
 have S19 := S8.own hB17 ho16
 refine ⟨_, rfl, trivial, ?_⟩
 refine Pv ?_
 refine Cs g_aumbry_code_Put ((putN_ok S19.le chain 4 (by omega) (by omega)).mono ?_)
 rintro e w25 ⟨a20, c21, hc22, rfl, ho23, hB24⟩
 have S26 := S19.own hB24 ho23
 refine ⟨_, rfl, trivial, ?_⟩
 obtain ⟨G32, hl33, S31, r34⟩ := S26.stillRow 1 rfl
 obtain ⟨G36, hl37, S35, r38⟩ := S31.stillRow 0 rfl
 have rs39 : Rds G36 [.slice (some ⟨b1, 0, none⟩) 16 16, .slice a13 ((Go.Sha.put (max 0 leaf).toNat 4).length) c14, .slice a20 ((Go.Sha.put (max 0 chain).toNat 4).length) c21] [seed, Go.Sha.put (max 0 leaf).toNat 4, Go.Sha.put (max 0 chain).toNat 4] := Rds.cons (Rd.canonB (r12.mono (hl33.trans hl37))) (Rds.cons (Rd.canonB (r34.mono hl37)) (Rds.cons (Rd.canonB r38) (Rds.nil _)))
 refine Ad (hone := by simp [Value.cells]; rfl) [.slice (some ⟨b1, 0, none⟩) 16 16, .slice a13 ((Go.Sha.put (max 0 leaf).toNat 4).length) c14, .slice a20 ((Go.Sha.put (max 0 chain).toNat 4).length) c21] fun a27 w28 hB29 ho30 => ?_
 have S40 := S35.own hB29 ho30
 refine ⟨trivial, ?_⟩
 obtain ⟨G42, hl43, S41, r44⟩ := S40.stillRow 0 rfl
 have r45 := RdL.mk r44 (rs39.mono hl43)
 refine T_callS rfl rfl g_aumbry_sha_Tagged rfl rfl rfl rfl ((tagged_ok S41.le (hT.mono (hl10.trans (hl33.trans (hl37.trans hl43)))) r45 (text3 (by decide) (by omega) (by rw [Go.Sha.put_len]; decide) (by rw [Go.Sha.put_len]; decide))).mono ?_)
 rintro e w47 ⟨rfl, hB46⟩
 have S48 := S41.call hB46
 refine ⟨_, rfl, trivial, ?_⟩
 refine T_re (v' := hV (Go.Au.start seed leaf chain)) rfl (Ag (hl := by exact hVs (start_len _ _ _)) (hl2 := by exact hVs (start_len _ _ _)) (h1 := by exact one_hA _) 0 S48 fun w49 S50 => (T_nil (W_ret ?_)))
 refine ⟨_, ⟨_, _, _, rfl, rfl, run_loadVarA rfl rfl (hVs (start_len _ _ _)) (S50.cells 0 rfl), rfl⟩, ?_⟩
 exact ⟨rfl, S50.below⟩


theorem startR_ok {H : Hp} {w : World} (hH : H.le (hw w)) {seed : List UInt8} (leaf chain : Int) (hs : seed.length = 16) (hl : leaf ≤ 9223372036854775807) (hc : chain ≤ 9223372036854775807) :
  Calls Tryz.prog 51 #[hV seed, .int .i64 leaf, .int .i64 chain] w fun e w' => e = .returned (hV (Go.Au.start seed leaf chain)) ∧ Below w.heap.size w w' := by
 refine enter3 _ Tryz.func51 rfl Tryz.ntmps51 Tryz.results51 rfl ?_
 have S0 := St.start w hH
 refine Wr (Ah S0 fun b1 w2 S3 => ?_)
 refine Ac S3 fun b4 w5 S6 => (T_nil (W_seq ?_))
 refine W_draw rfl (by kernel_rfl) ?_
 have S7 := S6.drew
 obtain ⟨G9, hl10, S8, r11⟩ := S7.stillBlk 1 rfl
 refine T_sliceAll rfl rfl rfl rfl rfl rfl rfl rfl ?_
 have r12 := Rd.of_blk (m := 16) (size := 1) (xs := seed.map bV) r11 (hcell1 _) (by rw [List.length_map, hs])
 refine Pv ?_
 refine Cs g_aumbry_aumbryref01_Put ((putR_ok S8.le leaf 4 (by omega) (by omega)).mono ?_)
 rintro e w18 ⟨a13, c14, hc15, rfl, ho16, hB17⟩
 have S19 := S8.own hB17 ho16
 refine ⟨_, rfl, trivial, ?_⟩
 refine Pv ?_
 refine Cs g_aumbry_aumbryref01_Put ((putR_ok S19.le chain 4 (by omega) (by omega)).mono ?_)
 rintro e w25 ⟨a20, c21, hc22, rfl, ho23, hB24⟩
 have S26 := S19.own hB24 ho23
 refine ⟨_, rfl, trivial, ?_⟩
 obtain ⟨G32, hl33, S31, r34⟩ := S26.stillRow 1 rfl
 obtain ⟨G36, hl37, S35, r38⟩ := S31.stillRow 0 rfl
 have rs39 : Rds G36 [.slice (some ⟨b1, 0, none⟩) 16 16, .slice a13 ((Go.Sha.put (max 0 leaf).toNat 4).length) c14, .slice a20 ((Go.Sha.put (max 0 chain).toNat 4).length) c21] [seed, Go.Sha.put (max 0 leaf).toNat 4, Go.Sha.put (max 0 chain).toNat 4] := Rds.cons (Rd.canonB (r12.mono (hl33.trans hl37))) (Rds.cons (Rd.canonB (r34.mono hl37)) (Rds.cons (Rd.canonB r38) (Rds.nil _)))
 refine Ad (hone := by simp [Value.cells]; rfl) [.slice (some ⟨b1, 0, none⟩) 16 16, .slice a13 ((Go.Sha.put (max 0 leaf).toNat 4).length) c14, .slice a20 ((Go.Sha.put (max 0 chain).toNat 4).length) c21] fun a27 w28 hB29 ho30 => ?_
 have S40 := S35.own hB29 ho30
 refine ⟨trivial, ?_⟩
 obtain ⟨G42, hl43, S41, r44⟩ := S40.stillRow 0 rfl
 have r45 := RdL.mk r44 (rs39.mono hl43)
 refine T_callS rfl rfl g_aumbry_aumbryref01_Tagged rfl rfl rfl rfl ((taggedR_ok S41.le r45 (text3 (by decide) (by omega) (by rw [Go.Sha.put_len]; decide) (by rw [Go.Sha.put_len]; decide))).mono ?_)
 rintro e w47 ⟨rfl, hB46⟩
 have S48 := S41.call hB46
 refine ⟨_, rfl, trivial, ?_⟩
 refine T_re (v' := hV (Go.Au.start seed leaf chain)) rfl (Ag (hl := by exact hVs (start_len _ _ _)) (hl2 := by exact hVs (start_len _ _ _)) (h1 := by exact one_hA _) 0 S48 fun w49 S50 => (T_nil (W_ret ?_)))
 refine ⟨_, ⟨_, _, _, rfl, rfl, run_loadVarA rfl rfl (hVs (start_len _ _ _)) (S50.cells 0 rfl), rfl⟩, ?_⟩
 exact ⟨rfl, S50.below⟩


theorem digits_w_ok {H : Hp} {w : World} (hH : H.le (hw w)) (hT : Tabs H) {m : List UInt8} {aa0 : Option Addr} {nn0 cc0 : Nat} (hv : Rd H (.slice aa0 nn0 cc0) nn0 1 (m.map bV)) (hl : m.length < 1000) :
  Calls Tryz.prog 35 #[.slice aa0 nn0 cc0] w fun e w' => ∃ a c, 67 ≤ c ∧ e = .returned (.slice a 67 c) ∧ rowZ w' w.heap.size 3 1 (.slice a 67 c) 67 ((Go.Au.digits m).map iV) ∧ Below w.heap.size w w' := by
 obtain rfl : nn0 = m.length := hv.lenB
 have hvcap : m.length ≤ cc0 := hv.capOf
 refine enter1 _ Tryz.func35 rfl Tryz.ntmps35 Tryz.results35 rfl ?_
 have S0 := St.start w hH
 refine Wr (Pv (Nr ?_))
 refine Pv (Nr ?_)
 refine Pv (T_nil (W_seq (Wr ?_)))
 refine Pv ?_
 have rs5 : Rds H [.slice aa0 m.length cc0] [m] := Rds.cons (Rd.canonB hv) (Rds.nil _)
 refine Ad (hone := by simp [Value.cells]; rfl) [.slice aa0 m.length cc0] fun a1 w2 hB3 ho4 => ?_
 have S6 := S0.own hB3 ho4
 refine ⟨trivial, ?_⟩
 obtain ⟨G8, hl9, S7, r10⟩ := S6.stillRow 0 rfl
 have r11 := RdL.mk r10 (rs5.mono hl9)
 refine T_callS rfl rfl g_aumbry_sha_Tagged rfl rfl rfl rfl ((tagged_ok S7.le (hT.mono hl9) r11 (text1 (by decide) hl)).mono ?_)
 rintro e w13 ⟨rfl, hB12⟩
 have S14 := S7.call hB12
 refine ⟨_, rfl, trivial, ?_⟩
 refine T_re (v' := hV (mh m)) rfl (Pv (T_nil (W_block ?_)))
 have S15 := S14.nilRow 3 1
 refine W_loop (fun M ρ w' => ∃ (k : Nat) (a18 : Option Addr) (c19 : Nat) (G16 : Hp), M = 32 - k ∧ k ≤ 32 ∧ ρ = [(3, .slice a18 ((nib ((mh m).take k)).length) c19), (4, .int .i64 ((chk ((mh m).take k) : Nat) : Int)), (9, hV (mh m)), (10, .int .i64 (k : Int))] ∧ G8.le G16 ∧ St w H G16 [.row 3 1 (.slice a18 ((nib ((mh m).take k)).length) c19) ((nib ((mh m).take k)).length) ((nib ((mh m).take k)).map iV)] w' ∧ (nib ((mh m).take k)).length ≤ c19)
  (32 - 0) [(3, .slice none 0 0), (4, .int .i64 ((0 : Nat) : Int)), (9, hV (mh m)), (10, .int .i64 ((0 : Nat) : Int))] ⟨rfl, ciI, rfl, ciI, trivial⟩ ⟨0, none, 0, G8, rfl, (by omega), rfl, Hp.le.refl _, S15, (Nat.le_refl _)⟩ ?_
 rintro M ρ w21 ⟨k, a18, c19, G16, rfl, hp23, rfl, hl17, S22, hc20⟩
 refine Wr (Pv (T_nil (W_seq ?_)))
 refine Aa (fun h24 => ?_) (fun h24 => ?_)
 ·refine W_skip (W_seq (W_block (Wr ?_)))
  have hcb := ((mh m).getD k 0).toNat_lt
  have hck := chk_take_le (mh m) k
  have hml := mh_len m
  have hct := chk_take (l := mh m) (k := k) (by omega)
  refine T_index1 (v := bV ((mh m).getD k 0)) rfl rfl rfl rfl rfl rfl rfl rfl rfl rfl (by omega) (at_hV (mh m) k (by omega)) ?_
  refine Pv (Nr ?_)
  refine P2 ?_
  refine T_shrU 4 rfl rfl rfl rfl (by decide) (by omega) rfl rfl rfl ?_
  refine T_re (v' := .int .u8 ((((mh m).getD k 0).toNat / 16 : Nat) : Int)) (congrArg (Value.int .u8) (by omega)) ?_
  refine Pv ?_
  refine T_re (v' := .int .i64 ((((mh m).getD k 0).toNat / 16 : Nat) : Int)) (congrArg (Value.int .i64) (by rw [wrap64_id (by omega) (by omega)])) ?_
  refine P2 ?_
  refine T_re (v' := .int .u8 ((((mh m).getD k 0).toNat % 16 : Nat) : Int)) (congrArg (Value.int .u8) (bits15 _)) (Pv ?_)
  refine T_re (v' := .int .i64 ((((mh m).getD k 0).toNat % 16 : Nat) : Int)) (congrArg (Value.int .i64) (by rw [wrap64_id (by omega) (by omega)])) ?_
  refine Ad (hone := by simp [Value.cells]; rfl) ([((((mh m).getD k 0).toNat / 16 : Nat) : Int), ((((mh m).getD k 0).toNat % 16 : Nat) : Int)].map iV) fun a25 w26 hB27 ho28 => ?_
  have S29 := S22.own hB27 ho28
  refine ⟨trivial, ?_⟩
  have hD30 : (nib ((mh m).take k) ++ [((((mh m).getD k 0).toNat / 16 : Nat) : Int), ((((mh m).getD k 0).toNat % 16 : Nat) : Int)]) = nib ((mh m).take (k + 1)) := (nib_take (by omega))
  refine Ae (h1 := by exact one_iV _) (hn' := by rw [← hD30]; first | rfl | (simp; done) | (simp; omega) | omega) (hx' := by rw [← hD30]; simp) (h63 := by unfold maxLen; first | (rw [nib_len, List.length_take]; omega) | (rw [digits_len]; omega)) (hbytes := by show _ * 8 ≤ _; first | (rw [nib_len, List.length_take]; omega) | (rw [digits_len]; omega)) 1 ((nib ((mh m).take (k + 1))).length) ((nib ((mh m).take (k + 1))).map iV) S29 (S29.rd 0 rfl) fun a31 c32 w33 hc34 S35 => ?_
  refine Pv (T_nil (W_region ?_))
  refine Pv ?_
  refine Ar ?_
  refine Pv ?_
  refine T_shrU 4 rfl rfl rfl rfl (by decide) (by omega) rfl rfl rfl ?_
  refine T_re (v' := .int .u8 ((((mh m).getD k 0).toNat / 16 : Nat) : Int)) (congrArg (Value.int .u8) (by omega)) ?_
  refine Pv ?_
  refine T_re (v' := .int .i64 ((((mh m).getD k 0).toNat / 16 : Nat) : Int)) (congrArg (Value.int .i64) (by rw [wrap64_id (by omega) (by omega)])) ?_
  refine Ar ?_
  refine P2 ?_
  refine T_re (v' := .int .u8 ((((mh m).getD k 0).toNat % 16 : Nat) : Int)) (congrArg (Value.int .u8) (bits15 _)) (Pv ?_)
  refine T_re (v' := .int .i64 ((((mh m).getD k 0).toNat % 16 : Nat) : Int)) (congrArg (Value.int .i64) (by rw [wrap64_id (by omega) (by omega)])) ?_
  refine Ar ?_
  refine Pv (T_nil (W_region ?_))
  refine Ar ?_
  refine Pv (T_nil ?_)
  have S36 := S35.drop 0
  exact ⟨32 - (k + 1), [(3, .slice a31 ((nib ((mh m).take (k + 1))).length) c32), (4, .int .i64 ((chk ((mh m).take (k + 1)) : Nat) : Int)), (9, hV (mh m)), (10, .int .i64 ((k + 1 : Nat) : Int))], by omega, ⟨rfl, ciI, rfl, ciI, trivial⟩, k + 1, a31, c32, G16, rfl, (by omega), rfl, hl17, S36, hc34⟩
 refine W_exit (Wr (P2 ?_))
 have hk32 : k = 32 := by omega
 have hck := chk_take_le (mh m) k
 have hsm : chk ((mh m).take k) = chk (mh m) := by rw [List.take_of_length_le (by rw [mh_len]; omega)]
 refine T_shrU 8 rfl rfl rfl rfl (by decide) (by omega) rfl rfl rfl ?_
 refine T_re (v' := .int .i64 ((chk (mh m) / 256 : Nat) : Int)) (congrArg (Value.int .i64) (by rw [hsm]; omega)) ?_
 refine Pv ?_
 refine T_re (v' := .int .i64 ((chk (mh m) / 256 : Nat) : Int)) (congrArg (Value.int .i64) ((bits15i _ (by omega)).trans (by omega))) ?_
 refine Pv ?_
 refine T_shrU 4 rfl rfl rfl rfl (by decide) (by omega) rfl rfl rfl ?_
 refine T_re (v' := .int .i64 ((chk (mh m) / 16 : Nat) : Int)) (congrArg (Value.int .i64) (by rw [hsm]; omega)) ?_
 refine Pv ?_
 refine T_re (v' := .int .i64 ((chk (mh m) / 16 % 16 : Nat) : Int)) (congrArg (Value.int .i64) (bits15i _ (by omega))) ?_
 refine Pv ?_
 refine T_re (v' := .int .i64 ((chk (mh m) : Nat) : Int)) (congrArg (Value.int .i64) (by rw [hsm])) ?_
 refine Pv ?_
 refine T_re (v' := .int .i64 ((chk (mh m) % 16 : Nat) : Int)) (congrArg (Value.int .i64) (bits15i _ (by omega))) ?_
 refine Ad (hone := by simp [Value.cells]; rfl) ([((chk (mh m) / 256 : Nat) : Int), ((chk (mh m) / 16 % 16 : Nat) : Int), ((chk (mh m) % 16 : Nat) : Int)].map iV) fun a37 w38 hB39 ho40 => ?_
 have S41 := S22.own hB39 ho40
 refine ⟨trivial, ?_⟩
 have hD42 : (nib ((mh m).take k) ++ [((chk (mh m) / 256 : Nat) : Int), ((chk (mh m) / 16 % 16 : Nat) : Int), ((chk (mh m) % 16 : Nat) : Int)]) = Go.Au.digits m := (by rw [List.take_of_length_le (by rw [mh_len]; omega)]; rfl)
 refine Ae (h1 := by exact one_iV _) (hn' := by rw [← hD42]; first | rfl | (simp; done) | (simp; omega) | omega) (hx' := by rw [← hD42]; simp) (h63 := by unfold maxLen; first | (rw [nib_len, List.length_take]; omega) | (rw [digits_len]; omega)) (hbytes := by show _ * 8 ≤ _; first | (rw [nib_len, List.length_take]; omega) | (rw [digits_len]; omega)) 1 ((Go.Au.digits m).length) ((Go.Au.digits m).map iV) S41 (S41.rd 0 rfl) fun a43 c44 w45 hc46 S47 => ?_
 refine Pv (T_nil (W_ret ?_))
 refine ⟨_, ⟨_, _, rfl, rfl, rfl⟩, ?_⟩
 exact dig_end (digits_len m) hc46 (S47.row 1 rfl) S47.below

end Go.Proofs.YtfcejolipdcoaaaGreatDoor
