/- Netstrings, texts, tagged hashes: the program's and the document's. -/
import Derived.Test.YtmjmjjkigblbgaaDoorItoa
import Derived.Test.YtmjmjjkigblbgaaDoorRefB
set_option linter.unusedVariables false
set_option linter.unusedSimpArgs false
set_option maxRecDepth 8192
namespace Go.Proofs.YtmjmjjkigblbgaaDoor
open Go Go.F Go.RowKit
open Go.Au

theorem nets_end {W w : World} {D D' : List UInt8} {et : TypeId} {a : Option Addr} {c : Nat} (h : D = D') (hc : D.length ≤ c) (hr : rowZ w W.heap.size et 1 (.slice a D.length c) D.length (D.map bV)) (hB : Below W.heap.size W w) :
  ∃ a' c', D'.length ≤ c' ∧ Ending.returned (.slice a D.length c) = .returned (.slice a' D'.length c') ∧ rowZ w W.heap.size et 1 (.slice a' D'.length c') D'.length (D'.map bV) ∧ Below W.heap.size W w := by
 subst h; exact ⟨a, c, hc, rfl, hr, hB⟩
theorem row_of_owns {w w' : World} {e : Ending} {ty n : Nat} {D : List UInt8} (h : ∃ v, e = .returned v ∧ w'.ownsRow w.heap.size ty 1 v n (D.map bV) ∧ Below w.heap.size w w') :
  ∃ a c, D.length ≤ c ∧ e = .returned (.slice a D.length c) ∧ rowZ w' w.heap.size ty 1 (.slice a D.length c) D.length (D.map bV) ∧ Below w.heap.size w w' := by
 obtain ⟨v, rfl, ho, hB⟩ := h
 have hn : n = D.length := (Rd.of_owns ho).lenB
 subst hn
 obtain ⟨a, c, rfl, hc⟩ := (Rd.of_owns ho).shape
 exact ⟨a, c, hc, rfl, rowZ.of ho, hB⟩
theorem sumN_ok {H : Hp} {w : World} (hH : H.le (hw w)) {b : List UInt8} {a0 : Option Addr} {n0 c0 : Nat} (hv : Rd H (.slice a0 n0 c0) n0 1 (b.map bV)) (hl : b.length ≤ 1000000000) :
  Calls Tryd.prog 79 #[.slice a0 n0 c0] w fun e w' => e = .returned (hV (Go.Sha.sha b)) ∧ Below w.heap.size w w' := sum_ok b _ w (hv.canonB.mono hH) hl
theorem sumR_ok {H : Hp} {w : World} (hH : H.le (hw w)) {b : List UInt8} {a0 : Option Addr} {n0 c0 : Nat} (hv : Rd H (.slice a0 n0 c0) n0 1 (b.map bV)) (hl : b.length ≤ 1000000000) :
  Calls Tryd.prog 81 #[.slice a0 n0 c0] w fun e w' => e = .returned (hV (Go.Sha.sha b)) ∧ Below w.heap.size w w' := refSum_ok b _ w (hv.canonB.mono hH) hl
theorem putN_ok {H : Hp} {w : World} (_ : H.le (hw w)) (z : Int) (m : Nat) (hz : z ≤ 9223372036854775807) (hm : 0 < m ∧ m ≤ 8) :
  Calls Tryd.prog 48 #[.int .i64 z, .int .i64 ((m : Nat) : Int)] w fun e w' => ∃ a c, (Go.Sha.put (max 0 z).toNat m).length ≤ c ∧ e = .returned (.slice a (Go.Sha.put (max 0 z).toNat m).length c) ∧ rowZ w' w.heap.size 5 1 (.slice a (Go.Sha.put (max 0 z).toNat m).length c) (Go.Sha.put (max 0 z).toNat m).length ((Go.Sha.put (max 0 z).toNat m).map bV) ∧ Below w.heap.size w w' := by
 have h := put_ok z m w hz
 have e1 : (max 0 (min (m : Int) 8)).toNat = m := by omega
 rw [e1] at h
 exact h.mono fun e w' h => row_of_owns h
theorem putR_ok {H : Hp} {w : World} (_ : H.le (hw w)) (z : Int) (m : Nat) (hz : z ≤ 9223372036854775807) (hm : 0 < m ∧ m ≤ 8) :
  Calls Tryd.prog 50 #[.int .i64 z, .int .i64 ((m : Nat) : Int)] w fun e w' => ∃ a c, (Go.Sha.put (max 0 z).toNat m).length ≤ c ∧ e = .returned (.slice a (Go.Sha.put (max 0 z).toNat m).length c) ∧ rowZ w' w.heap.size 5 1 (.slice a (Go.Sha.put (max 0 z).toNat m).length c) (Go.Sha.put (max 0 z).toNat m).length ((Go.Sha.put (max 0 z).toNat m).map bV) ∧ Below w.heap.size w w' :=
 (rputZ_ok z _ m w hz rfl hm).mono fun e w' h => row_of_owns h

theorem digits_ok {H : Hp} {w : World} (hH : H.le (hw w)) (n : Nat) (hn : n < 10000) :
  Calls Tryd.prog 95 #[.int .i64 ((n : Nat) : Int)] w fun e w' => e = .returned (str (dec n)) ∧ Below w.heap.size w w' := by
 induction n using Nat.strongRecOn generalizing w H with
 | _ n ih =>
  refine enter1 _ Tryd.func95 rfl Tryd.ntmps95 Tryd.results95 rfl ?_
  have S0 := St.start w hH
  refine Wr (Pv (T_nil (W_seq (Wr ?_))))
  iterate 2 refine Pv ?_
  refine T_nil (Aa (fun h1 => ?_) (fun h1 => ?_))
  ·refine Wr (Pv ?_)
   refine T_ari rfl rfl rfl rfl (by omega) ?_
   refine T_i2b (48 + n) (by omega) rfl rfl rfl rfl rfl rfl rfl ?_
   refine Af (hone := by simp [Value.cells]; rfl) ([(UInt8.ofNat (48 + n) : UInt8)].map bV) fun a2 w3 hB4 ho5 => ?_
   have S6 := S0.own hB4 ho5
   refine ⟨trivial, ?_⟩
   obtain ⟨G8, hl9, S7, r10⟩ := S6.stillRow 0 rfl
   refine T_convG S7 r10 rfl rfl rfl rfl rfl rfl rfl rfl rfl (Pv (T_nil (W_ret ?_)))
   refine ⟨_, ⟨_, _, rfl, rfl, rfl⟩, ?_⟩
   exact ⟨by rw [dec_lt (by omega)]; rfl, S7.below⟩
  refine W_skip (W_seq (W_tree (plan Tryd.prog) (.step 0 (.step 1 (.step 3 (.step 4 (.step 5 (.step 6 (.fork 2 7 (.step 7 (.step 8 (.step 9 (.step 10 .done)))) (.fork 2 8 (.step 8 (.step 9 (.step 10 .done))) (.step 2 (.step 9 (.step 10 .done))))))))))) rfl (by kernel_rfl) trivial ?_))
  have S11 := S0.drew
  refine TT_step rfl (Pv ?_)
  refine Nt rfl (T_quo rfl rfl rfl rfl rfl rfl (by omega) ?_)
  refine Nt rfl (Pv ?_)
  refine Nt rfl (T_rem rfl rfl rfl rfl rfl rfl (by omega) ?_)
  refine Nt rfl (T_ari rfl rfl rfl rfl (by omega) ?_)
  refine Nt rfl (T_i2b (48 + (n % 10)) (by omega) rfl rfl rfl rfl rfl rfl rfl (T_nil ?_))
  refine TT_fork rfl rfl ?_ ?_
  ·refine T_callS rfl rfl g_aumbry_aumbryref01_Digits rfl rfl rfl rfl ((ih (n / 10) (by omega) S11.le (by omega)).mono ?_)
   rintro e w13 ⟨rfl, hB12⟩
   have S14 := S11.call hB12
   refine ⟨_, rfl, trivial, ?_⟩
   refine Nt rfl (Af (hone := by simp [Value.cells]; rfl) ([(UInt8.ofNat (48 + (n % 10)) : UInt8)].map bV) fun a15 w16 hB17 ho18 => ?_)
   have S19 := S14.own hB17 ho18
   refine ⟨trivial, ?_⟩
   refine Nt rfl ?_
   obtain ⟨G21, hl22, S20, r23⟩ := S19.stillRow 0 rfl
   refine T_convG S20 r23 rfl rfl rfl rfl rfl rfl rfl rfl rfl (Nt rfl ?_)
   have hd1 := dec_len_le 5 (n / 10) (by omega)
   refine T_stradd rfl rfl rfl rfl rfl rfl (by simp only [List.length_cons, List.length_nil]; omega) ?_
   refine Nt rfl (Pv (T_nil (TT_done (W_ret ?_))))
   refine ⟨_, ⟨_, _, rfl, rfl, rfl⟩, ?_⟩
   have hd := dec_len_le 5 n (by omega)
   exact ⟨by rw [dec_ge (n := n) (by omega)]; rfl, S20.below⟩
  refine Af (hone := by simp [Value.cells]; rfl) ([(UInt8.ofNat (48 + (n % 10)) : UInt8)].map bV) fun a24 w25 hB26 ho27 => ?_
  have S28 := S11.own hB26 ho27
  refine ⟨trivial, ?_⟩
  refine T_nil (TT_fork rfl rfl ?_ ?_)
  ·refine T_callS rfl rfl g_aumbry_aumbryref01_Digits rfl rfl rfl rfl ((ih (n / 10) (by omega) S28.le (by omega)).mono ?_)
   rintro e w30 ⟨rfl, hB29⟩
   have S31 := S28.call hB29
   refine ⟨_, rfl, trivial, ?_⟩
   refine Nt rfl ?_
   obtain ⟨G33, hl34, S32, r35⟩ := S31.stillRow 0 rfl
   refine T_convG S32 r35 rfl rfl rfl rfl rfl rfl rfl rfl rfl (Nt rfl ?_)
   have hd1 := dec_len_le 5 (n / 10) (by omega)
   refine T_stradd rfl rfl rfl rfl rfl rfl (by simp only [List.length_cons, List.length_nil]; omega) ?_
   refine Nt rfl (Pv (T_nil (TT_done (W_ret ?_))))
   refine ⟨_, ⟨_, _, rfl, rfl, rfl⟩, ?_⟩
   have hd := dec_len_le 5 n (by omega)
   exact ⟨by rw [dec_ge (n := n) (by omega)]; rfl, S32.below⟩
  obtain ⟨G37, hl38, S36, r39⟩ := S28.stillRow 0 rfl
  refine T_convG S36 r39 rfl rfl rfl rfl rfl rfl rfl rfl rfl (Nt rfl (T_callS rfl rfl g_aumbry_aumbryref01_Digits rfl rfl rfl rfl ((ih (n / 10) (by omega) S36.le (by omega)).mono ?_)))
  rintro e w41 ⟨rfl, hB40⟩
  have S42 := S36.call hB40
  refine ⟨_, rfl, trivial, ?_⟩
  refine Nt rfl ?_
  have hd1 := dec_len_le 5 (n / 10) (by omega)
  refine T_stradd rfl rfl rfl rfl rfl rfl (by simp only [List.length_cons, List.length_nil]; omega) ?_
  refine Nt rfl (Pv (T_nil (TT_done (W_ret ?_))))
  refine ⟨_, ⟨_, _, rfl, rfl, rfl⟩, ?_⟩
  have hd := dec_len_le 5 n (by omega)
  exact ⟨by rw [dec_ge (n := n) (by omega)]; rfl, S42.below⟩


theorem net_ok {H : Hp} {w : World} (hH : H.le (hw w)) (hT : Tabs H) {b : List UInt8} {aa0 : Option Addr} {nn0 cc0 : Nat} (hv : Rd H (.slice aa0 nn0 cc0) nn0 1 (b.map bV)) (hl : b.length < 10000) :
  Calls Tryd.prog 77 #[.slice aa0 nn0 cc0] w fun e w' => ∃ a c, (net b).length ≤ c ∧ e = .returned (.slice a (net b).length c) ∧ rowZ w' w.heap.size 5 1 (.slice a (net b).length c) (net b).length ((net b).map bV) ∧ Below w.heap.size w w' := by
 obtain rfl : nn0 = b.length := hv.lenB
 have hvcap : b.length ≤ cc0 := hv.capOf
 have hd := dec_len_le 5 b.length (by omega)
 refine enter1 _ Tryd.func77 rfl Tryd.ntmps77 Tryd.results77 rfl ?_
 have S0 := St.start w hH
 refine Wr (Pv (Nr ?_))
 iterate 2 refine Pv ?_
 refine T_callS rfl rfl g_strconv_Itoa rfl rfl rfl rfl ((itoa_ok S0.le hT b.length (by omega)).mono ?_)
 rintro e w2 ⟨rfl, hB1⟩
 have S3 := S0.call hB1
 refine ⟨_, rfl, trivial, ?_⟩
 refine T_s2b rfl rfl rfl rfl rfl rfl rfl rfl rfl (by unfold maxLen; omega) fun a4 c5 w6 hc7 hB8 ho9 => ?_
 have S10 := S3.own hB8 ho9
 refine ⟨trivial, ?_⟩
 refine Af (hone := by simp [Value.cells]; rfl) ([(58 : UInt8)].map bV) fun a11 w12 hB13 ho14 => ?_
 have S15 := S10.own hB13 ho14
 refine ⟨trivial, ?_⟩
 refine Ag (h1 := by exact one_bV _) (hn' := by first | rfl | (simp; done) | (simp; omega) | omega) (hx' := by simp) (h63 := by unfold maxLen; simp only [List.length_append, List.length_cons, List.length_nil]; omega) (hbytes := by show _ * 1 ≤ _; simp only [List.length_append, List.length_cons, List.length_nil]; omega) 1 ((dec b.length ++ [(58 : UInt8)]).length) ((dec b.length ++ [(58 : UInt8)]).map bV) S15 (S15.rd 0 rfl) fun a16 c17 w18 hc19 S20 => ?_
 refine Pv (Nr ?_)
 iterate 2 refine Pv ?_
 refine Ag (h1 := by exact one_bV _) (hn' := by first | rfl | (simp; done) | (simp; omega) | omega) (hx' := by simp) (h63 := by unfold maxLen; simp only [List.length_append, List.length_cons, List.length_nil]; omega) (hbytes := by show _ * 1 ≤ _; simp only [List.length_append, List.length_cons, List.length_nil]; omega) 1 (((dec b.length ++ [(58 : UInt8)]) ++ b).length) (((dec b.length ++ [(58 : UInt8)]) ++ b).map bV) S20 (hv.mono S20.le) fun a21 c22 w23 hc24 S25 => ?_
 refine Pv (Nr ?_)
 refine Pv ?_
 refine Af (hone := by simp [Value.cells]; rfl) ([(44 : UInt8)].map bV) fun a26 w27 hB28 ho29 => ?_
 have S30 := S25.own hB28 ho29
 refine ⟨trivial, ?_⟩
 have hD31 : (((dec b.length ++ [(58 : UInt8)]) ++ b) ++ [(44 : UInt8)]) = net b := (by simp [net])
 refine Ag (h1 := by exact one_bV _) (hn' := by rw [← hD31]; first | rfl | (simp; done) | (simp; omega) | omega) (hx' := by rw [← hD31]; simp) (h63 := by unfold maxLen; rw [← hD31]; simp only [List.length_append, List.length_cons, List.length_nil]; omega) (hbytes := by show _ * 1 ≤ _; rw [← hD31]; simp only [List.length_append, List.length_cons, List.length_nil]; omega) 2 ((net b).length) ((net b).map bV) S30 (S30.rd 0 rfl) fun a32 c33 w34 hc35 S36 => ?_
 refine Pv (T_nil (W_ret ?_))
 refine ⟨_, ⟨_, _, rfl, rfl, rfl⟩, ?_⟩
 exact ⟨_, _, hc35, rfl, S36.row 2 rfl, S36.below⟩


theorem netR_ok {H : Hp} {w : World} (hH : H.le (hw w)) {b : List UInt8} {aa0 : Option Addr} {nn0 cc0 : Nat} (hv : Rd H (.slice aa0 nn0 cc0) nn0 1 (b.map bV)) (hl : b.length < 10000) :
  Calls Tryd.prog 78 #[.slice aa0 nn0 cc0] w fun e w' => ∃ a c, (net b).length ≤ c ∧ e = .returned (.slice a (net b).length c) ∧ rowZ w' w.heap.size 5 1 (.slice a (net b).length c) (net b).length ((net b).map bV) ∧ Below w.heap.size w w' := by
 obtain rfl : nn0 = b.length := hv.lenB
 have hvcap : b.length ≤ cc0 := hv.capOf
 have hd := dec_len_le 5 b.length (by omega)
 refine enter1 _ Tryd.func78 rfl Tryd.ntmps78 Tryd.results78 rfl ?_
 have S0 := St.start w hH
 refine Wr (Pv (Nr ?_))
 iterate 2 refine Pv ?_
 refine T_callS rfl rfl g_aumbry_aumbryref01_Digits rfl rfl rfl rfl ((digits_ok S0.le b.length (by omega)).mono ?_)
 rintro e w2 ⟨rfl, hB1⟩
 have S3 := S0.call hB1
 refine ⟨_, rfl, trivial, ?_⟩
 refine T_s2b rfl rfl rfl rfl rfl rfl rfl rfl rfl (by unfold maxLen; omega) fun a4 c5 w6 hc7 hB8 ho9 => ?_
 have S10 := S3.own hB8 ho9
 refine ⟨trivial, ?_⟩
 refine Af (hone := by simp [Value.cells]; rfl) ([(58 : UInt8)].map bV) fun a11 w12 hB13 ho14 => ?_
 have S15 := S10.own hB13 ho14
 refine ⟨trivial, ?_⟩
 refine Ag (h1 := by exact one_bV _) (hn' := by first | rfl | (simp; done) | (simp; omega) | omega) (hx' := by simp) (h63 := by unfold maxLen; simp only [List.length_append, List.length_cons, List.length_nil]; omega) (hbytes := by show _ * 1 ≤ _; simp only [List.length_append, List.length_cons, List.length_nil]; omega) 1 ((dec b.length ++ [(58 : UInt8)]).length) ((dec b.length ++ [(58 : UInt8)]).map bV) S15 (S15.rd 0 rfl) fun a16 c17 w18 hc19 S20 => ?_
 refine Pv (Nr ?_)
 iterate 2 refine Pv ?_
 refine Ag (h1 := by exact one_bV _) (hn' := by first | rfl | (simp; done) | (simp; omega) | omega) (hx' := by simp) (h63 := by unfold maxLen; simp only [List.length_append, List.length_cons, List.length_nil]; omega) (hbytes := by show _ * 1 ≤ _; simp only [List.length_append, List.length_cons, List.length_nil]; omega) 1 (((dec b.length ++ [(58 : UInt8)]) ++ b).length) (((dec b.length ++ [(58 : UInt8)]) ++ b).map bV) S20 (hv.mono S20.le) fun a21 c22 w23 hc24 S25 => ?_
 refine Pv (Nr ?_)
 refine Pv ?_
 refine Af (hone := by simp [Value.cells]; rfl) ([(44 : UInt8)].map bV) fun a26 w27 hB28 ho29 => ?_
 have S30 := S25.own hB28 ho29
 refine ⟨trivial, ?_⟩
 have hD31 : (((dec b.length ++ [(58 : UInt8)]) ++ b) ++ [(44 : UInt8)]) = net b := (by simp [net])
 refine Ag (h1 := by exact one_bV _) (hn' := by rw [← hD31]; first | rfl | (simp; done) | (simp; omega) | omega) (hx' := by rw [← hD31]; simp) (h63 := by unfold maxLen; rw [← hD31]; simp only [List.length_append, List.length_cons, List.length_nil]; omega) (hbytes := by show _ * 1 ≤ _; rw [← hD31]; simp only [List.length_append, List.length_cons, List.length_nil]; omega) 2 ((net b).length) ((net b).map bV) S30 (S30.rd 0 rfl) fun a32 c33 w34 hc35 S36 => ?_
 refine Pv (T_nil (W_ret ?_))
 refine ⟨_, ⟨_, _, rfl, rfl, rfl⟩, ?_⟩
 exact ⟨_, _, hc35, rfl, S36.row 2 rfl, S36.below⟩


theorem nets_ok {H : Hp} {w : World} (hH : H.le (hw w)) (hT : Tabs H) {l : List (List UInt8)} {aa0 : Option Addr} {nn0 cc0 : Nat} (hv : RdL H (.slice aa0 nn0 cc0) l) (hb : (nets l).length < 10000) :
  Calls Tryd.prog 47 #[.slice aa0 nn0 cc0] w fun e w' => ∃ a c, (nets l).length ≤ c ∧ e = .returned (.slice a (nets l).length c) ∧ rowZ w' w.heap.size 5 1 (.slice a (nets l).length c) (nets l).length ((nets l).map bV) ∧ Below w.heap.size w w' := by
 obtain rfl : nn0 = l.length := hv.len
 have hcnt := nets_count l
 refine enter1 _ Tryd.func47 rfl Tryd.ntmps47 Tryd.results47 rfl ?_
 have S0 := St.start w hH
 refine Wr (Pv (Nr ?_))
 refine Pv (T_nil (W_seq (Wr ?_)))
 iterate 3 refine Pv ?_
 refine T_nil (W_block ?_)
 have S1 := S0.nilRow 5 1
 refine W_loop (fun M ρ w' => ∃ (k : Nat) (a4 : Option Addr) (c5 : Nat) (G2 : Hp), M = l.length - k ∧ k ≤ l.length ∧ ρ = [(3, .slice a4 ((nets (l.take k)).length) c5), (6, .slice aa0 l.length cc0), (7, .int .i64 ((l.length : Nat) : Int)), (8, .int .i64 (k : Int))] ∧ H.le G2 ∧ St w H G2 [.row 5 1 (.slice a4 ((nets (l.take k)).length) c5) ((nets (l.take k)).length) ((nets (l.take k)).map bV)] w' ∧ (nets (l.take k)).length ≤ c5)
  (l.length - 0) [(3, .slice none 0 0), (6, .slice aa0 l.length cc0), (7, .int .i64 ((l.length : Nat) : Int)), (8, .int .i64 ((0 : Nat) : Int))] ⟨rfl, rfl, ciI, ciI, trivial⟩ ⟨0, none, 0, H, rfl, (by omega), rfl, Hp.le.refl _, S1, (Nat.le_refl _)⟩ ?_
 rintro M ρ w7 ⟨k, a4, c5, G2, rfl, hp9, rfl, hl3, S8, hc6⟩
 have hnl := nets_take_le l k
 refine Wr (Pv (T_nil (W_seq ?_)))
 refine Aa (fun h10 => ?_) (fun h10 => ?_)
 ·refine W_skip (W_seq (W_block (Wr ?_)))
  obtain ⟨hs14, r15, r16⟩ := (hv.mono hl3)
  refine Ah k r15 fun b11 o12 hc13 => ?_
  obtain ⟨a19, c20, hc22, hv18, r21⟩ := r16.at k (by omega)
  have hc23 := hc13 0 _ (by simpa using hv18)
  simp only [Nat.add_zero] at hc23
  refine Ac S8 hc23 ?_
  refine Pv (T_nil (W_region ?_))
  iterate 2 refine Pv ?_
  refine T_callS rfl rfl g_aumbry_code_Net rfl rfl rfl rfl ((net_ok S8.le (hT.mono hl3) r21 (nets_el hb k (by omega))).mono ?_)
  rintro e w29 ⟨a24, c25, hc26, rfl, ho27, hB28⟩
  have S30 := S8.own hB28 ho27
  refine ⟨_, rfl, trivial, ?_⟩
  have hD31 : (nets (l.take k) ++ net (l.getD k [])) = nets (l.take (k + 1)) := (nets_take (by omega))
  have hn1 := nets_take_le l (k + 1)
  refine Ag (h1 := by exact one_bV _) (hn' := by rw [← hD31]; first | rfl | (simp; done) | (simp; omega) | omega) (hx' := by rw [← hD31]; simp) (hbytes := by show _ * 1 ≤ _; omega) 1 ((nets (l.take (k + 1))).length) ((nets (l.take (k + 1))).map bV) S30 (S30.rd 0 rfl) fun a32 c33 w34 hc35 S36 => ?_
  refine Pv (T_nil (W_region ?_))
  refine T_ari rfl rfl rfl rfl (by omega) ?_
  refine Pv (T_nil ?_)
  have S37 := S36.drop 0
  exact ⟨l.length - (k + 1), [(3, .slice a32 ((nets (l.take (k + 1))).length) c33), (6, .slice aa0 l.length cc0), (7, .int .i64 ((l.length : Nat) : Int)), (8, .int .i64 ((k + 1 : Nat) : Int))], by omega, ⟨rfl, rfl, ciI, ciI, trivial⟩, k + 1, a32, c33, G2, rfl, (by omega), rfl, hl3, S37, hc35⟩
 refine W_exit (Wr ?_)
 iterate 2 refine Pv ?_
 refine T_nil (W_ret ?_)
 refine ⟨_, ⟨_, _, rfl, rfl, rfl⟩, ?_⟩
 obtain rfl : k = l.length := by omega
 exact nets_end (by rw [List.take_length]) hc6 (S8.row 0 rfl) S8.below


theorem netsR_ok {H : Hp} {w : World} (hH : H.le (hw w)) {l : List (List UInt8)} {aa0 : Option Addr} {nn0 cc0 : Nat} (hv : RdL H (.slice aa0 nn0 cc0) l) (hb : (nets l).length < 10000) :
  Calls Tryd.prog 49 #[.slice aa0 nn0 cc0] w fun e w' => ∃ a c, (nets l).length ≤ c ∧ e = .returned (.slice a (nets l).length c) ∧ rowZ w' w.heap.size 5 1 (.slice a (nets l).length c) (nets l).length ((nets l).map bV) ∧ Below w.heap.size w w' := by
 obtain rfl : nn0 = l.length := hv.len
 have hcnt := nets_count l
 refine enter1 _ Tryd.func49 rfl Tryd.ntmps49 Tryd.results49 rfl ?_
 have S0 := St.start w hH
 refine Wr (Pv (Nr ?_))
 refine Pv (T_nil (W_seq (Wr ?_)))
 iterate 3 refine Pv ?_
 refine T_nil (W_block ?_)
 have S1 := S0.nilRow 5 1
 refine W_loop (fun M ρ w' => ∃ (k : Nat) (a4 : Option Addr) (c5 : Nat) (G2 : Hp), M = l.length - k ∧ k ≤ l.length ∧ ρ = [(0, .slice aa0 l.length cc0), (3, .slice a4 ((nets (l.take k)).length) c5), (6, .int .i64 ((l.length : Nat) : Int)), (7, .int .i64 (k : Int))] ∧ H.le G2 ∧ St w H G2 [.row 5 1 (.slice a4 ((nets (l.take k)).length) c5) ((nets (l.take k)).length) ((nets (l.take k)).map bV)] w' ∧ (nets (l.take k)).length ≤ c5)
  (l.length - 0) [(0, .slice aa0 l.length cc0), (3, .slice none 0 0), (6, .int .i64 ((l.length : Nat) : Int)), (7, .int .i64 ((0 : Nat) : Int))] ⟨rfl, rfl, ciI, ciI, trivial⟩ ⟨0, none, 0, H, rfl, (by omega), rfl, Hp.le.refl _, S1, (Nat.le_refl _)⟩ ?_
 rintro M ρ w7 ⟨k, a4, c5, G2, rfl, hp9, rfl, hl3, S8, hc6⟩
 have hnl := nets_take_le l k
 refine Wr (Pv (T_nil (W_seq ?_)))
 refine Aa (fun h10 => ?_) (fun h10 => ?_)
 ·refine W_skip (W_seq (W_block (Wr ?_)))
  iterate 2 refine Pv ?_
  refine T_nil (W_region ?_)
  iterate 3 refine Pv ?_
  obtain ⟨hs14, r15, r16⟩ := (hv.mono hl3)
  refine Ah k r15 fun b11 o12 hc13 => ?_
  obtain ⟨a19, c20, hc22, hv18, r21⟩ := r16.at k (by omega)
  have hc23 := hc13 0 _ (by simpa using hv18)
  simp only [Nat.add_zero] at hc23
  refine Ac S8 hc23 ?_
  refine T_callS rfl rfl g_aumbry_aumbryref01_Net rfl rfl rfl rfl ((netR_ok S8.le r21 (nets_el hb k (by omega))).mono ?_)
  rintro e w29 ⟨a24, c25, hc26, rfl, ho27, hB28⟩
  have S30 := S8.own hB28 ho27
  refine ⟨_, rfl, trivial, ?_⟩
  have hD31 : (nets (l.take k) ++ net (l.getD k [])) = nets (l.take (k + 1)) := (nets_take (by omega))
  have hn1 := nets_take_le l (k + 1)
  refine Ag (h1 := by exact one_bV _) (hn' := by rw [← hD31]; first | rfl | (simp; done) | (simp; omega) | omega) (hx' := by rw [← hD31]; simp) (hbytes := by show _ * 1 ≤ _; omega) 1 ((nets (l.take (k + 1))).length) ((nets (l.take (k + 1))).map bV) S30 (S30.rd 0 rfl) fun a32 c33 w34 hc35 S36 => ?_
  refine Pv (T_nil (W_region ?_))
  refine T_ari rfl rfl rfl rfl (by omega) ?_
  refine Pv (T_nil ?_)
  have S37 := S36.drop 0
  exact ⟨l.length - (k + 1), [(0, .slice aa0 l.length cc0), (3, .slice a32 ((nets (l.take (k + 1))).length) c33), (6, .int .i64 ((l.length : Nat) : Int)), (7, .int .i64 ((k + 1 : Nat) : Int))], by omega, ⟨rfl, rfl, ciI, ciI, trivial⟩, k + 1, a32, c33, G2, rfl, (by omega), rfl, hl3, S37, hc35⟩
 refine W_exit (Wr ?_)
 iterate 2 refine Pv ?_
 refine T_nil (W_ret ?_)
 refine ⟨_, ⟨_, _, rfl, rfl, rfl⟩, ?_⟩
 obtain rfl : k = l.length := by omega
 exact nets_end (by rw [List.take_length]) hc6 (S8.row 0 rfl) S8.below


theorem text_ok {H : Hp} {w : World} (hH : H.le (hw w)) (hT : Tabs H) {tag : List UInt8} {l : List (List UInt8)} {aa1 : Option Addr} {nn1 cc1 : Nat} (hv : RdL H (.slice aa1 nn1 cc1) l) (hb : (Go.Au.text tag l).length < 10000) :
  Calls Tryd.prog 80 #[str tag, .slice aa1 nn1 cc1] w fun e w' => ∃ a c, (Go.Au.text tag l).length ≤ c ∧ e = .returned (.slice a (Go.Au.text tag l).length c) ∧ rowZ w' w.heap.size 5 1 (.slice a (Go.Au.text tag l).length c) (Go.Au.text tag l).length ((Go.Au.text tag l).map bV) ∧ Below w.heap.size w w' := by
 obtain rfl : nn1 = l.length := hv.len
 have hb1 := text_tag tag l
 have hb2 := text_nets tag l
 refine enter2 _ Tryd.func80 rfl Tryd.ntmps80 Tryd.results80 rfl ?_
 have S0 := St.start w hH
 refine Wr (Pv (Nr ?_))
 refine Pv ?_
 refine T_s2b rfl rfl rfl rfl rfl rfl rfl rfl rfl (by unfold maxLen; omega) fun a1 c2 w3 hc4 hB5 ho6 => ?_
 have S7 := S0.own hB5 ho6
 refine ⟨trivial, ?_⟩
 obtain ⟨G9, hl10, S8, r11⟩ := S7.stillRow 0 rfl
 refine T_callS rfl rfl g_aumbry_code_Net rfl rfl rfl rfl ((net_ok S8.le (hT.mono hl10) r11 (by omega)).mono ?_)
 rintro e w17 ⟨a12, c13, hc14, rfl, ho15, hB16⟩
 have S18 := S8.own hB16 ho15
 refine ⟨_, rfl, trivial, ?_⟩
 refine Pv ?_
 refine T_callS rfl rfl g_aumbry_code_Nets rfl rfl rfl rfl ((nets_ok S18.le (hT.mono hl10) (hv.mono hl10) (by omega)).mono ?_)
 rintro e w24 ⟨a19, c20, hc21, rfl, ho22, hB23⟩
 have S25 := S18.own hB23 ho22
 refine ⟨_, rfl, trivial, ?_⟩
 have hD26 : (net tag ++ nets l) = Go.Au.text tag l := rfl
 refine Ag (h1 := by exact one_bV _) (hn' := by rw [← hD26]; first | rfl | (simp; done) | (simp; omega) | omega) (hx' := by rw [← hD26]; simp) (hbytes := by show _ * 1 ≤ _; omega) 1 ((Go.Au.text tag l).length) ((Go.Au.text tag l).map bV) S25 (S25.rd 0 rfl) fun a27 c28 w29 hc30 S31 => ?_
 refine Pv (T_nil (W_ret ?_))
 refine ⟨_, ⟨_, _, rfl, rfl, rfl⟩, ?_⟩
 exact ⟨_, _, hc30, rfl, S31.row 1 rfl, S31.below⟩


theorem tagged_ok {H : Hp} {w : World} (hH : H.le (hw w)) (hT : Tabs H) {tag : List UInt8} {l : List (List UInt8)} {aa1 : Option Addr} {nn1 cc1 : Nat} (hv : RdL H (.slice aa1 nn1 cc1) l) (hb : (Go.Au.text tag l).length < 10000) :
  Calls Tryd.prog 51 #[str tag, .slice aa1 nn1 cc1] w fun e w' => e = .returned (hV (Go.Au.tagged tag l)) ∧ Below w.heap.size w w' := by
 obtain rfl : nn1 = l.length := hv.len
 refine enter2 _ Tryd.func51 rfl Tryd.ntmps51 Tryd.results51 rfl ?_
 have S0 := St.start w hH
 refine Wr (Ae S0 fun b1 w2 S3 => (Nr ?_))
 iterate 2 refine Pv ?_
 refine T_callS rfl rfl g_aumbry_sha_Text rfl rfl rfl rfl ((text_ok S3.le hT hv (by omega)).mono ?_)
 rintro e w9 ⟨a4, c5, hc6, rfl, ho7, hB8⟩
 have S10 := S3.own hB8 ho7
 refine ⟨_, rfl, trivial, ?_⟩
 obtain ⟨G12, hl13, S11, r14⟩ := S10.stillRow 0 rfl
 refine T_callS rfl rfl g_aumbry_sha_Sum rfl rfl rfl rfl ((sumN_ok S11.le r14 (by omega)).mono ?_)
 rintro e w16 ⟨rfl, hB15⟩
 have S17 := S11.call hB15
 refine ⟨_, rfl, trivial, ?_⟩
 refine T_re (v' := hV (Go.Au.tagged tag l)) rfl (T_storeFS 0 S17 (fun _ _ => trivial) rfl rfl rfl rfl rfl rfl rfl rfl rfl (hVs (tagged_len _ _)) (hVs (tagged_len _ _)) (one_hA _) fun w18 S19 => (T_nil (W_ret ?_)))
 refine ⟨_, ⟨_, _, _, rfl, rfl, run_loadVarA rfl rfl (hVs (tagged_len _ _)) (S19.cells 0 rfl), rfl⟩, ?_⟩
 exact ⟨rfl, S19.below⟩


theorem textR_ok {H : Hp} {w : World} (hH : H.le (hw w)) {tag : List UInt8} {l : List (List UInt8)} {aa1 : Option Addr} {nn1 cc1 : Nat} (hv : RdL H (.slice aa1 nn1 cc1) l) (hb : (Go.Au.text tag l).length < 10000) :
  Calls Tryd.prog 82 #[str tag, .slice aa1 nn1 cc1] w fun e w' => ∃ a c, (Go.Au.text tag l).length ≤ c ∧ e = .returned (.slice a (Go.Au.text tag l).length c) ∧ rowZ w' w.heap.size 5 1 (.slice a (Go.Au.text tag l).length c) (Go.Au.text tag l).length ((Go.Au.text tag l).map bV) ∧ Below w.heap.size w w' := by
 obtain rfl : nn1 = l.length := hv.len
 have hb1 := text_tag tag l
 have hb2 := text_nets tag l
 refine enter2 _ Tryd.func82 rfl Tryd.ntmps82 Tryd.results82 rfl ?_
 have S0 := St.start w hH
 refine Wr (Pv (Nr ?_))
 refine Pv ?_
 refine T_s2b rfl rfl rfl rfl rfl rfl rfl rfl rfl (by unfold maxLen; omega) fun a1 c2 w3 hc4 hB5 ho6 => ?_
 have S7 := S0.own hB5 ho6
 refine ⟨trivial, ?_⟩
 obtain ⟨G9, hl10, S8, r11⟩ := S7.stillRow 0 rfl
 refine T_callS rfl rfl g_aumbry_aumbryref01_Net rfl rfl rfl rfl ((netR_ok S8.le r11 (by omega)).mono ?_)
 rintro e w17 ⟨a12, c13, hc14, rfl, ho15, hB16⟩
 have S18 := S8.own hB16 ho15
 refine ⟨_, rfl, trivial, ?_⟩
 refine Pv ?_
 refine T_callS rfl rfl g_aumbry_aumbryref01_Nets rfl rfl rfl rfl ((netsR_ok S18.le (hv.mono hl10) (by omega)).mono ?_)
 rintro e w24 ⟨a19, c20, hc21, rfl, ho22, hB23⟩
 have S25 := S18.own hB23 ho22
 refine ⟨_, rfl, trivial, ?_⟩
 have hD26 : (net tag ++ nets l) = Go.Au.text tag l := rfl
 refine Ag (h1 := by exact one_bV _) (hn' := by rw [← hD26]; first | rfl | (simp; done) | (simp; omega) | omega) (hx' := by rw [← hD26]; simp) (hbytes := by show _ * 1 ≤ _; omega) 1 ((Go.Au.text tag l).length) ((Go.Au.text tag l).map bV) S25 (S25.rd 0 rfl) fun a27 c28 w29 hc30 S31 => ?_
 refine Pv (T_nil (W_ret ?_))
 refine ⟨_, ⟨_, _, rfl, rfl, rfl⟩, ?_⟩
 exact ⟨_, _, hc30, rfl, S31.row 1 rfl, S31.below⟩


theorem taggedR_ok {H : Hp} {w : World} (hH : H.le (hw w)) {tag : List UInt8} {l : List (List UInt8)} {aa1 : Option Addr} {nn1 cc1 : Nat} (hv : RdL H (.slice aa1 nn1 cc1) l) (hb : (Go.Au.text tag l).length < 10000) :
  Calls Tryd.prog 52 #[str tag, .slice aa1 nn1 cc1] w fun e w' => e = .returned (hV (Go.Au.tagged tag l)) ∧ Below w.heap.size w w' := by
 obtain rfl : nn1 = l.length := hv.len
 refine enter2 _ Tryd.func52 rfl Tryd.ntmps52 Tryd.results52 rfl ?_
 have S0 := St.start w hH
 refine Wr (Ae S0 fun b1 w2 S3 => (Nr ?_))
 iterate 2 refine Pv ?_
 refine T_callS rfl rfl g_aumbry_aumbryref01_Text rfl rfl rfl rfl ((textR_ok S3.le hv (by omega)).mono ?_)
 rintro e w9 ⟨a4, c5, hc6, rfl, ho7, hB8⟩
 have S10 := S3.own hB8 ho7
 refine ⟨_, rfl, trivial, ?_⟩
 obtain ⟨G12, hl13, S11, r14⟩ := S10.stillRow 0 rfl
 refine T_callS rfl rfl g_aumbry_aumbryref01_Sum rfl rfl rfl rfl ((sumR_ok S11.le r14 (by omega)).mono ?_)
 rintro e w16 ⟨rfl, hB15⟩
 have S17 := S11.call hB15
 refine ⟨_, rfl, trivial, ?_⟩
 refine T_re (v' := hV (Go.Au.tagged tag l)) rfl (T_storeFS 0 S17 (fun _ _ => trivial) rfl rfl rfl rfl rfl rfl rfl rfl rfl (hVs (tagged_len _ _)) (hVs (tagged_len _ _)) (one_hA _) fun w18 S19 => (T_nil (W_ret ?_)))
 refine ⟨_, ⟨_, _, _, rfl, rfl, run_loadVarA rfl rfl (hVs (tagged_len _ _)) (S19.cells 0 rfl), rfl⟩, ?_⟩
 exact ⟨rfl, S19.below⟩

end Go.Proofs.YtmjmjjkigblbgaaDoor
