/- Signatures as bytes, for the pieces. -/
import Derived.Test.YtmjmjjkigblbgaaDoorLayD
import Derived.Test.YtmjmjjkigblbgaaDoorAuLay3
import Derived.Test.YtmjmjjkigblbgaaDoorFCut
import Derived.Test.YtmjmjjkigblbgaaDoorAuMss3
import Derived.Test.YtmjmjjkigblbgaaDoorAuMss4
import Derived.Test.YtmjmjjkigblbgaaDoorFMss
set_option linter.unusedVariables false
set_option linter.unusedSimpArgs false
set_option maxRecDepth 8192
namespace Go.Proofs.YtmjmjjkigblbgaaDoor
open Go Go.F Go.RowKit

theorem may_t {h : Int} (h0 : 0 ≤ h) : decide (h ≤ 4) = Go.Au.mayH h := by
  unfold Go.Au.mayH
  by_cases e : h ≤ 4
  · rw [decide_eq_true e, decide_eq_true ⟨h0, e⟩]
  · rw [decide_eq_false e, decide_eq_false (fun x => e x.2)]
theorem may_f {h : Int} (h0 : ¬ 0 ≤ h) : false = Go.Au.mayH h := (decide_eq_false (fun x => h0 x.1)).symm
theorem may_is {h : Int} (hm : 0 ≤ h ∧ h ≤ 4) : (!Go.Au.mayH h) = false := by unfold Go.Au.mayH; rw [decide_eq_true hm]; rfl
theorem Mmay_ok {H : Hp} {w : World} (hH : H.le (hw w)) (h : Int) :
    Calls Tryd.prog 90 #[.int .i64 h] w fun e w' => e = .returned (.bool (Go.Au.mayH h)) ∧ Below w.heap.size w w' := by
  refine enter1 _ Tryd.func90 rfl Tryd.ntmps90 Tryd.results90 rfl ?_
  have S0 := St.start w hH
  refine W_seq ?_
  refine W_region ?_
  refine T_pev rfl rfl rfl rfl ?_
  refine T_nil ?_
  refine W_seq ?_
  refine W_region ?_
  refine T_pev rfl rfl rfl rfl ?_
  refine T_pev rfl rfl rfl rfl ?_
  refine T_pev rfl rfl rfl rfl ?_
  refine T_part (t := 5) rfl (List.cons_ne_nil _ _) (fun h1' => ?_) (fun h1' => ?_)
  · have h1 := of_decide_eq_true h1'
    refine T_yes rfl rfl rfl ?_ rfl
    refine T_pev rfl rfl rfl rfl ?_
    refine T_yes rfl rfl rfl ?_ rfl
    refine T_pev rfl rfl rfl rfl ?_
    refine T_pev rfl rfl rfl rfl ?_
    refine T_pev rfl rfl rfl rfl ?_
    refine T_nil ?_
    refine W_ret ?_
    refine ⟨_, ⟨_, _, rfl, rfl, rfl⟩, ?_⟩
    exact ⟨congrArg (fun z => Ending.returned (Value.bool z)) (may_t (by omega)), S0.below⟩
  have h1 := of_decide_eq_false h1'
  refine T_no rfl rfl rfl rfl rfl rfl ?_
  refine T_no rfl rfl rfl rfl rfl rfl ?_
  refine T_pev rfl rfl rfl rfl ?_
  refine T_pev rfl rfl rfl rfl ?_
  refine T_nil ?_
  refine W_ret ?_
  refine ⟨_, ⟨_, _, rfl, rfl, rfl⟩, ?_⟩
  exact ⟨congrArg (fun z => Ending.returned (Value.bool z)) (may_f (by omega)), S0.below⟩


theorem keepSig_ok {H : Hp} {w : World} (hH : H.le (hw w)) (sh sl : Int) {v : List (List UInt8)} {p : List (List UInt8)} {a1 a2 a3 a4 : Option Addr} {n1 n2 n3 n4 c1 c2 c3 c4 : Nat} (h1 : RdH H (.slice a1 n1 c1) 32 v) (h2 : RdH H (.slice a2 n2 c2) 32 p) (h3 : RdH H (.slice a3 n3 c3) 32 v) (h4 : RdH H (.slice a4 n4 c4) 32 p) (hbv : v.length ≤ 1000000) (hbp : p.length ≤ 1000000) :
    Calls Tryd.prog 73 #[.agg #[.int .i64 sh, .int .i64 sl, .slice a1 n1 c1, .slice a2 n2 c2], .agg #[.int .i64 sh, .int .i64 sl, .slice a3 n3 c3, .slice a4 n4 c4]] w fun e w' => e = .returned (.bool true) ∧ Below w.heap.size w w' := by
  obtain rfl : n1 = v.length := h1.len
  obtain rfl : n2 = p.length := h2.len
  obtain rfl : n3 = v.length := h3.len
  obtain rfl : n4 = p.length := h4.len
  refine enter2 _ Tryd.func73 rfl Tryd.ntmps73 Tryd.results73 rfl ?_
  have S0 := St.start w hH
  refine W_seq ?_
  refine W_region ?_
  refine T_boxS S0 (fun _ _ => trivial) rfl rfl rfl rfl rfl rfl fun b1 w2 S3 => ?_
  refine T_boxS S3 (fun _ _ => trivial) rfl rfl rfl rfl rfl rfl fun b4 w5 S6 => ?_
  refine T_pev rfl rfl rfl rfl ?_
  refine T_nil ?_
  refine W_seq ?_
  refine W_region ?_
  refine T_fldm 0 rfl rfl rfl rfl rfl rfl (by decide) rfl rfl rfl ?_
  refine T_loadS 1 0 S6 rfl rfl rfl rfl rfl rfl rfl rfl rfl rfl ?_
  refine T_fldm 0 rfl rfl rfl rfl rfl rfl (by decide) rfl rfl rfl ?_
  refine T_loadS 0 0 S6 rfl rfl rfl rfl rfl rfl rfl rfl rfl rfl ?_
  refine T_pev rfl rfl rfl rfl ?_
  refine T_pev rfl rfl rfl rfl ?_
  refine T_bool 10 true rfl (decide_eq_true rfl) ?_
  refine T_yes rfl rfl rfl ?_ rfl
  refine T_fldm 1 rfl rfl rfl rfl rfl rfl (by decide) rfl rfl rfl ?_
  refine T_yes rfl rfl rfl ?_ rfl
  refine T_loadS 1 1 S6 rfl rfl rfl rfl rfl rfl rfl rfl rfl rfl ?_
  refine T_yes rfl rfl rfl ?_ rfl
  refine T_fldm 1 rfl rfl rfl rfl rfl rfl (by decide) rfl rfl rfl ?_
  refine T_yes rfl rfl rfl ?_ rfl
  refine T_loadS 0 1 S6 rfl rfl rfl rfl rfl rfl rfl rfl rfl rfl ?_
  refine T_yes rfl rfl rfl ?_ rfl
  refine T_pev rfl rfl rfl rfl ?_
  refine T_pev rfl rfl rfl rfl ?_
  refine T_pev rfl rfl rfl rfl ?_
  refine T_bool 17 true rfl (decide_eq_true rfl) ?_
  refine T_yes rfl rfl rfl ?_ rfl
  refine T_fldm 2 rfl rfl rfl rfl rfl rfl (by decide) rfl rfl rfl ?_
  refine T_yes rfl rfl rfl ?_ rfl
  refine T_loadS 1 2 S6 rfl rfl rfl rfl rfl rfl rfl rfl rfl rfl ?_
  refine T_yes rfl rfl rfl ?_ rfl
  refine T_fldm 2 rfl rfl rfl rfl rfl rfl (by decide) rfl rfl rfl ?_
  refine T_yes rfl rfl rfl ?_ rfl
  refine T_loadS 0 2 S6 rfl rfl rfl rfl rfl rfl rfl rfl rfl rfl ?_
  refine T_yes rfl rfl rfl ?_ rfl
  refine T_callS rfl rfl g_aumbry_aumbrykeep_Same_aumbry_api_Hash rfl rfl rfl rfl ((sameH_ok S6.le h1 h3 (by first | omega | (simp; done) | (simp only [List.length_take, List.length_drop]; omega))).mono ?_)
  rintro e w8 ⟨rfl, hB7⟩
  have S9 := S6.call hB7
  refine ⟨_, rfl, trivial, ?_⟩
  refine T_pev rfl rfl rfl rfl ?_
  refine T_pev rfl rfl rfl rfl ?_
  refine T_bool 24 true rfl (decide_eq_true rfl) ?_
  refine T_yes rfl rfl rfl ?_ rfl
  refine T_fldm 3 rfl rfl rfl rfl rfl rfl (by decide) rfl rfl rfl ?_
  refine T_yes rfl rfl rfl ?_ rfl
  refine T_loadS 1 3 S9 rfl rfl rfl rfl rfl rfl rfl rfl rfl rfl ?_
  refine T_yes rfl rfl rfl ?_ rfl
  refine T_fldm 3 rfl rfl rfl rfl rfl rfl (by decide) rfl rfl rfl ?_
  refine T_yes rfl rfl rfl ?_ rfl
  refine T_loadS 0 3 S9 rfl rfl rfl rfl rfl rfl rfl rfl rfl rfl ?_
  refine T_yes rfl rfl rfl ?_ rfl
  refine T_callS rfl rfl g_aumbry_aumbrykeep_Same_aumbry_api_Hash rfl rfl rfl rfl ((sameH_ok S9.le h2 h4 (by first | omega | (simp; done) | (simp only [List.length_take, List.length_drop]; omega))).mono ?_)
  rintro e w11 ⟨rfl, hB10⟩
  have S12 := S9.call hB10
  refine ⟨_, rfl, trivial, ?_⟩
  refine T_pev rfl rfl rfl rfl ?_
  refine T_pev rfl rfl rfl rfl ?_
  refine T_nil ?_
  refine W_ret ?_
  refine ⟨_, ⟨_, _, rfl, rfl, rfl⟩, ?_⟩
  exact ⟨congrArg (fun z => Ending.returned (Value.bool z)) (decide_eq_true rfl), S12.below⟩


theorem gval_bd (b : List UInt8) {k : Nat} (h : k ≤ 5) : Go.Au.gval (b.take k) < 1099511627776 :=
  Nat.lt_of_lt_of_le (Go.Au.gval_lt b k) (show 256 ^ k ≤ 256 ^ 5 from Nat.pow_le_pow_right (by omega) h)
theorem Mshl8 {g : Nat} (h : g < 1099511627776) : IntKind.i64.wrap (((g : Nat) : Int) * 2 ^ (min (8 : Int).toNat IntKind.i64.bits)) = ((256 * g : Nat) : Int) := by
  show IntKind.i64.wrap (((g : Nat) : Int) * 256) = _
  rw [wrap64_id (by omega) (by omega)]; omega
theorem Mor8 {g c : Nat} (hg : g < 1099511627776) (hc : c < 256) : bits .or .i64 ((256 * g : Nat) : Int) ((c : Nat) : Int) = ((256 * g + c : Nat) : Int) := by
  have e : ((BitVec.ofInt 64 ((256 * g : Nat) : Int)) ||| (BitVec.ofInt 64 ((c : Nat) : Int))).toNat = 256 * g + c := by
    rw [BitVec.toNat_or, BitVec.toNat_ofInt, BitVec.toNat_ofInt]
    show ((((256 * g : Nat) : Int)) % 18446744073709551616).toNat ||| (((c : Nat) : Int) % 18446744073709551616).toNat = _
    rw [show ((((256 * g : Nat) : Int)) % 18446744073709551616).toNat = g <<< 8 by rw [Nat.shiftLeft_eq]; omega, show (((c : Nat) : Int) % 18446744073709551616).toNat = c by omega, ← Nat.shiftLeft_add_eq_or_of_lt (by omega), Nat.shiftLeft_eq]
    omega
  show IntKind.i64.wrap ((((BitVec.ofInt 64 ((256 * g : Nat) : Int)) ||| (BitVec.ofInt 64 ((c : Nat) : Int))).toNat : Nat) : Int) = _
  rw [e, wrap64_id (by omega) (by omega)]
theorem nil_of {H : Hp} {a : Option Addr} {n c : Nat} {l : List (List UInt8)} (h : RdH H (.slice a n c) 32 l) (ha : a.isNone = true) : l = [] := by
  obtain ⟨_, _, a', c', hv, _, h0, _⟩ := h
  cases hv
  have : a = none := by simpa using ha
  exact List.eq_nil_of_length_eq_zero (h0 this).1
theorem may_le {x : Nat} (h : (!Go.Au.mayH ((x : Nat) : Int)) = false) : x ≤ 4 := by
  unfold Go.Au.mayH at h
  simp at h; omega
theorem Mget_ok {H : Hp} {w : World} (hH : H.le (hw w)) {b : List UInt8} {aa0 : Option Addr} {nn0 cc0 : Nat} (hv : Rd H (.slice aa0 nn0 cc0) nn0 1 (b.map bV)) (hb : b.length ≤ 6) :
    Calls Tryd.prog 75 #[.slice aa0 nn0 cc0] w fun e w' => e = .returned (.tuple #[.int .i64 ((Go.Au.gval b : Nat) : Int), .bool true]) ∧ Below w.heap.size w w' := by
  obtain rfl : nn0 = b.length := hv.lenB
  have hvcap : b.length ≤ cc0 := hv.capOf
  refine enter1 _ Tryd.func75 rfl Tryd.ntmps75 Tryd.results75 rfl ?_
  have S0 := St.start w hH
  refine W_seq ?_
  refine W_region ?_
  refine T_pev rfl rfl rfl rfl ?_
  refine T_pev rfl rfl rfl rfl ?_
  refine T_nil ?_
  refine W_seq ?_
  refine W_seq ?_
  refine W_region ?_
  refine T_pev rfl rfl rfl rfl ?_
  refine T_pev rfl rfl rfl rfl ?_
  refine T_pev rfl rfl rfl rfl ?_
  refine T_nil ?_
  refine W_bool 9 false rfl (decide_eq_false (by omega)) ?_
  refine W_cond_false rfl ?_
  refine W_skip ?_
  refine W_seq ?_
  refine W_region ?_
  refine T_pev rfl rfl rfl rfl ?_
  refine T_nil ?_
  refine W_seq ?_
  refine W_seq ?_
  refine W_region ?_
  refine T_pev rfl rfl rfl rfl ?_
  refine T_pev rfl rfl rfl rfl ?_
  refine T_pev rfl rfl rfl rfl ?_
  refine T_nil ?_
  refine W_block ?_
  have hg0 : Go.Au.gval (b.take 0) = 0 := rfl
  refine W_loop (fun M ρ w' => ∃ (k : Nat) (G1 : Hp), M = b.length - k ∧ k ≤ b.length ∧ ρ = [(4, .int .i64 ((Go.Au.gval (b.take k) : Nat) : Int)), (10, .slice aa0 b.length cc0), (11, .int .i64 ((b.length : Nat) : Int)), (12, .int .i64 (k : Int))] ∧ H.le G1 ∧ St w H G1 [] w')
    (b.length - 0) [(4, .int .i64 ((Go.Au.gval (b.take 0) : Nat) : Int)), (10, .slice aa0 b.length cc0), (11, .int .i64 ((b.length : Nat) : Int)), (12, .int .i64 ((0 : Nat) : Int))] ⟨(congrArg (fun z => some (Value.int .i64 z)) (by omega)), rfl, (congrArg (fun z => some (Value.int .i64 z)) (by omega)), (congrArg (fun z => some (Value.int .i64 z)) (by omega)), trivial⟩ ⟨0, H, rfl, (by omega), rfl, Hp.le.refl _, S0⟩ ?_
  rintro M ρ w3 ⟨k, G1, rfl, hp5, rfl, hl2, S4⟩
  refine W_seq ?_
  refine W_region ?_
  refine T_pev rfl rfl rfl rfl ?_
  refine T_nil ?_
  refine W_seq ?_
  refine W_cond_dec rfl (fun h6 => ?_) (fun h6 => ?_)
  · refine W_skip ?_
    refine W_seq ?_
    refine W_block ?_
    refine W_seq ?_
    refine W_region ?_
    have hgl := gval_bd b (k := k) (by omega)
    have hcl := (b.getD k 0).toNat_lt
    have hgt := Go.Au.gval_take (l := b) (k := k) (by omega)
    refine T_idxR k (hv.mono hl2) rfl rfl rfl rfl rfl rfl rfl rfl rfl (by omega) (by omega) fun b7 o8 hc9 => ?_
    have hc10 := hc9 0 (bV (b.getD k 0)) (at_b b k (by omega))
    simp only [Nat.add_zero] at hc10
    refine T_loadG S4 hc10 rfl rfl rfl rfl rfl rfl rfl ?_
    refine T_pev rfl rfl rfl rfl ?_
    refine T_nil ?_
    refine W_region ?_
    refine T_pev rfl rfl rfl rfl ?_
    refine T_shl rfl rfl rfl rfl rfl rfl (by omega) ?_
    refine T_re (v' := .int .i64 ((256 * Go.Au.gval (b.take k) : Nat) : Int)) (congrArg (Value.int .i64) (Mshl8 (by omega))) ?_
    refine T_pev rfl rfl rfl rfl ?_
    refine T_b2i rfl rfl rfl rfl rfl rfl rfl ?_
    refine T_pev rfl rfl rfl rfl ?_
    refine T_re (v' := .int .i64 ((256 * Go.Au.gval (b.take k) + (b.getD k 0).toNat : Nat) : Int)) (congrArg (Value.int .i64) (Mor8 (by omega) (by omega))) ?_
    refine T_pev rfl rfl rfl rfl ?_
    refine T_nil ?_
    refine W_region ?_
    refine T_ari rfl rfl rfl rfl (by omega) ?_
    refine T_pev rfl rfl rfl rfl ?_
    refine T_nil ?_
    exact ⟨b.length - (k + 1), [(4, .int .i64 ((Go.Au.gval (b.take (k + 1)) : Nat) : Int)), (10, .slice aa0 b.length cc0), (11, .int .i64 ((b.length : Nat) : Int)), (12, .int .i64 ((k + 1 : Nat) : Int))], by omega, ⟨(congrArg (fun z => some (Value.int .i64 z)) (by omega)), rfl, (congrArg (fun z => some (Value.int .i64 z)) (by omega)), (congrArg (fun z => some (Value.int .i64 z)) (by omega)), trivial⟩, k + 1, G1, rfl, (by omega), rfl, hl2, S4⟩
  refine W_exit ?_
  refine W_seq ?_
  refine W_region ?_
  refine T_pev rfl rfl rfl rfl ?_
  refine T_pev rfl rfl rfl rfl ?_
  refine T_pev rfl rfl rfl rfl ?_
  refine T_nil ?_
  refine W_ret ?_
  refine ⟨_, ⟨_, _, rfl, rfl, ⟨_, _, rfl, rfl, rfl⟩⟩, ?_⟩
  obtain rfl : k = b.length := by omega
  exact ⟨by rw [List.take_length]; rfl, S4.below⟩


theorem hashes_ok {H : Hp} {w : World} (hH : H.le (hw w)) {b : List UInt8} {aa0 : Option Addr} {nn0 cc0 : Nat} (hv : Rd H (.slice aa0 nn0 cc0) nn0 1 (b.map bV)) (hb : b.length ≤ 100000) :
    Calls Tryd.prog 91 #[.slice aa0 nn0 cc0] w fun e w' => ∃ a c, (b.length / 32) ≤ c ∧ e = .returned (.slice a (b.length / 32) c) ∧ rowZ w' w.heap.size 23 32 (.slice a (b.length / 32) c) (b.length / 32) (hcells (Go.Au.chunks b (b.length / 32))) ∧ Below w.heap.size w w' := by
  obtain rfl : nn0 = b.length := hv.lenB
  have hvcap : b.length ≤ cc0 := hv.capOf
  refine enter1 _ Tryd.func91 rfl Tryd.ntmps91 Tryd.results91 rfl ?_
  have S0 := St.start w hH
  refine W_seq ?_
  refine W_region ?_
  refine T_pev rfl rfl rfl rfl ?_
  refine T_nil ?_
  refine W_seq ?_
  refine W_region ?_
  refine T_pev rfl rfl rfl rfl ?_
  refine T_nil ?_
  refine W_seq ?_
  refine W_block ?_
  have S1 := S0.nilRow 23 32
  refine W_loop (fun M ρ w' => ∃ (k : Nat) (a4 : Option Addr) (nn5 c6 : Nat) (a8 : Option Addr) (c9 : Nat) (G2 : Hp), M = (b.length / 32) - k ∧ k ≤ (b.length / 32) ∧ ρ = [(0, .slice a4 nn5 c6), (3, .slice a8 k c9)] ∧ H.le G2 ∧ St w H G2 [.row 23 32 (.slice a8 k c9) k (hcells (Go.Au.chunks b k))] w' ∧ Rd G2 (.slice a4 nn5 c6) nn5 1 ((b.drop (32 * k)).map bV) ∧ (∀ y ∈ Go.Au.chunks b k, y.length = 32) ∧ k ≤ c9)
    ((b.length / 32) - 0) [(0, .slice aa0 b.length cc0), (3, .slice none 0 0)] ⟨rfl, rfl, trivial⟩ ⟨0, _, _, _, none, 0, H, rfl, (by exact Nat.zero_le _), rfl, Hp.le.refl _, S1, hv, (fun _ h => by cases h), (Nat.le_refl _)⟩ ?_
  rintro M ρ w12 ⟨k, a4, nn5, c6, a8, c9, G2, rfl, hp14, rfl, hl3, S13, hf7, hh11, hc10⟩
  obtain rfl : nn5 = (b.drop (32 * k)).length := hf7.lenB
  have hdl : (b.drop (32 * k)).length = b.length - 32 * k := List.length_drop
  refine W_seq ?_
  refine W_seq ?_
  refine W_region ?_
  refine T_pev rfl rfl rfl rfl ?_
  refine T_pev rfl rfl rfl rfl ?_
  refine T_pev rfl rfl rfl rfl ?_
  refine T_nil ?_
  refine W_cond_dec rfl (fun h15 => ?_) (fun h15 => ?_)
  · refine W_skip ?_
    refine W_block ?_
    refine W_seq ?_
    refine W_region ?_
    refine T_pev rfl rfl rfl rfl ?_
    refine T_pev rfl rfl rfl rfl ?_
    refine T_sliceR 0 32 hf7 rfl rfl rfl rfl rfl rfl rfl rfl rfl rfl (bound_of (by omega)) rfl (by omega) (by omega) fun a16 c17 hc18 r19 => ?_
    have r20 := Rd.cutB r19
    have hb24 := (r20).lenB
    have hl25 := take_len32 (l := (((b.drop (32 * k)).drop 0).take (32 - 0))) (by omega)
    refine T_s2apR r20 rfl rfl rfl rfl rfl rfl (by decide) (by omega) fun b21 o22 hc23 => ?_
    refine T_loadGA _ S13 hc23 rfl rfl rfl rfl rfl rfl rfl rfl (hVs hl25) ?_
    refine T_re (v' := hV ((b.drop (32 * k)).take 32)) (congrArg (fun q => hV q) (Go.Au.take3232 _)) ?_
    refine T_litS (hcells [(b.drop (32 * k)).take 32]) rfl rfl rfl rfl rfl rfl rfl rfl rfl rfl rfl rfl rfl (one_h (take_len32 (by omega))) (by simp [hcells, hV, Value.cells]) fun a26 w27 hB28 ho29 => ?_
    have S30 := S13.own hB28 ho29
    refine ⟨trivial, ?_⟩
    have hD31 : (Go.Au.chunks b k ++ [(b.drop (32 * k)).take 32]) = Go.Au.chunks b (k + 1) := (Go.Au.chunks_snoc _ _)
    refine T_appendS 1 (k + 1) (hcells (Go.Au.chunks b (k + 1))) S30 (fun _ _ => trivial) rfl rfl rfl rfl rfl rfl rfl rfl rfl rfl rfl rfl rfl rfl (S30.rd 0 rfl) (one_hcells _) (by first | rfl | (simp; done) | (simp; omega) | omega) (by rw [← hD31]; simp [hcells_append, hcells]) (by unfold maxLen; omega) (by show _ * 32 ≤ _; omega) fun a32 c33 w34 hc35 S36 => ?_
    have hh37 : ∀ y ∈ Go.Au.chunks b (k + 1), y.length = 32 := by rw [← hD31]; exact (all_app hh11 (all_h1 (take_len32 (by omega))))
    refine T_pev rfl rfl rfl rfl ?_
    refine T_nil ?_
    refine W_region ?_
    refine T_pev rfl rfl rfl rfl ?_
    refine T_sliceR 32 ((b.drop (32 * k)).length) hf7 rfl rfl rfl rfl rfl rfl rfl rfl rfl rfl (by first | rfl | exact congrArg some (by omega)) (bound_of (by omega)) (by omega) (by omega) fun a38 c39 hc40 r41 => ?_
    have r42 := Rd.cutB r41
    have r43 : Rd G2 (.slice a38 ((b.drop (32 * k)).length - 32) c39) ((b.drop (32 * k)).length - 32) 1 ((b.drop (32 * (k + 1))).map bV) := by rw [Go.Au.drop_step] at r42; exact r42
    refine T_pev rfl rfl rfl rfl ?_
    refine T_nil ?_
    have S44 := S36.drop 0
    exact ⟨(b.length / 32) - (k + 1), [(0, .slice a38 ((b.drop (32 * k)).length - 32) c39), (3, .slice a32 (k + 1) c33)], by omega, ⟨rfl, rfl, trivial⟩, k + 1, _, _, _, a32, c33, G2, rfl, (by omega), rfl, hl3, S44, r43, hh37, hc35⟩
  refine W_exit ?_
  refine W_seq ?_
  refine W_region ?_
  refine T_pev rfl rfl rfl rfl ?_
  refine T_pev rfl rfl rfl rfl ?_
  refine T_nil ?_
  refine W_ret ?_
  refine ⟨_, ⟨_, _, rfl, rfl, rfl⟩, ?_⟩
  obtain rfl : k = (b.length / 32) := by omega
  exact ⟨_, _, hc10, rfl, S13.row 0 rfl, S13.below⟩


theorem cloneH_ok {H : Hp} {w : World} (hH : H.le (hw w)) {l : List (List UInt8)} {aa0 : Option Addr} {nn0 cc0 : Nat} (hv : RdH H (.slice aa0 nn0 cc0) 32 l) (hb : l.length ≤ 100000) :
    Calls Tryd.prog 92 #[.slice aa0 nn0 cc0] w fun e w' => ∃ a c, l.length ≤ c ∧ e = .returned (.slice a l.length c) ∧ RdH (F.ext H w.heap.size w') (.slice a l.length c) 32 l ∧ Below w.heap.size w w' := by
  obtain rfl : nn0 = l.length := hv.len
  have hvcap : l.length ≤ cc0 := hv.2.capOf
  refine enter1 _ Tryd.func92 rfl Tryd.ntmps92 Tryd.results92 rfl ?_
  have S0 := St.start w hH
  refine W_seq ?_
  refine W_region ?_
  refine T_pev rfl rfl rfl rfl ?_
  refine T_nil ?_
  refine W_seq ?_
  refine W_seq ?_
  refine W_region ?_
  refine T_pev rfl rfl rfl rfl ?_
  refine T_snil rfl rfl rfl rfl rfl rfl rfl ?_
  refine T_nil ?_
  refine W_cond rfl (fun h1 => ?_) (fun h1 => ?_)
  · refine W_seq ?_
    refine W_region ?_
    refine T_pev rfl rfl rfl rfl ?_
    refine T_nil ?_
    refine W_ret ?_
    refine ⟨_, ⟨_, _, rfl, rfl, rfl⟩, ?_⟩
    obtain rfl := nil_of hv h1
    exact ⟨none, 0, Nat.le_refl _, rfl, nilH _, S0.below⟩
  refine W_skip ?_
  refine W_seq ?_
  refine W_region ?_
  refine T_litS (hcells ([] : List (List UInt8))) rfl rfl rfl rfl rfl rfl rfl rfl rfl rfl rfl rfl rfl (by intro v hv; cases hv) rfl fun a2 w3 hB4 ho5 => ?_
  have S6 := S0.own hB4 ho5
  refine ⟨trivial, ?_⟩
  refine T_pev rfl rfl rfl rfl ?_
  refine T_appendS 0 l.length (hcells l) S6 (fun _ _ => trivial) rfl rfl rfl rfl rfl rfl rfl rfl rfl rfl rfl rfl rfl rfl (hv.2.mono S6.le) (one_hcells _) (by first | rfl | (simp; done) | (simp; omega) | omega) (by simp [hcells_append, hcells]) (by unfold maxLen; omega) (by show _ * 32 ≤ _; omega) fun a7 c8 w9 hc10 S11 => ?_
  refine T_pev rfl rfl rfl rfl ?_
  refine T_nil ?_
  refine W_ret ?_
  refine ⟨_, ⟨_, _, rfl, rfl, rfl⟩, ?_⟩
  exact ⟨_, _, hc10, rfl, RdH.mk hv.1 (by decide) (Rd.of_own_ext (S11.row 0 rfl)), S11.below⟩


theorem unpackNo_ok {H : Hp} {w : World} (hH : H.le (hw w)) (_hT : Tabs H) {b : List UInt8} {aa0 : Option Addr} {nn0 cc0 : Nat} (hv : Rd H (.slice aa0 nn0 cc0) nn0 1 (b.map bV)) (hno : ¬ Go.Au.okU b) :
    Calls Tryd.prog 69 #[.slice aa0 nn0 cc0] w fun e w' => e = .returned (.tuple #[.agg #[.int .i64 0, .int .i64 0, .slice none 0 0, .slice none 0 0], .bool false]) ∧ Below w.heap.size w w' := by
  obtain rfl : nn0 = b.length := hv.lenB
  have hvcap : b.length ≤ cc0 := hv.capOf
  have hb0 := (b.getD 0 0).toNat_lt
  refine enter1 _ Tryd.func69 rfl Tryd.ntmps69 Tryd.results69 rfl ?_
  have S0 := St.start w hH
  refine W_seq ?_
  refine W_region ?_
  refine T_allocS S0 (fun _ _ => trivial) rfl rfl rfl rfl rfl rfl rfl fun b1 w2 S3 => ?_
  refine T_pev rfl rfl rfl rfl ?_
  refine T_nil ?_
  refine W_seq ?_
  refine W_seq ?_
  refine W_region ?_
  refine T_pev rfl rfl rfl rfl ?_
  refine T_pev rfl rfl rfl rfl ?_
  refine T_pev rfl rfl rfl rfl ?_
  refine T_pev rfl rfl rfl rfl ?_
  refine T_part (t := 10) rfl (List.cons_ne_nil _ _) (fun h4' => ?_) (fun h4' => ?_)
  · have h4 := of_decide_eq_true h4'
    refine T_no rfl rfl rfl rfl rfl rfl ?_
    refine T_no rfl rfl rfl rfl rfl rfl ?_
    refine T_no rfl rfl rfl rfl rfl rfl ?_
    refine T_no rfl rfl rfl rfl rfl rfl ?_
    refine T_no rfl rfl rfl rfl rfl rfl ?_
    refine T_no rfl rfl rfl rfl rfl rfl ?_
    refine T_pev rfl rfl rfl rfl ?_
    refine T_pev rfl rfl rfl rfl ?_
    refine T_no rfl rfl rfl rfl rfl rfl ?_
    refine T_no rfl rfl rfl rfl rfl rfl ?_
    refine T_no rfl rfl rfl rfl rfl rfl ?_
    refine T_no rfl rfl rfl rfl rfl rfl ?_
    refine T_no rfl rfl rfl rfl rfl rfl ?_
    refine T_no rfl rfl rfl rfl rfl rfl ?_
    refine T_no rfl rfl rfl rfl rfl rfl ?_
    refine T_no rfl rfl rfl rfl rfl rfl ?_
    refine T_no rfl rfl rfl rfl rfl rfl ?_
    refine T_no rfl rfl rfl rfl rfl rfl ?_
    refine T_pev rfl rfl rfl rfl ?_
    refine T_nil ?_
    refine W_cond_true rfl ?_
    refine W_seq ?_
    refine W_region ?_
    refine T_buildS (cells := #[.int .i64 0, .int .i64 0, .slice none 0 0, .slice none 0 0]) rfl rfl rfl rfl rfl rfl rfl rfl rfl rfl ?_
    refine T_storeFS 0 S3 (fun _ _ => trivial) rfl rfl rfl rfl rfl rfl rfl rfl rfl (by first | rfl | simp [hVs, *]) (by first | rfl | simp [hVs, *]) (one_all rfl) fun w5 S6 => ?_
    refine T_pev rfl rfl rfl rfl ?_
    refine T_nil ?_
    refine W_ret ?_
    refine ⟨_, ⟨_, _, _, rfl, rfl, run_loadVarA rfl rfl (by first | rfl | simp [hVs, *]) (S6.cells 0 rfl), ⟨_, _, rfl, rfl, rfl⟩⟩, ?_⟩
    exact ⟨rfl, S6.below⟩
  have h4 := of_decide_eq_false h4'
  refine T_yes rfl rfl rfl ?_ rfl
  refine T_pev rfl rfl rfl rfl ?_
  refine T_yes rfl rfl rfl ?_ rfl
  refine T_idxR 0 hv rfl rfl rfl rfl rfl rfl rfl rfl rfl (by omega) (by omega) fun b7 o8 hc9 => ?_
  have hc10 := hc9 0 (bV (b.getD 0 0)) (at_b b 0 (by omega))
  simp only [Nat.add_zero] at hc10
  refine T_yes rfl rfl rfl ?_ rfl
  refine T_loadG S3 hc10 rfl rfl rfl rfl rfl rfl rfl ?_
  refine T_yes rfl rfl rfl ?_ rfl
  refine T_b2i rfl rfl rfl rfl rfl rfl rfl ?_
  refine T_yes rfl rfl rfl ?_ rfl
  refine T_callS rfl rfl g_aumbry_mss_may rfl rfl rfl rfl ((Mmay_ok S3.le ((b.getD 0 0).toNat : Int)).mono ?_)
  rintro e w12 ⟨rfl, hB11⟩
  have S13 := S3.call hB11
  refine ⟨_, rfl, trivial, ?_⟩
  refine T_yes rfl rfl rfl ?_ rfl
  refine T_pev rfl rfl rfl rfl ?_
  refine T_pev rfl rfl rfl rfl ?_
  refine T_pev rfl rfl rfl rfl ?_
  refine T_part (t := 18) rfl (List.cons_ne_nil _ _) (fun h14' => ?_) (fun h14' => ?_)
  · have h14 := h14'
    refine T_no rfl rfl rfl rfl rfl rfl ?_
    refine T_no rfl rfl rfl rfl rfl rfl ?_
    refine T_no rfl rfl rfl rfl rfl rfl ?_
    refine T_no rfl rfl rfl rfl rfl rfl ?_
    refine T_no rfl rfl rfl rfl rfl rfl ?_
    refine T_no rfl rfl rfl rfl rfl rfl ?_
    refine T_no rfl rfl rfl rfl rfl rfl ?_
    refine T_no rfl rfl rfl rfl rfl rfl ?_
    refine T_no rfl rfl rfl rfl rfl rfl ?_
    refine T_no rfl rfl rfl rfl rfl rfl ?_
    refine T_pev rfl rfl rfl rfl ?_
    refine T_nil ?_
    refine W_cond_true rfl ?_
    refine W_seq ?_
    refine W_region ?_
    refine T_buildS (cells := #[.int .i64 0, .int .i64 0, .slice none 0 0, .slice none 0 0]) rfl rfl rfl rfl rfl rfl rfl rfl rfl rfl ?_
    refine T_storeFS 0 S13 (fun _ _ => trivial) rfl rfl rfl rfl rfl rfl rfl rfl rfl (by first | rfl | simp [hVs, *]) (by first | rfl | simp [hVs, *]) (one_all rfl) fun w15 S16 => ?_
    refine T_pev rfl rfl rfl rfl ?_
    refine T_nil ?_
    refine W_ret ?_
    refine ⟨_, ⟨_, _, _, rfl, rfl, run_loadVarA rfl rfl (by first | rfl | simp [hVs, *]) (S16.cells 0 rfl), ⟨_, _, rfl, rfl, rfl⟩⟩, ?_⟩
    exact ⟨rfl, S16.below⟩
  have h14 := h14'
  refine T_yes rfl rfl rfl ?_ rfl
  refine T_pev rfl rfl rfl rfl ?_
  refine T_yes rfl rfl rfl ?_ rfl
  refine T_pev rfl rfl rfl rfl ?_
  refine T_yes rfl rfl rfl ?_ rfl
  refine T_pev rfl rfl rfl rfl ?_
  refine T_yes rfl rfl rfl ?_ rfl
  refine T_idxR 0 hv rfl rfl rfl rfl rfl rfl rfl rfl rfl (by omega) (by omega) fun b17 o18 hc19 => ?_
  have hc20 := hc19 0 (bV (b.getD 0 0)) (at_b b 0 (by omega))
  simp only [Nat.add_zero] at hc20
  refine T_yes rfl rfl rfl ?_ rfl
  refine T_loadG S13 hc20 rfl rfl rfl rfl rfl rfl rfl ?_
  refine T_yes rfl rfl rfl ?_ rfl
  refine T_b2i rfl rfl rfl rfl rfl rfl rfl ?_
  refine T_yes rfl rfl rfl ?_ rfl
  refine T_ari rfl rfl rfl rfl (by omega) ?_
  refine T_yes rfl rfl rfl ?_ rfl
  refine T_ari rfl rfl rfl rfl (by omega) ?_
  refine T_yes rfl rfl rfl ?_ rfl
  refine T_ari rfl rfl rfl rfl (by omega) ?_
  refine T_yes rfl rfl rfl ?_ rfl
  refine T_pev rfl rfl rfl rfl ?_
  refine T_pev rfl rfl rfl rfl ?_
  refine T_nil ?_
  refine W_bool 29 true rfl (ndec_t (fun e => hno ⟨by omega, may_le h14, by omega⟩)) ?_
  refine W_cond_true rfl ?_
  refine W_seq ?_
  refine W_region ?_
  refine T_buildS (cells := #[.int .i64 0, .int .i64 0, .slice none 0 0, .slice none 0 0]) rfl rfl rfl rfl rfl rfl rfl rfl rfl rfl ?_
  refine T_storeFS 0 S13 (fun _ _ => trivial) rfl rfl rfl rfl rfl rfl rfl rfl rfl (by first | rfl | simp [hVs, *]) (by first | rfl | simp [hVs, *]) (one_all rfl) fun w21 S22 => ?_
  refine T_pev rfl rfl rfl rfl ?_
  refine T_nil ?_
  refine W_ret ?_
  refine ⟨_, ⟨_, _, _, rfl, rfl, run_loadVarA rfl rfl (by first | rfl | simp [hVs, *]) (S22.cells 0 rfl), ⟨_, _, rfl, rfl, rfl⟩⟩, ?_⟩
  exact ⟨rfl, S22.below⟩


theorem unpack_ok {H : Hp} {w : World} (hH : H.le (hw w)) (_hT : Tabs H) {b : List UInt8} {aa0 : Option Addr} {nn0 cc0 : Nat} (hv : Rd H (.slice aa0 nn0 cc0) nn0 1 (b.map bV)) (hb : b.length ≤ 10000) (hok : Go.Au.okU b) :
    Calls Tryd.prog 69 #[.slice aa0 nn0 cc0] w fun e w' => ∃ a1 n1 c1 a2 n2 c2, e = .returned (.tuple #[.agg #[.int .i64 (((b.getD 0 0).toNat : Nat) : Int), .int .i64 (((Go.Au.gval ((b.drop 1).take (3 - 1))) : Nat) : Int), .slice a1 n1 c1, .slice a2 n2 c2], .bool true]) ∧ RdH (F.ext H w.heap.size w') (.slice a1 n1 c1) 32 (((Go.Au.chunks (b.drop 3) ((b.drop 3).length / 32)).drop 0).take (67 - 0)) ∧ RdH (F.ext H w.heap.size w') (.slice a2 n2 c2) 32 (((Go.Au.chunks (b.drop 3) ((b.drop 3).length / 32)).drop 67).take (((b.drop 3).length / 32) - 67)) ∧ Below w.heap.size w w' := by
  obtain rfl : nn0 = b.length := hv.lenB
  have hvcap : b.length ≤ cc0 := hv.capOf
  obtain ⟨hk1, hk2, hk3⟩ := hok
  have hx3 : (b.drop 3).length = b.length - 3 := List.length_drop
  have hck := Go.Au.chunks_len (b.drop 3) ((b.drop 3).length / 32)
  refine enter1 _ Tryd.func69 rfl Tryd.ntmps69 Tryd.results69 rfl ?_
  have S0 := St.start w hH
  refine W_seq ?_
  refine W_region ?_
  refine T_allocS S0 (fun _ _ => trivial) rfl rfl rfl rfl rfl rfl rfl fun b1 w2 S3 => ?_
  refine T_pev rfl rfl rfl rfl ?_
  refine T_nil ?_
  refine W_seq ?_
  refine W_seq ?_
  refine W_region ?_
  refine T_pev rfl rfl rfl rfl ?_
  refine T_pev rfl rfl rfl rfl ?_
  refine T_pev rfl rfl rfl rfl ?_
  refine T_pev rfl rfl rfl rfl ?_
  refine T_bool 10 false rfl (decide_eq_false (by omega)) ?_
  refine T_yes rfl rfl rfl ?_ rfl
  refine T_pev rfl rfl rfl rfl ?_
  refine T_yes rfl rfl rfl ?_ rfl
  refine T_idxR 0 hv rfl rfl rfl rfl rfl rfl rfl rfl rfl (by omega) (by omega) fun b4 o5 hc6 => ?_
  have hc7 := hc6 0 (bV (b.getD 0 0)) (at_b b 0 (by omega))
  simp only [Nat.add_zero] at hc7
  refine T_yes rfl rfl rfl ?_ rfl
  refine T_loadG S3 hc7 rfl rfl rfl rfl rfl rfl rfl ?_
  refine T_yes rfl rfl rfl ?_ rfl
  refine T_b2i rfl rfl rfl rfl rfl rfl rfl ?_
  refine T_yes rfl rfl rfl ?_ rfl
  refine T_callS rfl rfl g_aumbry_mss_may rfl rfl rfl rfl ((Mmay_ok S3.le ((b.getD 0 0).toNat : Int)).mono ?_)
  rintro e w9 ⟨rfl, hB8⟩
  have S10 := S3.call hB8
  refine ⟨_, rfl, trivial, ?_⟩
  refine T_yes rfl rfl rfl ?_ rfl
  refine T_pev rfl rfl rfl rfl ?_
  refine T_pev rfl rfl rfl rfl ?_
  refine T_pev rfl rfl rfl rfl ?_
  refine T_bool 18 false rfl (may_is ⟨by omega, by omega⟩) ?_
  refine T_yes rfl rfl rfl ?_ rfl
  refine T_pev rfl rfl rfl rfl ?_
  refine T_yes rfl rfl rfl ?_ rfl
  refine T_pev rfl rfl rfl rfl ?_
  refine T_yes rfl rfl rfl ?_ rfl
  refine T_pev rfl rfl rfl rfl ?_
  refine T_yes rfl rfl rfl ?_ rfl
  refine T_idxR 0 hv rfl rfl rfl rfl rfl rfl rfl rfl rfl (by omega) (by omega) fun b11 o12 hc13 => ?_
  have hc14 := hc13 0 (bV (b.getD 0 0)) (at_b b 0 (by omega))
  simp only [Nat.add_zero] at hc14
  refine T_yes rfl rfl rfl ?_ rfl
  refine T_loadG S10 hc14 rfl rfl rfl rfl rfl rfl rfl ?_
  refine T_yes rfl rfl rfl ?_ rfl
  refine T_b2i rfl rfl rfl rfl rfl rfl rfl ?_
  refine T_yes rfl rfl rfl ?_ rfl
  refine T_ari rfl rfl rfl rfl (by omega) ?_
  refine T_yes rfl rfl rfl ?_ rfl
  refine T_ari rfl rfl rfl rfl (by omega) ?_
  refine T_yes rfl rfl rfl ?_ rfl
  refine T_ari rfl rfl rfl rfl (by omega) ?_
  refine T_yes rfl rfl rfl ?_ rfl
  refine T_pev rfl rfl rfl rfl ?_
  refine T_pev rfl rfl rfl rfl ?_
  refine T_nil ?_
  refine W_bool 29 false rfl (ndec_f (by omega)) ?_
  refine W_cond_false rfl ?_
  refine W_skip ?_
  refine W_seq ?_
  refine W_region ?_
  refine T_pev rfl rfl rfl rfl ?_
  refine T_sliceR 1 3 hv rfl rfl rfl rfl rfl rfl rfl rfl rfl rfl (bound_of (by omega)) (bound_of (by omega)) (by omega) (by omega) fun a15 c16 hc17 r18 => ?_
  have r19 := Rd.cutB r18
  have hg2 : ((b.drop 1).take (3 - 1)).length ≤ 6 := by rw [List.length_take]; omega
  refine T_callS rfl rfl g_aumbry_code_Get rfl rfl rfl rfl ((Mget_ok S10.le r19 (by omega)).mono ?_)
  rintro e w21 ⟨rfl, hB20⟩
  have S22 := S10.call hB20
  refine ⟨_, rfl, trivial, ?_⟩
  refine T_pev rfl rfl rfl rfl ?_
  refine T_pev rfl rfl rfl rfl ?_
  refine T_pev rfl rfl rfl rfl ?_
  refine T_pev rfl rfl rfl rfl ?_
  refine T_pev rfl rfl rfl rfl ?_
  refine T_nil ?_
  refine W_seq ?_
  refine W_region ?_
  refine T_pev rfl rfl rfl rfl ?_
  refine T_sliceR 3 b.length hv rfl rfl rfl rfl rfl rfl rfl rfl rfl rfl (by first | rfl | exact congrArg some (by omega)) (bound_of (by omega)) (by omega) (by omega) fun a23 c24 hc25 r26 => ?_
  have r27 := Rd.cutB r26
  have r28 : Rd H (.slice a23 (b.length - 3) c24) (b.length - 3) 1 ((b.drop 3).map bV) := by rw [Go.Au.drop3] at r27; exact r27
  refine T_callS rfl rfl g_aumbry_mss_hashes rfl rfl rfl rfl ((hashes_ok S22.le r28 (by omega)).mono ?_)
  rintro e w34 ⟨a29, c30, hc31, rfl, ho32, hB33⟩
  have S35 := S22.own hB33 ho32
  refine ⟨_, rfl, trivial, ?_⟩
  refine T_pev rfl rfl rfl rfl ?_
  refine T_nil ?_
  refine W_seq ?_
  refine W_plan (planF Tryd.prog H [42]) rfl (by kernel_rfl) S35.le ?_
  have S36 := S35.drew
  refine T_pev rfl rfl rfl rfl ?_
  refine T_idxR 0 hv rfl rfl rfl rfl rfl rfl rfl rfl rfl (by omega) (by omega) fun b37 o38 hc39 => ?_
  have hc40 := hc39 0 (bV (b.getD 0 0)) (at_b b 0 (by omega))
  simp only [Nat.add_zero] at hc40
  refine T_loadGP (fun _ h => h) hc40 rfl rfl rfl rfl rfl rfl rfl ?_
  refine T_b2i rfl rfl rfl rfl rfl rfl rfl ?_
  refine T_pev rfl rfl rfl rfl ?_
  refine T_pev rfl rfl rfl rfl ?_
  obtain ⟨G42, hl43, S41, r44⟩ := S36.stillRow 0 rfl
  have r45 := RdH.mk (Go.Au.chunks_all (by omega)) (by decide) r44
  refine T_sliceR 0 67 r45.2 rfl rfl rfl rfl rfl rfl rfl rfl rfl rfl (bound_of (by omega)) rfl (by omega) (by omega) fun a46 c47 hc48 r49 => ?_
  have r50 := RdH.cut (lo := 0) r45.1 (by first | (simp only [List.length_take, List.length_drop]; omega) | (have hcl := List.length_take (i := (67 - 0)) (l := (Go.Au.chunks (b.drop 3) ((b.drop 3).length / 32)).drop 0); have hcd := List.length_drop (i := 0) (l := (Go.Au.chunks (b.drop 3) ((b.drop 3).length / 32))); omega)) r49
  have hv1 : (((Go.Au.chunks (b.drop 3) ((b.drop 3).length / 32)).drop 0).take (67 - 0)).length ≤ 67 := by rw [List.length_take]; omega
  refine T_callS rfl rfl g_slices_Clone_aumbry_api_Hash_aumbry_api_Hash rfl rfl rfl rfl ((cloneH_ok S41.le r50 (by omega)).mono ?_)
  rintro e w56 ⟨a51, c52, hc53, rfl, hr54, hB55⟩
  obtain ⟨G58, eG60⟩ : ∃ G, G = F.ext G42 w34.drew.heap.size w56 := ⟨_, rfl⟩
  obtain ⟨hl59, S57⟩ := S41.ext hB55
  rw [← eG60] at hl59 S57 hr54
  refine ⟨_, rfl, (((hl43.trans hl59)).trans S57.le), ?_⟩
  refine T_pev rfl rfl rfl rfl ?_
  refine T_sliceR 67 ((b.drop 3).length / 32) (r45.mono hl59).2 rfl rfl rfl rfl rfl rfl rfl rfl rfl rfl (by first | rfl | exact congrArg some (by omega)) (bound_of (by omega)) (by omega) (by omega) fun a61 c62 hc63 r64 => ?_
  have r65 := RdH.cut (lo := 67) (r45.mono hl59).1 (by first | (simp only [List.length_take, List.length_drop]; omega) | (have hcl := List.length_take (i := (((b.drop 3).length / 32) - 67)) (l := (Go.Au.chunks (b.drop 3) ((b.drop 3).length / 32)).drop 67); have hcd := List.length_drop (i := 67) (l := (Go.Au.chunks (b.drop 3) ((b.drop 3).length / 32))); omega)) r64
  have hp1 : (((Go.Au.chunks (b.drop 3) ((b.drop 3).length / 32)).drop 67).take (((b.drop 3).length / 32) - 67)).length ≤ 100 := by rw [List.length_take]; omega
  refine T_callS rfl rfl g_slices_Clone_aumbry_api_Hash_aumbry_api_Hash rfl rfl rfl rfl ((cloneH_ok S57.le r65 (by omega)).mono ?_)
  rintro e w71 ⟨a66, c67, hc68, rfl, hr69, hB70⟩
  obtain ⟨G73, eG75⟩ : ∃ G, G = F.ext G58 w56.heap.size w71 := ⟨_, rfl⟩
  obtain ⟨hl74, S72⟩ := S57.ext hB70
  rw [← eG75] at hl74 S72 hr69
  refine ⟨_, rfl, (((hl43.trans (hl59.trans hl74))).trans S72.le), ?_⟩
  refine T_buildS (cells := #[.int .i64 ((b.getD 0 0).toNat : Int), .int .i64 ((Go.Au.gval ((b.drop 1).take (3 - 1)) : Nat) : Int), .slice a51 ((((Go.Au.chunks (b.drop 3) ((b.drop 3).length / 32)).drop 0).take (67 - 0)).length) c52, .slice a66 ((((Go.Au.chunks (b.drop 3) ((b.drop 3).length / 32)).drop 67).take (((b.drop 3).length / 32) - 67)).length) c67]) rfl rfl rfl rfl rfl rfl rfl rfl rfl rfl ?_
  refine T_storeFS 0 S72 (fun _ h => ((hl43.trans (hl59.trans hl74))).trans h) rfl rfl rfl rfl rfl rfl rfl rfl rfl (by first | rfl | simp [hVs, *]) (by first | rfl | simp [hVs, *]) (one_all rfl) fun w76 S77 => ?_
  refine T_pev rfl rfl rfl rfl ?_
  refine T_nil ?_
  refine W_ret ?_
  refine ⟨_, ⟨_, _, _, rfl, rfl, run_loadVarA rfl rfl (by first | rfl | simp [hVs, *]) (S77.cells 0 rfl), ⟨_, _, rfl, rfl, rfl⟩⟩, ?_⟩
  exact ⟨_, _, _, _, _, _, rfl, ((hr54.mono hl74)).mono S77.fin, (hr69).mono S77.fin, S77.below⟩


theorem pack_ok {H : Hp} {w : World} (hH : H.le (hw w)) (sh sl : Int) {v p : List (List UInt8)} {a1 a2 : Option Addr} {n1 n2 c1 c2 : Nat} (h1 : RdH H (.slice a1 n1 c1) 32 v) (h2 : RdH H (.slice a2 n2 c2) 32 p) (hbv : v.length ≤ 100) (hbp : p.length ≤ 100) (hsh : sh ≤ 9223372036854775807) (hsl : sl ≤ 9223372036854775807) :
    Calls Tryd.prog 71 #[.agg #[.int .i64 sh, .int .i64 sl, .slice a1 n1 c1, .slice a2 n2 c2]] w fun e w' => ∃ a c, (Go.Au.pack sh sl v p).length ≤ c ∧ e = .returned (.slice a (Go.Au.pack sh sl v p).length c) ∧ rowZ w' w.heap.size 5 1 (.slice a (Go.Au.pack sh sl v p).length c) (Go.Au.pack sh sl v p).length ((Go.Au.pack sh sl v p).map bV) ∧ Below w.heap.size w w' := by
  obtain rfl : n1 = v.length := h1.len
  obtain rfl : n2 = p.length := h2.len
  have hpb := Go.Au.packT_bd (h := sh) (l := sl) hbv hbp h1.1 h2.1 0
  refine enter1 _ Tryd.func71 rfl Tryd.ntmps71 Tryd.results71 rfl ?_
  have S0 := St.start w hH
  refine W_seq ?_
  refine W_region ?_
  refine T_boxS S0 (fun _ _ => trivial) rfl rfl rfl rfl rfl rfl fun b1 w2 S3 => ?_
  refine T_pev rfl rfl rfl rfl ?_
  refine T_nil ?_
  refine W_seq ?_
  refine W_tree (plan Tryd.prog) (.step 0 (.step 1 (.step 3 (.fork 2 4 (.step 4 (.step 5 (.step 6 (.step 7 .done)))) (.step 2 (.step 5 (.step 6 (.step 7 .done)))))))) rfl (by kernel_rfl) trivial ?_
  have S4 := S3.drew
  refine TT_step rfl ?_
  refine T_fldm 0 rfl rfl rfl rfl rfl rfl (by decide) rfl rfl rfl ?_
  refine T_nil ?_
  refine TT_step rfl ?_
  refine T_loadS 0 0 S4 rfl rfl rfl rfl rfl rfl rfl rfl rfl rfl ?_
  refine T_nil ?_
  refine TT_step rfl ?_
  refine T_fldm 1 rfl rfl rfl rfl rfl rfl (by decide) rfl rfl rfl ?_
  refine T_nil ?_
  refine TT_fork rfl rfl ?_ ?_
  · refine T_callS rfl rfl g_aumbry_code_Put rfl rfl rfl rfl ((putN_ok S4.le sh 1 (by omega) (by omega)).mono ?_)
    rintro e w10 ⟨a5, c6, hc7, rfl, ho8, hB9⟩
    have S11 := S4.own hB9 ho8
    refine ⟨_, rfl, trivial, ?_⟩
    refine T_nil ?_
    refine TT_step rfl ?_
    refine T_loadS 1 1 S11 rfl rfl rfl rfl rfl rfl rfl rfl rfl rfl ?_
    refine T_nil ?_
    refine TT_step rfl ?_
    refine T_callS rfl rfl g_aumbry_code_Put rfl rfl rfl rfl ((putN_ok S11.le sl 2 (by omega) (by omega)).mono ?_)
    rintro e w17 ⟨a12, c13, hc14, rfl, ho15, hB16⟩
    have S18 := S11.own hB16 ho15
    refine ⟨_, rfl, trivial, ?_⟩
    refine T_nil ?_
    refine TT_step rfl ?_
    have hD19 : (Go.Sha.put (max 0 sh).toNat 1 ++ Go.Sha.put (max 0 sl).toNat 2) = Go.Au.packT sh sl v p 0 := rfl
    refine T_appendS 1 ((Go.Au.packT sh sl v p 0).length) ((Go.Au.packT sh sl v p 0).map bV) S18 (fun _ _ => trivial) rfl rfl rfl rfl rfl rfl rfl rfl rfl rfl rfl rfl rfl rfl (S18.rd 0 rfl) (one_bV _) (by rw [← hD19]; first | rfl | (simp; done) | (simp; omega) | omega) (by rw [← hD19]; simp) (by unfold maxLen; omega) (by show _ * 1 ≤ _; omega) fun a20 c21 w22 hc23 S24 => ?_
    refine T_nil ?_
    refine TT_step rfl ?_
    refine T_pev rfl rfl rfl rfl ?_
    refine T_nil ?_
    refine TT_done ?_
    refine W_seq ?_
    refine W_seq ?_
    refine W_region ?_
    refine T_fldm 2 rfl rfl rfl rfl rfl rfl (by decide) rfl rfl rfl ?_
    refine T_loadS 2 2 S24 rfl rfl rfl rfl rfl rfl rfl rfl rfl rfl ?_
    refine T_fldm 3 rfl rfl rfl rfl rfl rfl (by decide) rfl rfl rfl ?_
    refine T_loadS 2 3 S24 rfl rfl rfl rfl rfl rfl rfl rfl rfl rfl ?_
    refine T_buildA (cells := #[.slice a1 v.length c1, .slice a2 p.length c2]) rfl rfl rfl rfl rfl rfl rfl rfl rfl rfl ?_
    refine T_pev rfl rfl rfl rfl ?_
    refine T_nil ?_
    refine W_block ?_
    refine W_loop (fun M ρ w' => ∃ (k : Nat) (a27 : Option Addr) (c28 : Nat) (G25 : Hp), M = 2 - k ∧ k ≤ 2 ∧ ρ = [(3, .slice a27 ((Go.Au.packT sh sl v p k).length) c28), (19, .agg #[.slice a1 v.length c1, .slice a2 p.length c2]), (20, .int .i64 (k : Int))] ∧ H.le G25 ∧ St w H G25 [.row 5 1 (.slice a12 ((Go.Sha.put (max 0 sl).toNat 2).length) c13) ((Go.Sha.put (max 0 sl).toNat 2).length) ((Go.Sha.put (max 0 sl).toNat 2).map bV), .row 5 1 (.slice a27 ((Go.Au.packT sh sl v p k).length) c28) ((Go.Au.packT sh sl v p k).length) ((Go.Au.packT sh sl v p k).map bV), .blk b1 (.agg #[.int .i64 sh, .int .i64 sl, .slice a1 v.length c1, .slice a2 p.length c2] : Value).cells 65] w' ∧ (Go.Au.packT sh sl v p k).length ≤ c28)
      (2 - 0) [(3, .slice a20 ((Go.Au.packT sh sl v p 0).length) c21), (19, .agg #[.slice a1 v.length c1, .slice a2 p.length c2]), (20, .int .i64 ((0 : Nat) : Int))] ⟨rfl, rfl, (congrArg (fun z => some (Value.int .i64 z)) (by omega)), trivial⟩ ⟨0, a20, c21, H, rfl, (by omega), rfl, Hp.le.refl _, S24, hc23⟩ ?_
    rintro M ρ w30 ⟨k, a27, c28, G25, rfl, hp32, rfl, hl26, S31, hc29⟩
    refine W_seq ?_
    refine W_region ?_
    refine T_pev rfl rfl rfl rfl ?_
    refine T_nil ?_
    refine W_seq ?_
    refine W_cond_dec rfl (fun h33 => ?_) (fun h33 => ?_)
    · refine W_skip ?_
      refine W_seq ?_
      refine W_block ?_
      refine W_seq ?_
      rcases (show k = 0 ∨ k = 1 by omega) with rfl | rfl
      · refine W_region ?_
        refine T_index1 (v := .slice a1 v.length c1) rfl rfl rfl rfl rfl rfl rfl rfl rfl rfl (by omega) rfl ?_
        refine T_pev rfl rfl rfl rfl ?_
        refine T_nil ?_
        refine W_seq ?_
        refine W_region ?_
        refine T_pev rfl rfl rfl rfl ?_
        refine T_pev rfl rfl rfl rfl ?_
        refine T_pev rfl rfl rfl rfl ?_
        refine T_nil ?_
        refine W_block ?_
        refine W_loop (fun M ρ w' => ∃ (j : Nat) (a36 : Option Addr) (c37 : Nat) (G34 : Hp), M = v.length - j ∧ j ≤ v.length ∧ ρ = [(3, .slice a36 ((Go.Au.flatTo (Go.Au.packT sh sl v p 0) v j).length) c37), (19, .agg #[.slice a1 v.length c1, .slice a2 p.length c2]), (20, .int .i64 (0 : Int)), (23, .slice a1 v.length c1), (24, .int .i64 ((v.length : Nat) : Int)), (25, .int .i64 (j : Int))] ∧ G25.le G34 ∧ St w H G34 [.row 5 1 (.slice a12 ((Go.Sha.put (max 0 sl).toNat 2).length) c13) ((Go.Sha.put (max 0 sl).toNat 2).length) ((Go.Sha.put (max 0 sl).toNat 2).map bV), .row 5 1 (.slice a36 ((Go.Au.flatTo (Go.Au.packT sh sl v p 0) v j).length) c37) ((Go.Au.flatTo (Go.Au.packT sh sl v p 0) v j).length) ((Go.Au.flatTo (Go.Au.packT sh sl v p 0) v j).map bV), .blk b1 (.agg #[.int .i64 sh, .int .i64 sl, .slice a1 v.length c1, .slice a2 p.length c2] : Value).cells 65] w' ∧ (Go.Au.flatTo (Go.Au.packT sh sl v p 0) v j).length ≤ c37)
          (v.length - 0) [(3, .slice a27 ((Go.Au.packT sh sl v p 0).length) c28), (19, .agg #[.slice a1 v.length c1, .slice a2 p.length c2]), (20, .int .i64 (0 : Int)), (23, .slice a1 v.length c1), (24, .int .i64 ((v.length : Nat) : Int)), (25, .int .i64 ((0 : Nat) : Int))] ⟨rfl, rfl, (congrArg (fun z => some (Value.int .i64 z)) (by omega)), rfl, (congrArg (fun z => some (Value.int .i64 z)) (by omega)), (congrArg (fun z => some (Value.int .i64 z)) (by omega)), trivial⟩ ⟨0, a27, c28, G25, rfl, (by omega), rfl, Hp.le.refl _, S31, hc29⟩ ?_
        rintro M ρ w39 ⟨j, a36, c37, G34, rfl, hp41, rfl, hl35, S40, hc38⟩
        refine W_seq ?_
        refine W_region ?_
        refine T_pev rfl rfl rfl rfl ?_
        refine T_nil ?_
        refine W_seq ?_
        refine W_cond_dec rfl (fun h42 => ?_) (fun h42 => ?_)
        · refine W_skip ?_
          refine W_seq ?_
          refine W_block ?_
          refine W_seq ?_
          refine W_region ?_
          refine T_idxR j (h1.mono (hl26.trans hl35)).2 rfl rfl rfl rfl rfl rfl rfl rfl rfl (by omega) (by omega) fun b43 o44 hc45 => ?_
          have hc46 := cells_h (h1.mono (hl26.trans hl35)).1 j (by omega) hc45
          have hl47 := len_h (h1.mono (hl26.trans hl35)).1 j (by omega)
          refine T_loadGA _ S40 hc46 rfl rfl rfl rfl rfl rfl rfl rfl (hVs hl47) ?_
          refine T_allocS S40 (fun _ _ => trivial) rfl rfl rfl rfl rfl rfl rfl fun b48 w49 S50 => ?_
          refine T_storeFS 0 S50 (fun _ _ => trivial) rfl rfl rfl rfl rfl rfl rfl rfl rfl (hVs hl47) (hVs hl47) (one_hA _) fun w51 S52 => ?_
          refine T_nil ?_
          refine W_region ?_
          refine T_pev rfl rfl rfl rfl ?_
          obtain ⟨G54, hl55, S53, r56⟩ := S52.stillBlk 0 rfl
          refine T_sliceAll rfl rfl rfl rfl rfl rfl rfl rfl ?_
          have r57 := Rd.of_blk (m := 32) (size := 1) (xs := (v.getD j []).map bV) r56 (hcell1 _) (by rw [List.length_map, hl47])
          have hD58 : (Go.Au.flatTo (Go.Au.packT sh sl v p 0) v j ++ v.getD j []) = Go.Au.flatTo (Go.Au.packT sh sl v p 0) v (j + 1) := rfl
          have hfl : (Go.Au.flatTo (Go.Au.packT sh sl v p 0) v (j + 1)).length = (Go.Au.flatTo (Go.Au.packT sh sl v p 0) v j).length + (v.getD j []).length := List.length_append
          refine T_appendS 1 ((Go.Au.flatTo (Go.Au.packT sh sl v p 0) v (j + 1)).length) ((Go.Au.flatTo (Go.Au.packT sh sl v p 0) v (j + 1)).map bV) S53 (fun _ _ => trivial) rfl rfl rfl rfl rfl rfl rfl rfl rfl rfl rfl rfl rfl rfl (r57.mono S53.le) (one_bV _) (by first | rfl | (simp; done) | (simp; omega) | omega) (by rw [← hD58]; simp) (by unfold maxLen; have hfb := Go.Au.flatT_bd (Go.Au.packT_bd (h := sh) (l := sl) hbv hbp h1.1 h2.1 0) (show v.length ≤ 100 by omega) h1.1 (show j + 1 ≤ v.length by omega); omega) (by show _ * 1 ≤ _; have hfb := Go.Au.flatT_bd (Go.Au.packT_bd (h := sh) (l := sl) hbv hbp h1.1 h2.1 0) (show v.length ≤ 100 by omega) h1.1 (show j + 1 ≤ v.length by omega); omega) fun a59 c60 w61 hc62 S63 => ?_
          refine T_pev rfl rfl rfl rfl ?_
          refine T_nil ?_
          refine W_region ?_
          refine T_ari rfl rfl rfl rfl (by omega) ?_
          refine T_pev rfl rfl rfl rfl ?_
          refine T_nil ?_
          exact ⟨v.length - (j + 1), [(3, .slice a59 ((Go.Au.flatTo (Go.Au.packT sh sl v p 0) v (j + 1)).length) c60), (19, .agg #[.slice a1 v.length c1, .slice a2 p.length c2]), (20, .int .i64 (0 : Int)), (23, .slice a1 v.length c1), (24, .int .i64 ((v.length : Nat) : Int)), (25, .int .i64 ((j + 1 : Nat) : Int))], by omega, ⟨rfl, rfl, (congrArg (fun z => some (Value.int .i64 z)) (by omega)), rfl, (congrArg (fun z => some (Value.int .i64 z)) (by omega)), (congrArg (fun z => some (Value.int .i64 z)) (by omega)), trivial⟩, j + 1, a59, c60, G54, rfl, (by omega), rfl, (hl35.trans hl55), S63, hc62⟩
        refine W_exit ?_
        refine W_region ?_
        refine T_ari rfl rfl rfl rfl (by omega) ?_
        refine T_pev rfl rfl rfl rfl ?_
        refine T_nil ?_
        obtain rfl : j = v.length := by omega
        have hD64 : Go.Au.flatTo (Go.Au.packT sh sl v p 0) v v.length = Go.Au.packT sh sl v p (0 + 1) := (Go.Au.flatTo_all _ _).trans rfl
        rw [hD64] at S40 hc38 ⊢
        exact ⟨2 - (0 + 1), [(3, .slice a36 (Go.Au.packT sh sl v p (0 + 1)).length c37), (19, .agg #[.slice a1 v.length c1, .slice a2 p.length c2]), (20, .int .i64 ((0 + 1 : Nat) : Int))], by omega, ⟨rfl, rfl, (congrArg (fun z => some (Value.int .i64 z)) (by omega)), trivial⟩, 0 + 1, a36, c37, G34, rfl, (by omega), rfl, (hl26.trans hl35), S40, hc38⟩
      · refine W_region ?_
        refine T_index1 (v := .slice a2 p.length c2) rfl rfl rfl rfl rfl rfl rfl rfl rfl rfl (by omega) rfl ?_
        refine T_pev rfl rfl rfl rfl ?_
        refine T_nil ?_
        refine W_seq ?_
        refine W_region ?_
        refine T_pev rfl rfl rfl rfl ?_
        refine T_pev rfl rfl rfl rfl ?_
        refine T_pev rfl rfl rfl rfl ?_
        refine T_nil ?_
        refine W_block ?_
        refine W_loop (fun M ρ w' => ∃ (j : Nat) (a67 : Option Addr) (c68 : Nat) (G65 : Hp), M = p.length - j ∧ j ≤ p.length ∧ ρ = [(3, .slice a67 ((Go.Au.flatTo (Go.Au.packT sh sl v p 1) p j).length) c68), (19, .agg #[.slice a1 v.length c1, .slice a2 p.length c2]), (20, .int .i64 (1 : Int)), (23, .slice a2 p.length c2), (24, .int .i64 ((p.length : Nat) : Int)), (25, .int .i64 (j : Int))] ∧ G25.le G65 ∧ St w H G65 [.row 5 1 (.slice a12 ((Go.Sha.put (max 0 sl).toNat 2).length) c13) ((Go.Sha.put (max 0 sl).toNat 2).length) ((Go.Sha.put (max 0 sl).toNat 2).map bV), .row 5 1 (.slice a67 ((Go.Au.flatTo (Go.Au.packT sh sl v p 1) p j).length) c68) ((Go.Au.flatTo (Go.Au.packT sh sl v p 1) p j).length) ((Go.Au.flatTo (Go.Au.packT sh sl v p 1) p j).map bV), .blk b1 (.agg #[.int .i64 sh, .int .i64 sl, .slice a1 v.length c1, .slice a2 p.length c2] : Value).cells 65] w' ∧ (Go.Au.flatTo (Go.Au.packT sh sl v p 1) p j).length ≤ c68)
          (p.length - 0) [(3, .slice a27 ((Go.Au.packT sh sl v p 1).length) c28), (19, .agg #[.slice a1 v.length c1, .slice a2 p.length c2]), (20, .int .i64 (1 : Int)), (23, .slice a2 p.length c2), (24, .int .i64 ((p.length : Nat) : Int)), (25, .int .i64 ((0 : Nat) : Int))] ⟨rfl, rfl, (congrArg (fun z => some (Value.int .i64 z)) (by omega)), rfl, (congrArg (fun z => some (Value.int .i64 z)) (by omega)), (congrArg (fun z => some (Value.int .i64 z)) (by omega)), trivial⟩ ⟨0, a27, c28, G25, rfl, (by omega), rfl, Hp.le.refl _, S31, hc29⟩ ?_
        rintro M ρ w70 ⟨j, a67, c68, G65, rfl, hp72, rfl, hl66, S71, hc69⟩
        refine W_seq ?_
        refine W_region ?_
        refine T_pev rfl rfl rfl rfl ?_
        refine T_nil ?_
        refine W_seq ?_
        refine W_cond_dec rfl (fun h73 => ?_) (fun h73 => ?_)
        · refine W_skip ?_
          refine W_seq ?_
          refine W_block ?_
          refine W_seq ?_
          refine W_region ?_
          refine T_idxR j (h2.mono (hl26.trans hl66)).2 rfl rfl rfl rfl rfl rfl rfl rfl rfl (by omega) (by omega) fun b74 o75 hc76 => ?_
          have hc77 := cells_h (h2.mono (hl26.trans hl66)).1 j (by omega) hc76
          have hl78 := len_h (h2.mono (hl26.trans hl66)).1 j (by omega)
          refine T_loadGA _ S71 hc77 rfl rfl rfl rfl rfl rfl rfl rfl (hVs hl78) ?_
          refine T_allocS S71 (fun _ _ => trivial) rfl rfl rfl rfl rfl rfl rfl fun b79 w80 S81 => ?_
          refine T_storeFS 0 S81 (fun _ _ => trivial) rfl rfl rfl rfl rfl rfl rfl rfl rfl (hVs hl78) (hVs hl78) (one_hA _) fun w82 S83 => ?_
          refine T_nil ?_
          refine W_region ?_
          refine T_pev rfl rfl rfl rfl ?_
          obtain ⟨G85, hl86, S84, r87⟩ := S83.stillBlk 0 rfl
          refine T_sliceAll rfl rfl rfl rfl rfl rfl rfl rfl ?_
          have r88 := Rd.of_blk (m := 32) (size := 1) (xs := (p.getD j []).map bV) r87 (hcell1 _) (by rw [List.length_map, hl78])
          have hD89 : (Go.Au.flatTo (Go.Au.packT sh sl v p 1) p j ++ p.getD j []) = Go.Au.flatTo (Go.Au.packT sh sl v p 1) p (j + 1) := rfl
          have hfl : (Go.Au.flatTo (Go.Au.packT sh sl v p 1) p (j + 1)).length = (Go.Au.flatTo (Go.Au.packT sh sl v p 1) p j).length + (p.getD j []).length := List.length_append
          refine T_appendS 1 ((Go.Au.flatTo (Go.Au.packT sh sl v p 1) p (j + 1)).length) ((Go.Au.flatTo (Go.Au.packT sh sl v p 1) p (j + 1)).map bV) S84 (fun _ _ => trivial) rfl rfl rfl rfl rfl rfl rfl rfl rfl rfl rfl rfl rfl rfl (r88.mono S84.le) (one_bV _) (by first | rfl | (simp; done) | (simp; omega) | omega) (by rw [← hD89]; simp) (by unfold maxLen; have hfb := Go.Au.flatT_bd (Go.Au.packT_bd (h := sh) (l := sl) hbv hbp h1.1 h2.1 1) (show p.length ≤ 100 by omega) h2.1 (show j + 1 ≤ p.length by omega); omega) (by show _ * 1 ≤ _; have hfb := Go.Au.flatT_bd (Go.Au.packT_bd (h := sh) (l := sl) hbv hbp h1.1 h2.1 1) (show p.length ≤ 100 by omega) h2.1 (show j + 1 ≤ p.length by omega); omega) fun a90 c91 w92 hc93 S94 => ?_
          refine T_pev rfl rfl rfl rfl ?_
          refine T_nil ?_
          refine W_region ?_
          refine T_ari rfl rfl rfl rfl (by omega) ?_
          refine T_pev rfl rfl rfl rfl ?_
          refine T_nil ?_
          exact ⟨p.length - (j + 1), [(3, .slice a90 ((Go.Au.flatTo (Go.Au.packT sh sl v p 1) p (j + 1)).length) c91), (19, .agg #[.slice a1 v.length c1, .slice a2 p.length c2]), (20, .int .i64 (1 : Int)), (23, .slice a2 p.length c2), (24, .int .i64 ((p.length : Nat) : Int)), (25, .int .i64 ((j + 1 : Nat) : Int))], by omega, ⟨rfl, rfl, (congrArg (fun z => some (Value.int .i64 z)) (by omega)), rfl, (congrArg (fun z => some (Value.int .i64 z)) (by omega)), (congrArg (fun z => some (Value.int .i64 z)) (by omega)), trivial⟩, j + 1, a90, c91, G85, rfl, (by omega), rfl, (hl66.trans hl86), S94, hc93⟩
        refine W_exit ?_
        refine W_region ?_
        refine T_ari rfl rfl rfl rfl (by omega) ?_
        refine T_pev rfl rfl rfl rfl ?_
        refine T_nil ?_
        obtain rfl : j = p.length := by omega
        have hD95 : Go.Au.flatTo (Go.Au.packT sh sl v p 1) p p.length = Go.Au.packT sh sl v p (1 + 1) := (Go.Au.flatTo_all _ _).trans rfl
        rw [hD95] at S71 hc69 ⊢
        exact ⟨2 - (1 + 1), [(3, .slice a67 (Go.Au.packT sh sl v p (1 + 1)).length c68), (19, .agg #[.slice a1 v.length c1, .slice a2 p.length c2]), (20, .int .i64 ((1 + 1 : Nat) : Int))], by omega, ⟨rfl, rfl, (congrArg (fun z => some (Value.int .i64 z)) (by omega)), trivial⟩, 1 + 1, a67, c68, G65, rfl, (by omega), rfl, (hl26.trans hl66), S71, hc69⟩
    refine W_exit ?_
    refine W_seq ?_
    refine W_region ?_
    refine T_pev rfl rfl rfl rfl ?_
    refine T_pev rfl rfl rfl rfl ?_
    refine T_nil ?_
    refine W_ret ?_
    refine ⟨_, ⟨_, _, rfl, rfl, rfl⟩, ?_⟩
    obtain rfl : k = 2 := by omega
    exact ⟨_, _, hc29, rfl, S31.row 1 rfl, S31.below⟩
  refine T_loadS 0 1 S4 rfl rfl rfl rfl rfl rfl rfl rfl rfl rfl ?_
  refine T_nil ?_
  refine TT_step rfl ?_
  refine T_callS rfl rfl g_aumbry_code_Put rfl rfl rfl rfl ((putN_ok S4.le sh 1 (by omega) (by omega)).mono ?_)
  rintro e w101 ⟨a96, c97, hc98, rfl, ho99, hB100⟩
  have S102 := S4.own hB100 ho99
  refine ⟨_, rfl, trivial, ?_⟩
  refine T_nil ?_
  refine TT_step rfl ?_
  refine T_callS rfl rfl g_aumbry_code_Put rfl rfl rfl rfl ((putN_ok S102.le sl 2 (by omega) (by omega)).mono ?_)
  rintro e w108 ⟨a103, c104, hc105, rfl, ho106, hB107⟩
  have S109 := S102.own hB107 ho106
  refine ⟨_, rfl, trivial, ?_⟩
  refine T_nil ?_
  refine TT_step rfl ?_
  have hD110 : (Go.Sha.put (max 0 sh).toNat 1 ++ Go.Sha.put (max 0 sl).toNat 2) = Go.Au.packT sh sl v p 0 := rfl
  refine T_appendS 1 ((Go.Au.packT sh sl v p 0).length) ((Go.Au.packT sh sl v p 0).map bV) S109 (fun _ _ => trivial) rfl rfl rfl rfl rfl rfl rfl rfl rfl rfl rfl rfl rfl rfl (S109.rd 0 rfl) (one_bV _) (by rw [← hD110]; first | rfl | (simp; done) | (simp; omega) | omega) (by rw [← hD110]; simp) (by unfold maxLen; omega) (by show _ * 1 ≤ _; omega) fun a111 c112 w113 hc114 S115 => ?_
  refine T_nil ?_
  refine TT_step rfl ?_
  refine T_pev rfl rfl rfl rfl ?_
  refine T_nil ?_
  refine TT_done ?_
  refine W_seq ?_
  refine W_seq ?_
  refine W_region ?_
  refine T_fldm 2 rfl rfl rfl rfl rfl rfl (by decide) rfl rfl rfl ?_
  refine T_loadS 2 2 S115 rfl rfl rfl rfl rfl rfl rfl rfl rfl rfl ?_
  refine T_fldm 3 rfl rfl rfl rfl rfl rfl (by decide) rfl rfl rfl ?_
  refine T_loadS 2 3 S115 rfl rfl rfl rfl rfl rfl rfl rfl rfl rfl ?_
  refine T_buildA (cells := #[.slice a1 v.length c1, .slice a2 p.length c2]) rfl rfl rfl rfl rfl rfl rfl rfl rfl rfl ?_
  refine T_pev rfl rfl rfl rfl ?_
  refine T_nil ?_
  refine W_block ?_
  refine W_loop (fun M ρ w' => ∃ (k : Nat) (a118 : Option Addr) (c119 : Nat) (G116 : Hp), M = 2 - k ∧ k ≤ 2 ∧ ρ = [(3, .slice a118 ((Go.Au.packT sh sl v p k).length) c119), (19, .agg #[.slice a1 v.length c1, .slice a2 p.length c2]), (20, .int .i64 (k : Int))] ∧ H.le G116 ∧ St w H G116 [.row 5 1 (.slice a103 ((Go.Sha.put (max 0 sl).toNat 2).length) c104) ((Go.Sha.put (max 0 sl).toNat 2).length) ((Go.Sha.put (max 0 sl).toNat 2).map bV), .row 5 1 (.slice a118 ((Go.Au.packT sh sl v p k).length) c119) ((Go.Au.packT sh sl v p k).length) ((Go.Au.packT sh sl v p k).map bV), .blk b1 (.agg #[.int .i64 sh, .int .i64 sl, .slice a1 v.length c1, .slice a2 p.length c2] : Value).cells 65] w' ∧ (Go.Au.packT sh sl v p k).length ≤ c119)
    (2 - 0) [(3, .slice a111 ((Go.Au.packT sh sl v p 0).length) c112), (19, .agg #[.slice a1 v.length c1, .slice a2 p.length c2]), (20, .int .i64 ((0 : Nat) : Int))] ⟨rfl, rfl, (congrArg (fun z => some (Value.int .i64 z)) (by omega)), trivial⟩ ⟨0, a111, c112, H, rfl, (by omega), rfl, Hp.le.refl _, S115, hc114⟩ ?_
  rintro M ρ w121 ⟨k, a118, c119, G116, rfl, hp123, rfl, hl117, S122, hc120⟩
  refine W_seq ?_
  refine W_region ?_
  refine T_pev rfl rfl rfl rfl ?_
  refine T_nil ?_
  refine W_seq ?_
  refine W_cond_dec rfl (fun h124 => ?_) (fun h124 => ?_)
  · refine W_skip ?_
    refine W_seq ?_
    refine W_block ?_
    refine W_seq ?_
    rcases (show k = 0 ∨ k = 1 by omega) with rfl | rfl
    · refine W_region ?_
      refine T_index1 (v := .slice a1 v.length c1) rfl rfl rfl rfl rfl rfl rfl rfl rfl rfl (by omega) rfl ?_
      refine T_pev rfl rfl rfl rfl ?_
      refine T_nil ?_
      refine W_seq ?_
      refine W_region ?_
      refine T_pev rfl rfl rfl rfl ?_
      refine T_pev rfl rfl rfl rfl ?_
      refine T_pev rfl rfl rfl rfl ?_
      refine T_nil ?_
      refine W_block ?_
      refine W_loop (fun M ρ w' => ∃ (j : Nat) (a127 : Option Addr) (c128 : Nat) (G125 : Hp), M = v.length - j ∧ j ≤ v.length ∧ ρ = [(3, .slice a127 ((Go.Au.flatTo (Go.Au.packT sh sl v p 0) v j).length) c128), (19, .agg #[.slice a1 v.length c1, .slice a2 p.length c2]), (20, .int .i64 (0 : Int)), (23, .slice a1 v.length c1), (24, .int .i64 ((v.length : Nat) : Int)), (25, .int .i64 (j : Int))] ∧ G116.le G125 ∧ St w H G125 [.row 5 1 (.slice a103 ((Go.Sha.put (max 0 sl).toNat 2).length) c104) ((Go.Sha.put (max 0 sl).toNat 2).length) ((Go.Sha.put (max 0 sl).toNat 2).map bV), .row 5 1 (.slice a127 ((Go.Au.flatTo (Go.Au.packT sh sl v p 0) v j).length) c128) ((Go.Au.flatTo (Go.Au.packT sh sl v p 0) v j).length) ((Go.Au.flatTo (Go.Au.packT sh sl v p 0) v j).map bV), .blk b1 (.agg #[.int .i64 sh, .int .i64 sl, .slice a1 v.length c1, .slice a2 p.length c2] : Value).cells 65] w' ∧ (Go.Au.flatTo (Go.Au.packT sh sl v p 0) v j).length ≤ c128)
        (v.length - 0) [(3, .slice a118 ((Go.Au.packT sh sl v p 0).length) c119), (19, .agg #[.slice a1 v.length c1, .slice a2 p.length c2]), (20, .int .i64 (0 : Int)), (23, .slice a1 v.length c1), (24, .int .i64 ((v.length : Nat) : Int)), (25, .int .i64 ((0 : Nat) : Int))] ⟨rfl, rfl, (congrArg (fun z => some (Value.int .i64 z)) (by omega)), rfl, (congrArg (fun z => some (Value.int .i64 z)) (by omega)), (congrArg (fun z => some (Value.int .i64 z)) (by omega)), trivial⟩ ⟨0, a118, c119, G116, rfl, (by omega), rfl, Hp.le.refl _, S122, hc120⟩ ?_
      rintro M ρ w130 ⟨j, a127, c128, G125, rfl, hp132, rfl, hl126, S131, hc129⟩
      refine W_seq ?_
      refine W_region ?_
      refine T_pev rfl rfl rfl rfl ?_
      refine T_nil ?_
      refine W_seq ?_
      refine W_cond_dec rfl (fun h133 => ?_) (fun h133 => ?_)
      · refine W_skip ?_
        refine W_seq ?_
        refine W_block ?_
        refine W_seq ?_
        refine W_region ?_
        refine T_idxR j (h1.mono (hl117.trans hl126)).2 rfl rfl rfl rfl rfl rfl rfl rfl rfl (by omega) (by omega) fun b134 o135 hc136 => ?_
        have hc137 := cells_h (h1.mono (hl117.trans hl126)).1 j (by omega) hc136
        have hl138 := len_h (h1.mono (hl117.trans hl126)).1 j (by omega)
        refine T_loadGA _ S131 hc137 rfl rfl rfl rfl rfl rfl rfl rfl (hVs hl138) ?_
        refine T_allocS S131 (fun _ _ => trivial) rfl rfl rfl rfl rfl rfl rfl fun b139 w140 S141 => ?_
        refine T_storeFS 0 S141 (fun _ _ => trivial) rfl rfl rfl rfl rfl rfl rfl rfl rfl (hVs hl138) (hVs hl138) (one_hA _) fun w142 S143 => ?_
        refine T_nil ?_
        refine W_region ?_
        refine T_pev rfl rfl rfl rfl ?_
        obtain ⟨G145, hl146, S144, r147⟩ := S143.stillBlk 0 rfl
        refine T_sliceAll rfl rfl rfl rfl rfl rfl rfl rfl ?_
        have r148 := Rd.of_blk (m := 32) (size := 1) (xs := (v.getD j []).map bV) r147 (hcell1 _) (by rw [List.length_map, hl138])
        have hD149 : (Go.Au.flatTo (Go.Au.packT sh sl v p 0) v j ++ v.getD j []) = Go.Au.flatTo (Go.Au.packT sh sl v p 0) v (j + 1) := rfl
        have hfl : (Go.Au.flatTo (Go.Au.packT sh sl v p 0) v (j + 1)).length = (Go.Au.flatTo (Go.Au.packT sh sl v p 0) v j).length + (v.getD j []).length := List.length_append
        refine T_appendS 1 ((Go.Au.flatTo (Go.Au.packT sh sl v p 0) v (j + 1)).length) ((Go.Au.flatTo (Go.Au.packT sh sl v p 0) v (j + 1)).map bV) S144 (fun _ _ => trivial) rfl rfl rfl rfl rfl rfl rfl rfl rfl rfl rfl rfl rfl rfl (r148.mono S144.le) (one_bV _) (by first | rfl | (simp; done) | (simp; omega) | omega) (by rw [← hD149]; simp) (by unfold maxLen; have hfb := Go.Au.flatT_bd (Go.Au.packT_bd (h := sh) (l := sl) hbv hbp h1.1 h2.1 0) (show v.length ≤ 100 by omega) h1.1 (show j + 1 ≤ v.length by omega); omega) (by show _ * 1 ≤ _; have hfb := Go.Au.flatT_bd (Go.Au.packT_bd (h := sh) (l := sl) hbv hbp h1.1 h2.1 0) (show v.length ≤ 100 by omega) h1.1 (show j + 1 ≤ v.length by omega); omega) fun a150 c151 w152 hc153 S154 => ?_
        refine T_pev rfl rfl rfl rfl ?_
        refine T_nil ?_
        refine W_region ?_
        refine T_ari rfl rfl rfl rfl (by omega) ?_
        refine T_pev rfl rfl rfl rfl ?_
        refine T_nil ?_
        exact ⟨v.length - (j + 1), [(3, .slice a150 ((Go.Au.flatTo (Go.Au.packT sh sl v p 0) v (j + 1)).length) c151), (19, .agg #[.slice a1 v.length c1, .slice a2 p.length c2]), (20, .int .i64 (0 : Int)), (23, .slice a1 v.length c1), (24, .int .i64 ((v.length : Nat) : Int)), (25, .int .i64 ((j + 1 : Nat) : Int))], by omega, ⟨rfl, rfl, (congrArg (fun z => some (Value.int .i64 z)) (by omega)), rfl, (congrArg (fun z => some (Value.int .i64 z)) (by omega)), (congrArg (fun z => some (Value.int .i64 z)) (by omega)), trivial⟩, j + 1, a150, c151, G145, rfl, (by omega), rfl, (hl126.trans hl146), S154, hc153⟩
      refine W_exit ?_
      refine W_region ?_
      refine T_ari rfl rfl rfl rfl (by omega) ?_
      refine T_pev rfl rfl rfl rfl ?_
      refine T_nil ?_
      obtain rfl : j = v.length := by omega
      have hD155 : Go.Au.flatTo (Go.Au.packT sh sl v p 0) v v.length = Go.Au.packT sh sl v p (0 + 1) := (Go.Au.flatTo_all _ _).trans rfl
      rw [hD155] at S131 hc129 ⊢
      exact ⟨2 - (0 + 1), [(3, .slice a127 (Go.Au.packT sh sl v p (0 + 1)).length c128), (19, .agg #[.slice a1 v.length c1, .slice a2 p.length c2]), (20, .int .i64 ((0 + 1 : Nat) : Int))], by omega, ⟨rfl, rfl, (congrArg (fun z => some (Value.int .i64 z)) (by omega)), trivial⟩, 0 + 1, a127, c128, G125, rfl, (by omega), rfl, (hl117.trans hl126), S131, hc129⟩
    · refine W_region ?_
      refine T_index1 (v := .slice a2 p.length c2) rfl rfl rfl rfl rfl rfl rfl rfl rfl rfl (by omega) rfl ?_
      refine T_pev rfl rfl rfl rfl ?_
      refine T_nil ?_
      refine W_seq ?_
      refine W_region ?_
      refine T_pev rfl rfl rfl rfl ?_
      refine T_pev rfl rfl rfl rfl ?_
      refine T_pev rfl rfl rfl rfl ?_
      refine T_nil ?_
      refine W_block ?_
      refine W_loop (fun M ρ w' => ∃ (j : Nat) (a158 : Option Addr) (c159 : Nat) (G156 : Hp), M = p.length - j ∧ j ≤ p.length ∧ ρ = [(3, .slice a158 ((Go.Au.flatTo (Go.Au.packT sh sl v p 1) p j).length) c159), (19, .agg #[.slice a1 v.length c1, .slice a2 p.length c2]), (20, .int .i64 (1 : Int)), (23, .slice a2 p.length c2), (24, .int .i64 ((p.length : Nat) : Int)), (25, .int .i64 (j : Int))] ∧ G116.le G156 ∧ St w H G156 [.row 5 1 (.slice a103 ((Go.Sha.put (max 0 sl).toNat 2).length) c104) ((Go.Sha.put (max 0 sl).toNat 2).length) ((Go.Sha.put (max 0 sl).toNat 2).map bV), .row 5 1 (.slice a158 ((Go.Au.flatTo (Go.Au.packT sh sl v p 1) p j).length) c159) ((Go.Au.flatTo (Go.Au.packT sh sl v p 1) p j).length) ((Go.Au.flatTo (Go.Au.packT sh sl v p 1) p j).map bV), .blk b1 (.agg #[.int .i64 sh, .int .i64 sl, .slice a1 v.length c1, .slice a2 p.length c2] : Value).cells 65] w' ∧ (Go.Au.flatTo (Go.Au.packT sh sl v p 1) p j).length ≤ c159)
        (p.length - 0) [(3, .slice a118 ((Go.Au.packT sh sl v p 1).length) c119), (19, .agg #[.slice a1 v.length c1, .slice a2 p.length c2]), (20, .int .i64 (1 : Int)), (23, .slice a2 p.length c2), (24, .int .i64 ((p.length : Nat) : Int)), (25, .int .i64 ((0 : Nat) : Int))] ⟨rfl, rfl, (congrArg (fun z => some (Value.int .i64 z)) (by omega)), rfl, (congrArg (fun z => some (Value.int .i64 z)) (by omega)), (congrArg (fun z => some (Value.int .i64 z)) (by omega)), trivial⟩ ⟨0, a118, c119, G116, rfl, (by omega), rfl, Hp.le.refl _, S122, hc120⟩ ?_
      rintro M ρ w161 ⟨j, a158, c159, G156, rfl, hp163, rfl, hl157, S162, hc160⟩
      refine W_seq ?_
      refine W_region ?_
      refine T_pev rfl rfl rfl rfl ?_
      refine T_nil ?_
      refine W_seq ?_
      refine W_cond_dec rfl (fun h164 => ?_) (fun h164 => ?_)
      · refine W_skip ?_
        refine W_seq ?_
        refine W_block ?_
        refine W_seq ?_
        refine W_region ?_
        refine T_idxR j (h2.mono (hl117.trans hl157)).2 rfl rfl rfl rfl rfl rfl rfl rfl rfl (by omega) (by omega) fun b165 o166 hc167 => ?_
        have hc168 := cells_h (h2.mono (hl117.trans hl157)).1 j (by omega) hc167
        have hl169 := len_h (h2.mono (hl117.trans hl157)).1 j (by omega)
        refine T_loadGA _ S162 hc168 rfl rfl rfl rfl rfl rfl rfl rfl (hVs hl169) ?_
        refine T_allocS S162 (fun _ _ => trivial) rfl rfl rfl rfl rfl rfl rfl fun b170 w171 S172 => ?_
        refine T_storeFS 0 S172 (fun _ _ => trivial) rfl rfl rfl rfl rfl rfl rfl rfl rfl (hVs hl169) (hVs hl169) (one_hA _) fun w173 S174 => ?_
        refine T_nil ?_
        refine W_region ?_
        refine T_pev rfl rfl rfl rfl ?_
        obtain ⟨G176, hl177, S175, r178⟩ := S174.stillBlk 0 rfl
        refine T_sliceAll rfl rfl rfl rfl rfl rfl rfl rfl ?_
        have r179 := Rd.of_blk (m := 32) (size := 1) (xs := (p.getD j []).map bV) r178 (hcell1 _) (by rw [List.length_map, hl169])
        have hD180 : (Go.Au.flatTo (Go.Au.packT sh sl v p 1) p j ++ p.getD j []) = Go.Au.flatTo (Go.Au.packT sh sl v p 1) p (j + 1) := rfl
        have hfl : (Go.Au.flatTo (Go.Au.packT sh sl v p 1) p (j + 1)).length = (Go.Au.flatTo (Go.Au.packT sh sl v p 1) p j).length + (p.getD j []).length := List.length_append
        refine T_appendS 1 ((Go.Au.flatTo (Go.Au.packT sh sl v p 1) p (j + 1)).length) ((Go.Au.flatTo (Go.Au.packT sh sl v p 1) p (j + 1)).map bV) S175 (fun _ _ => trivial) rfl rfl rfl rfl rfl rfl rfl rfl rfl rfl rfl rfl rfl rfl (r179.mono S175.le) (one_bV _) (by first | rfl | (simp; done) | (simp; omega) | omega) (by rw [← hD180]; simp) (by unfold maxLen; have hfb := Go.Au.flatT_bd (Go.Au.packT_bd (h := sh) (l := sl) hbv hbp h1.1 h2.1 1) (show p.length ≤ 100 by omega) h2.1 (show j + 1 ≤ p.length by omega); omega) (by show _ * 1 ≤ _; have hfb := Go.Au.flatT_bd (Go.Au.packT_bd (h := sh) (l := sl) hbv hbp h1.1 h2.1 1) (show p.length ≤ 100 by omega) h2.1 (show j + 1 ≤ p.length by omega); omega) fun a181 c182 w183 hc184 S185 => ?_
        refine T_pev rfl rfl rfl rfl ?_
        refine T_nil ?_
        refine W_region ?_
        refine T_ari rfl rfl rfl rfl (by omega) ?_
        refine T_pev rfl rfl rfl rfl ?_
        refine T_nil ?_
        exact ⟨p.length - (j + 1), [(3, .slice a181 ((Go.Au.flatTo (Go.Au.packT sh sl v p 1) p (j + 1)).length) c182), (19, .agg #[.slice a1 v.length c1, .slice a2 p.length c2]), (20, .int .i64 (1 : Int)), (23, .slice a2 p.length c2), (24, .int .i64 ((p.length : Nat) : Int)), (25, .int .i64 ((j + 1 : Nat) : Int))], by omega, ⟨rfl, rfl, (congrArg (fun z => some (Value.int .i64 z)) (by omega)), rfl, (congrArg (fun z => some (Value.int .i64 z)) (by omega)), (congrArg (fun z => some (Value.int .i64 z)) (by omega)), trivial⟩, j + 1, a181, c182, G176, rfl, (by omega), rfl, (hl157.trans hl177), S185, hc184⟩
      refine W_exit ?_
      refine W_region ?_
      refine T_ari rfl rfl rfl rfl (by omega) ?_
      refine T_pev rfl rfl rfl rfl ?_
      refine T_nil ?_
      obtain rfl : j = p.length := by omega
      have hD186 : Go.Au.flatTo (Go.Au.packT sh sl v p 1) p p.length = Go.Au.packT sh sl v p (1 + 1) := (Go.Au.flatTo_all _ _).trans rfl
      rw [hD186] at S162 hc160 ⊢
      exact ⟨2 - (1 + 1), [(3, .slice a158 (Go.Au.packT sh sl v p (1 + 1)).length c159), (19, .agg #[.slice a1 v.length c1, .slice a2 p.length c2]), (20, .int .i64 ((1 + 1 : Nat) : Int))], by omega, ⟨rfl, rfl, (congrArg (fun z => some (Value.int .i64 z)) (by omega)), trivial⟩, 1 + 1, a158, c159, G156, rfl, (by omega), rfl, (hl117.trans hl157), S162, hc160⟩
  refine W_exit ?_
  refine W_seq ?_
  refine W_region ?_
  refine T_pev rfl rfl rfl rfl ?_
  refine T_pev rfl rfl rfl rfl ?_
  refine T_nil ?_
  refine W_ret ?_
  refine ⟨_, ⟨_, _, rfl, rfl, rfl⟩, ?_⟩
  obtain rfl : k = 2 := by omega
  exact ⟨_, _, hc120, rfl, S122.row 1 rfl, S122.below⟩

theorem MhTo_put {D : List UInt8} {k : Nat} : (hV (Go.Au.hTo D k)).cells.setIfInBounds k (bV (D.getD k 0)) = (hV (Go.Au.hTo D (k + 1))).cells := by
  show ((Go.Au.hTo D k).map bV).toArray.setIfInBounds k (bV (D.getD k 0)) = (((Go.Au.hTo D k).set k (D.getD k 0)).map bV).toArray
  apply Array.toList_inj.1
  rw [Array.toList_setIfInBounds, List.map_set]
theorem MhashesR_ok {H : Hp} {w : World} (hH : H.le (hw w)) {l : List (List UInt8)} {aa0 : Option Addr} {nn0 cc0 : Nat} (hv : RdH H (.slice aa0 nn0 cc0) 32 l) (hb : l.length ≤ 100) :
    Calls Tryd.prog 64 #[.slice aa0 nn0 cc0] w fun e w' => ∃ a c, (Go.Au.flatTo [] l l.length).length ≤ c ∧ e = .returned (.slice a (Go.Au.flatTo [] l l.length).length c) ∧ rowZ w' w.heap.size 5 1 (.slice a (Go.Au.flatTo [] l l.length).length c) (Go.Au.flatTo [] l l.length).length ((Go.Au.flatTo [] l l.length).map bV) ∧ Below w.heap.size w w' := by
  obtain rfl : nn0 = l.length := hv.len
  have hvcap : l.length ≤ cc0 := hv.2.capOf
  refine enter1 _ Tryd.func64 rfl Tryd.ntmps64 Tryd.results64 rfl ?_
  have S0 := St.start w hH
  refine W_seq ?_
  refine W_region ?_
  refine T_pev rfl rfl rfl rfl ?_
  refine T_nil ?_
  refine W_seq ?_
  refine W_region ?_
  refine T_pev rfl rfl rfl rfl ?_
  refine T_nil ?_
  refine W_seq ?_
  refine W_seq ?_
  refine W_region ?_
  refine T_pev rfl rfl rfl rfl ?_
  refine T_pev rfl rfl rfl rfl ?_
  refine T_pev rfl rfl rfl rfl ?_
  refine T_nil ?_
  refine W_block ?_
  have S1 := S0.nilRow 5 1
  refine W_loop (fun M ρ w' => ∃ (k : Nat) (a4 : Option Addr) (c5 : Nat) (G2 : Hp), M = l.length - k ∧ k ≤ l.length ∧ ρ = [(0, .slice aa0 l.length cc0), (3, .slice a4 ((Go.Au.flatTo [] l k).length) c5), (6, .int .i64 ((l.length : Nat) : Int)), (7, .int .i64 (k : Int))] ∧ H.le G2 ∧ St w H G2 [.row 5 1 (.slice a4 ((Go.Au.flatTo [] l k).length) c5) ((Go.Au.flatTo [] l k).length) ((Go.Au.flatTo [] l k).map bV)] w' ∧ (Go.Au.flatTo [] l k).length ≤ c5)
    (l.length - 0) [(0, .slice aa0 l.length cc0), (3, .slice none 0 0), (6, .int .i64 ((l.length : Nat) : Int)), (7, .int .i64 ((0 : Nat) : Int))] ⟨rfl, rfl, (congrArg (fun z => some (Value.int .i64 z)) (by omega)), (congrArg (fun z => some (Value.int .i64 z)) (by omega)), trivial⟩ ⟨0, none, 0, H, rfl, (by omega), rfl, Hp.le.refl _, S1, (Nat.le_refl _)⟩ ?_
  rintro M ρ w7 ⟨k, a4, c5, G2, rfl, hp9, rfl, hl3, S8, hc6⟩
  refine W_seq ?_
  refine W_region ?_
  refine T_pev rfl rfl rfl rfl ?_
  refine T_nil ?_
  refine W_seq ?_
  refine W_cond_dec rfl (fun h10 => ?_) (fun h10 => ?_)
  · refine W_skip ?_
    refine W_seq ?_
    refine W_block ?_
    refine W_seq ?_
    refine W_region ?_
    refine T_pev rfl rfl rfl rfl ?_
    refine T_pev rfl rfl rfl rfl ?_
    refine T_nil ?_
    refine W_region ?_
    refine T_pev rfl rfl rfl rfl ?_
    refine T_pev rfl rfl rfl rfl ?_
    refine T_pev rfl rfl rfl rfl ?_
    refine T_idxR k (hv.mono hl3).2 rfl rfl rfl rfl rfl rfl rfl rfl rfl (by omega) (by omega) fun b11 o12 hc13 => ?_
    have hc14 := cells_h (hv.mono hl3).1 k (by omega) hc13
    have hl15 := len_h (hv.mono hl3).1 k (by omega)
    refine T_sliceAll rfl rfl rfl rfl rfl rfl rfl rfl ?_
    have r16 := (Rd.of_cells (m := 32) (size := 1) (xs := (l.getD k []).map bV) (cells_bV hc14) (by rw [List.length_map, hl15]))
    have hD17 : (Go.Au.flatTo [] l k ++ l.getD k []) = Go.Au.flatTo [] l (k + 1) := rfl
    have hfl : (Go.Au.flatTo [] l (k + 1)).length = (Go.Au.flatTo [] l k).length + (l.getD k []).length := List.length_append
    refine T_appendS 0 ((Go.Au.flatTo [] l (k + 1)).length) ((Go.Au.flatTo [] l (k + 1)).map bV) S8 (fun _ _ => trivial) rfl rfl rfl rfl rfl rfl rfl rfl rfl rfl rfl rfl rfl rfl (r16.mono S8.le) (one_bV _) (by first | rfl | (simp; done) | (simp; omega) | omega) (by rw [← hD17]; simp) (by unfold maxLen; have hfb := Go.Au.flatT_bd (b := []) (q := l) (Nat.zero_le _) hb hv.1 (show k + 1 ≤ l.length by omega); omega) (by show _ * 1 ≤ _; have hfb := Go.Au.flatT_bd (b := []) (q := l) (Nat.zero_le _) hb hv.1 (show k + 1 ≤ l.length by omega); omega) fun a18 c19 w20 hc21 S22 => ?_
    refine T_pev rfl rfl rfl rfl ?_
    refine T_nil ?_
    refine W_region ?_
    refine T_ari rfl rfl rfl rfl (by omega) ?_
    refine T_pev rfl rfl rfl rfl ?_
    refine T_nil ?_
    exact ⟨l.length - (k + 1), [(0, .slice aa0 l.length cc0), (3, .slice a18 ((Go.Au.flatTo [] l (k + 1)).length) c19), (6, .int .i64 ((l.length : Nat) : Int)), (7, .int .i64 ((k + 1 : Nat) : Int))], by omega, ⟨rfl, rfl, (congrArg (fun z => some (Value.int .i64 z)) (by omega)), (congrArg (fun z => some (Value.int .i64 z)) (by omega)), trivial⟩, k + 1, a18, c19, G2, rfl, (by omega), rfl, hl3, S22, hc21⟩
  refine W_exit ?_
  refine W_seq ?_
  refine W_region ?_
  refine T_pev rfl rfl rfl rfl ?_
  refine T_pev rfl rfl rfl rfl ?_
  refine T_nil ?_
  refine W_ret ?_
  refine ⟨_, ⟨_, _, rfl, rfl, rfl⟩, ?_⟩
  obtain rfl : k = l.length := by omega
  exact ⟨_, _, hc6, rfl, S8.row 0 rfl, S8.below⟩


theorem packR_ok {H : Hp} {w : World} (hH : H.le (hw w)) (sh sl : Int) {v p : List (List UInt8)} {a1 a2 : Option Addr} {n1 n2 c1 c2 : Nat} (h1 : RdH H (.slice a1 n1 c1) 32 v) (h2 : RdH H (.slice a2 n2 c2) 32 p) (hbv : v.length ≤ 100) (hbp : p.length ≤ 100) (hsh : sh ≤ 9223372036854775807) (hsl : sl ≤ 9223372036854775807) :
    Calls Tryd.prog 72 #[.agg #[.int .i64 sh, .int .i64 sl, .slice a1 n1 c1, .slice a2 n2 c2]] w fun e w' => ∃ a c, (Go.Au.pack sh sl v p).length ≤ c ∧ e = .returned (.slice a (Go.Au.pack sh sl v p).length c) ∧ rowZ w' w.heap.size 5 1 (.slice a (Go.Au.pack sh sl v p).length c) (Go.Au.pack sh sl v p).length ((Go.Au.pack sh sl v p).map bV) ∧ Below w.heap.size w w' := by
  obtain rfl : n1 = v.length := h1.len
  obtain rfl : n2 = p.length := h2.len
  have hpb0 := Go.Au.packT_bd (h := sh) (l := sl) hbv hbp h1.1 h2.1 0
  have hpb1 := Go.Au.packT_bd (h := sh) (l := sl) hbv hbp h1.1 h2.1 1
  have hpb2 := Go.Au.packT_bd (h := sh) (l := sl) hbv hbp h1.1 h2.1 2
  refine enter1 _ Tryd.func72 rfl Tryd.ntmps72 Tryd.results72 rfl ?_
  have S0 := St.start w hH
  refine W_seq ?_
  refine W_region ?_
  refine T_boxS S0 (fun _ _ => trivial) rfl rfl rfl rfl rfl rfl fun b1 w2 S3 => ?_
  refine T_pev rfl rfl rfl rfl ?_
  refine T_nil ?_
  refine W_seq ?_
  refine W_tree (plan Tryd.prog) (.step 0 (.step 1 (.step 3 (.fork 2 4 (.step 4 (.step 5 (.step 6 (.step 7 .done)))) (.step 2 (.step 5 (.step 6 (.step 7 .done)))))))) rfl (by kernel_rfl) trivial ?_
  have S4 := S3.drew
  refine TT_step rfl ?_
  refine T_fldm 0 rfl rfl rfl rfl rfl rfl (by decide) rfl rfl rfl ?_
  refine T_nil ?_
  refine TT_step rfl ?_
  refine T_loadS 0 0 S4 rfl rfl rfl rfl rfl rfl rfl rfl rfl rfl ?_
  refine T_nil ?_
  refine TT_step rfl ?_
  refine T_fldm 1 rfl rfl rfl rfl rfl rfl (by decide) rfl rfl rfl ?_
  refine T_nil ?_
  refine TT_fork rfl rfl ?_ ?_
  · refine T_callS rfl rfl g_aumbry_aumbryref01_Put rfl rfl rfl rfl ((putR_ok S4.le sh 1 (by omega) (by omega)).mono ?_)
    rintro e w10 ⟨a5, c6, hc7, rfl, ho8, hB9⟩
    have S11 := S4.own hB9 ho8
    refine ⟨_, rfl, trivial, ?_⟩
    refine T_nil ?_
    refine TT_step rfl ?_
    refine T_loadS 1 1 S11 rfl rfl rfl rfl rfl rfl rfl rfl rfl rfl ?_
    refine T_nil ?_
    refine TT_step rfl ?_
    refine T_callS rfl rfl g_aumbry_aumbryref01_Put rfl rfl rfl rfl ((putR_ok S11.le sl 2 (by omega) (by omega)).mono ?_)
    rintro e w17 ⟨a12, c13, hc14, rfl, ho15, hB16⟩
    have S18 := S11.own hB16 ho15
    refine ⟨_, rfl, trivial, ?_⟩
    refine T_nil ?_
    refine TT_step rfl ?_
    have hD19 : (Go.Sha.put (max 0 sh).toNat 1 ++ Go.Sha.put (max 0 sl).toNat 2) = Go.Au.packT sh sl v p 0 := rfl
    refine T_appendS 1 ((Go.Au.packT sh sl v p 0).length) ((Go.Au.packT sh sl v p 0).map bV) S18 (fun _ _ => trivial) rfl rfl rfl rfl rfl rfl rfl rfl rfl rfl rfl rfl rfl rfl (S18.rd 0 rfl) (one_bV _) (by rw [← hD19]; first | rfl | (simp; done) | (simp; omega) | omega) (by rw [← hD19]; simp) (by unfold maxLen; omega) (by show _ * 1 ≤ _; omega) fun a20 c21 w22 hc23 S24 => ?_
    refine T_nil ?_
    refine TT_step rfl ?_
    refine T_pev rfl rfl rfl rfl ?_
    refine T_nil ?_
    refine TT_done ?_
    refine W_seq ?_
    refine W_region ?_
    refine T_pev rfl rfl rfl rfl ?_
    refine T_fldm 2 rfl rfl rfl rfl rfl rfl (by decide) rfl rfl rfl ?_
    refine T_loadS 2 2 S24 rfl rfl rfl rfl rfl rfl rfl rfl rfl rfl ?_
    refine T_callS rfl rfl g_aumbry_aumbryref07_Hashes rfl rfl rfl rfl ((MhashesR_ok S24.le h1 (by omega)).mono ?_)
    rintro e w30 ⟨a25, c26, hc27, rfl, ho28, hB29⟩
    have S31 := S24.own hB29 ho28
    refine ⟨_, rfl, trivial, ?_⟩
    have hD32 : (Go.Au.packT sh sl v p 0 ++ Go.Au.flatTo [] v v.length) = Go.Au.packT sh sl v p 1 := (by rw [Go.Au.flatTo_all, List.nil_append]; rfl)
    refine T_appendS 2 ((Go.Au.packT sh sl v p 1).length) ((Go.Au.packT sh sl v p 1).map bV) S31 (fun _ _ => trivial) rfl rfl rfl rfl rfl rfl rfl rfl rfl rfl rfl rfl rfl rfl (S31.rd 0 rfl) (one_bV _) (by rw [← hD32]; first | rfl | (simp; done) | (simp; omega) | omega) (by rw [← hD32]; simp) (by unfold maxLen; omega) (by show _ * 1 ≤ _; omega) fun a33 c34 w35 hc36 S37 => ?_
    refine T_pev rfl rfl rfl rfl ?_
    refine T_nil ?_
    refine W_seq ?_
    refine W_region ?_
    refine T_pev rfl rfl rfl rfl ?_
    refine T_fldm 3 rfl rfl rfl rfl rfl rfl (by decide) rfl rfl rfl ?_
    refine T_loadS 3 3 S37 rfl rfl rfl rfl rfl rfl rfl rfl rfl rfl ?_
    refine T_callS rfl rfl g_aumbry_aumbryref07_Hashes rfl rfl rfl rfl ((MhashesR_ok S37.le h2 (by omega)).mono ?_)
    rintro e w43 ⟨a38, c39, hc40, rfl, ho41, hB42⟩
    have S44 := S37.own hB42 ho41
    refine ⟨_, rfl, trivial, ?_⟩
    have hD45 : (Go.Au.packT sh sl v p 1 ++ Go.Au.flatTo [] p p.length) = Go.Au.packT sh sl v p 2 := (by rw [Go.Au.flatTo_all, List.nil_append]; rfl)
    refine T_appendS 3 ((Go.Au.packT sh sl v p 2).length) ((Go.Au.packT sh sl v p 2).map bV) S44 (fun _ _ => trivial) rfl rfl rfl rfl rfl rfl rfl rfl rfl rfl rfl rfl rfl rfl (S44.rd 0 rfl) (one_bV _) (by rw [← hD45]; first | rfl | (simp; done) | (simp; omega) | omega) (by rw [← hD45]; simp) (by unfold maxLen; omega) (by show _ * 1 ≤ _; omega) fun a46 c47 w48 hc49 S50 => ?_
    refine T_pev rfl rfl rfl rfl ?_
    refine T_nil ?_
    refine W_ret ?_
    refine ⟨_, ⟨_, _, rfl, rfl, rfl⟩, ?_⟩
    exact ⟨_, _, hc49, rfl, S50.row 3 rfl, S50.below⟩
  refine T_loadS 0 1 S4 rfl rfl rfl rfl rfl rfl rfl rfl rfl rfl ?_
  refine T_nil ?_
  refine TT_step rfl ?_
  refine T_callS rfl rfl g_aumbry_aumbryref01_Put rfl rfl rfl rfl ((putR_ok S4.le sh 1 (by omega) (by omega)).mono ?_)
  rintro e w56 ⟨a51, c52, hc53, rfl, ho54, hB55⟩
  have S57 := S4.own hB55 ho54
  refine ⟨_, rfl, trivial, ?_⟩
  refine T_nil ?_
  refine TT_step rfl ?_
  refine T_callS rfl rfl g_aumbry_aumbryref01_Put rfl rfl rfl rfl ((putR_ok S57.le sl 2 (by omega) (by omega)).mono ?_)
  rintro e w63 ⟨a58, c59, hc60, rfl, ho61, hB62⟩
  have S64 := S57.own hB62 ho61
  refine ⟨_, rfl, trivial, ?_⟩
  refine T_nil ?_
  refine TT_step rfl ?_
  have hD65 : (Go.Sha.put (max 0 sh).toNat 1 ++ Go.Sha.put (max 0 sl).toNat 2) = Go.Au.packT sh sl v p 0 := rfl
  refine T_appendS 1 ((Go.Au.packT sh sl v p 0).length) ((Go.Au.packT sh sl v p 0).map bV) S64 (fun _ _ => trivial) rfl rfl rfl rfl rfl rfl rfl rfl rfl rfl rfl rfl rfl rfl (S64.rd 0 rfl) (one_bV _) (by rw [← hD65]; first | rfl | (simp; done) | (simp; omega) | omega) (by rw [← hD65]; simp) (by unfold maxLen; omega) (by show _ * 1 ≤ _; omega) fun a66 c67 w68 hc69 S70 => ?_
  refine T_nil ?_
  refine TT_step rfl ?_
  refine T_pev rfl rfl rfl rfl ?_
  refine T_nil ?_
  refine TT_done ?_
  refine W_seq ?_
  refine W_region ?_
  refine T_pev rfl rfl rfl rfl ?_
  refine T_fldm 2 rfl rfl rfl rfl rfl rfl (by decide) rfl rfl rfl ?_
  refine T_loadS 2 2 S70 rfl rfl rfl rfl rfl rfl rfl rfl rfl rfl ?_
  refine T_callS rfl rfl g_aumbry_aumbryref07_Hashes rfl rfl rfl rfl ((MhashesR_ok S70.le h1 (by omega)).mono ?_)
  rintro e w76 ⟨a71, c72, hc73, rfl, ho74, hB75⟩
  have S77 := S70.own hB75 ho74
  refine ⟨_, rfl, trivial, ?_⟩
  have hD78 : (Go.Au.packT sh sl v p 0 ++ Go.Au.flatTo [] v v.length) = Go.Au.packT sh sl v p 1 := (by rw [Go.Au.flatTo_all, List.nil_append]; rfl)
  refine T_appendS 2 ((Go.Au.packT sh sl v p 1).length) ((Go.Au.packT sh sl v p 1).map bV) S77 (fun _ _ => trivial) rfl rfl rfl rfl rfl rfl rfl rfl rfl rfl rfl rfl rfl rfl (S77.rd 0 rfl) (one_bV _) (by rw [← hD78]; first | rfl | (simp; done) | (simp; omega) | omega) (by rw [← hD78]; simp) (by unfold maxLen; omega) (by show _ * 1 ≤ _; omega) fun a79 c80 w81 hc82 S83 => ?_
  refine T_pev rfl rfl rfl rfl ?_
  refine T_nil ?_
  refine W_seq ?_
  refine W_region ?_
  refine T_pev rfl rfl rfl rfl ?_
  refine T_fldm 3 rfl rfl rfl rfl rfl rfl (by decide) rfl rfl rfl ?_
  refine T_loadS 3 3 S83 rfl rfl rfl rfl rfl rfl rfl rfl rfl rfl ?_
  refine T_callS rfl rfl g_aumbry_aumbryref07_Hashes rfl rfl rfl rfl ((MhashesR_ok S83.le h2 (by omega)).mono ?_)
  rintro e w89 ⟨a84, c85, hc86, rfl, ho87, hB88⟩
  have S90 := S83.own hB88 ho87
  refine ⟨_, rfl, trivial, ?_⟩
  have hD91 : (Go.Au.packT sh sl v p 1 ++ Go.Au.flatTo [] p p.length) = Go.Au.packT sh sl v p 2 := (by rw [Go.Au.flatTo_all, List.nil_append]; rfl)
  refine T_appendS 3 ((Go.Au.packT sh sl v p 2).length) ((Go.Au.packT sh sl v p 2).map bV) S90 (fun _ _ => trivial) rfl rfl rfl rfl rfl rfl rfl rfl rfl rfl rfl rfl rfl rfl (S90.rd 0 rfl) (one_bV _) (by rw [← hD91]; first | rfl | (simp; done) | (simp; omega) | omega) (by rw [← hD91]; simp) (by unfold maxLen; omega) (by show _ * 1 ≤ _; omega) fun a92 c93 w94 hc95 S96 => ?_
  refine T_pev rfl rfl rfl rfl ?_
  refine T_nil ?_
  refine W_ret ?_
  refine ⟨_, ⟨_, _, rfl, rfl, rfl⟩, ?_⟩
  exact ⟨_, _, hc95, rfl, S96.row 3 rfl, S96.below⟩


theorem takeHashes_ok {H : Hp} {w : World} (hH : H.le (hw w)) {b : List UInt8} {aa0 : Option Addr} {nn0 cc0 : Nat} (hv : Rd H (.slice aa0 nn0 cc0) nn0 1 (b.map bV)) (hb : b.length ≤ 100000) (h32 : b.length % 32 = 0) :
    Calls Tryd.prog 63 #[.slice aa0 nn0 cc0] w fun e w' => ∃ a c, (b.length / 32) ≤ c ∧ e = .returned (.tuple #[.slice a (b.length / 32) c, .bool true]) ∧ rowZ w' w.heap.size 23 32 (.slice a (b.length / 32) c) (b.length / 32) (hcells (Go.Au.chunks b (b.length / 32))) ∧ Below w.heap.size w w' := by
  obtain rfl : nn0 = b.length := hv.lenB
  have hvcap : b.length ≤ cc0 := hv.capOf
  refine enter1 _ Tryd.func63 rfl Tryd.ntmps63 Tryd.results63 rfl ?_
  have S0 := St.start w hH
  refine W_seq ?_
  refine W_region ?_
  refine T_pev rfl rfl rfl rfl ?_
  refine T_pev rfl rfl rfl rfl ?_
  refine T_nil ?_
  refine W_seq ?_
  refine W_seq ?_
  refine W_region ?_
  refine T_pev rfl rfl rfl rfl ?_
  refine T_pev rfl rfl rfl rfl ?_
  refine T_rem rfl rfl rfl rfl rfl rfl (by omega) ?_
  refine T_pev rfl rfl rfl rfl ?_
  refine T_nil ?_
  refine W_bool 11 false rfl (ndec_f (by omega)) ?_
  refine W_cond_false rfl ?_
  refine W_skip ?_
  refine W_seq ?_
  refine W_region ?_
  refine T_pev rfl rfl rfl rfl ?_
  refine T_nil ?_
  refine W_seq ?_
  refine W_seq ?_
  refine W_region ?_
  refine T_pev rfl rfl rfl rfl ?_
  refine T_nil ?_
  refine W_block ?_
  have S1 := S0.nilRow 23 32
  refine W_loop (fun M ρ w' => ∃ (k : Nat) (a4 : Option Addr) (c5 : Nat) (G2 : Hp), M = (b.length / 32) - k ∧ k ≤ (b.length / 32) ∧ ρ = [(0, .slice aa0 b.length cc0), (4, .slice a4 k c5), (5, .int .i64 ((32 * k : Nat) : Int))] ∧ H.le G2 ∧ St w H G2 [.row 23 32 (.slice a4 k c5) k (hcells (Go.Au.chunks b k))] w' ∧ (∀ y ∈ Go.Au.chunks b k, y.length = 32) ∧ k ≤ c5)
    ((b.length / 32) - 0) [(0, .slice aa0 b.length cc0), (4, .slice none 0 0), (5, .int .i64 ((32 * 0 : Nat) : Int))] ⟨rfl, rfl, (congrArg (fun z => some (Value.int .i64 z)) (by omega)), trivial⟩ ⟨0, none, 0, H, rfl, (by exact Nat.zero_le _), rfl, Hp.le.refl _, S1, (fun _ h => by cases h), (Nat.le_refl _)⟩ ?_
  rintro M ρ w8 ⟨k, a4, c5, G2, rfl, hp10, rfl, hl3, S9, hh7, hc6⟩
  refine W_seq ?_
  refine W_seq ?_
  refine W_region ?_
  refine T_pev rfl rfl rfl rfl ?_
  refine T_ari rfl rfl rfl rfl (by omega) ?_
  refine T_pev rfl rfl rfl rfl ?_
  refine T_pev rfl rfl rfl rfl ?_
  refine T_pev rfl rfl rfl rfl ?_
  refine T_nil ?_
  refine W_cond_dec rfl (fun h11 => ?_) (fun h11 => ?_)
  · refine W_skip ?_
    refine W_seq ?_
    refine W_block ?_
    refine W_seq ?_
    refine W_region ?_
    refine T_allocS S9 (fun _ _ => trivial) rfl rfl rfl rfl rfl rfl rfl fun b12 w13 S14 => ?_
    refine T_nil ?_
    refine W_seq ?_
    refine W_seq ?_
    refine W_region ?_
    refine T_pev rfl rfl rfl rfl ?_
    refine T_nil ?_
    refine W_block ?_
    refine W_loop (fun M ρ w' => ∃ (j : Nat) (a17 : Option Addr) (c18 : Nat) (G15 : Hp), M = 32 - j ∧ j ≤ 32 ∧ ρ = [(0, .slice aa0 b.length cc0), (4, .slice a17 k c18), (5, .int .i64 ((32 * k : Nat) : Int)), (6, .pointer (some ⟨b12, 0, none⟩)), (19, .int .i64 (j : Int))] ∧ G2.le G15 ∧ St w H G15 [.blk b12 (hV (Go.Au.hTo (b.drop (32 * k)) j) : Value).cells 23, .row 23 32 (.slice a17 k c18) k (hcells (Go.Au.chunks b k))] w' ∧ (∀ y ∈ Go.Au.chunks b k, y.length = 32) ∧ k ≤ c18)
      (32 - 0) [(0, .slice aa0 b.length cc0), (4, .slice a4 k c5), (5, .int .i64 ((32 * k : Nat) : Int)), (6, .pointer (some ⟨b12, 0, none⟩)), (19, .int .i64 ((0 : Nat) : Int))] ⟨rfl, rfl, (congrArg (fun z => some (Value.int .i64 z)) (by omega)), rfl, (congrArg (fun z => some (Value.int .i64 z)) (by omega)), trivial⟩ ⟨0, a4, c5, G2, rfl, (by omega), rfl, Hp.le.refl _, S14, hh7, hc6⟩ ?_
    rintro M ρ w21 ⟨j, a17, c18, G15, rfl, hp23, rfl, hl16, S22, hh20, hc19⟩
    refine W_seq ?_
    refine W_region ?_
    refine T_pev rfl rfl rfl rfl ?_
    refine T_nil ?_
    refine W_seq ?_
    refine W_cond_dec rfl (fun h24 => ?_) (fun h24 => ?_)
    · refine W_skip ?_
      refine W_seq ?_
      refine W_block ?_
      refine W_seq ?_
      refine W_region ?_
      refine T_pev rfl rfl rfl rfl ?_
      refine T_pev rfl rfl rfl rfl ?_
      refine T_nil ?_
      refine W_region ?_
      refine T_pev rfl rfl rfl rfl ?_
      refine T_pev rfl rfl rfl rfl ?_
      refine T_pev rfl rfl rfl rfl ?_
      refine T_pev rfl rfl rfl rfl ?_
      refine T_ari rfl rfl rfl rfl (by omega) ?_
      refine T_idxR ((32 * k) + j) (hv.mono (hl3.trans hl16)) rfl rfl rfl rfl rfl rfl rfl rfl rfl (by omega) (by omega) fun b25 o26 hc27 => ?_
      have hc28 := hc27 0 (bV (b.getD ((32 * k) + j) 0)) (at_b b ((32 * k) + j) (by omega))
      simp only [Nat.add_zero] at hc28
      refine T_loadG S22 hc28 rfl rfl rfl rfl rfl rfl rfl ?_
      refine T_re (v' := bV ((b.drop (32 * k)).getD j 0)) (congrArg (fun z : UInt8 => Value.int .u8 (z.toNat : Int)) (Go.Au.getD_dropB _ _ _).symm) ?_
      refine T_idxA1 rfl rfl rfl rfl rfl rfl rfl rfl rfl (by first | omega | decide) ?_
      refine T_store1S 0 j S22 (fun _ _ => trivial) rfl rfl rfl rfl rfl rfl rfl rfl rfl rfl rfl (by omega) (by rw [hVs (Go.Au.hTo_len _ _)]; omega) fun w29 S30 => ?_
      rw [MhTo_put] at S30
      refine T_nil ?_
      refine W_region ?_
      refine T_ari rfl rfl rfl rfl (by omega) ?_
      refine T_pev rfl rfl rfl rfl ?_
      refine T_nil ?_
      exact ⟨32 - (j + 1), [(0, .slice aa0 b.length cc0), (4, .slice a17 k c18), (5, .int .i64 ((32 * k : Nat) : Int)), (6, .pointer (some ⟨b12, 0, none⟩)), (19, .int .i64 ((j + 1 : Nat) : Int))], by omega, ⟨rfl, rfl, (congrArg (fun z => some (Value.int .i64 z)) (by omega)), rfl, (congrArg (fun z => some (Value.int .i64 z)) (by omega)), trivial⟩, j + 1, a17, c18, G15, rfl, (by omega), rfl, hl16, S30, hh20, hc19⟩
    refine W_exit ?_
    refine W_region ?_
    refine T_pev rfl rfl rfl rfl ?_
    refine T_loadFS 0 S22 rfl rfl rfl rfl rfl rfl rfl rfl rfl (hVs (Go.Au.hTo_len _ _)) ?_
    refine T_re (v' := hV ((b.drop (32 * k)).take 32)) (congrArg (fun q => hV q) (by rw [show j = 32 by omega]; exact Go.Au.hTo_full (by rw [List.length_drop]; omega))) ?_
    refine T_litS (hcells [(b.drop (32 * k)).take 32]) rfl rfl rfl rfl rfl rfl rfl rfl rfl rfl rfl rfl rfl (one_h (take_len32 (by rw [List.length_drop]; omega))) (by simp [hcells, hV, Value.cells]) fun a31 w32 hB33 ho34 => ?_
    have S35 := S22.own hB33 ho34
    refine ⟨trivial, ?_⟩
    have hD36 : (Go.Au.chunks b k ++ [(b.drop (32 * k)).take 32]) = Go.Au.chunks b (k + 1) := (Go.Au.chunks_snoc _ _)
    refine T_appendS 2 (k + 1) (hcells (Go.Au.chunks b (k + 1))) S35 (fun _ _ => trivial) rfl rfl rfl rfl rfl rfl rfl rfl rfl rfl rfl rfl rfl rfl (S35.rd 0 rfl) (one_hcells _) (by first | rfl | (simp; done) | (simp; omega) | omega) (by rw [← hD36]; simp [hcells_append, hcells]) (by unfold maxLen; omega) (by show _ * 32 ≤ _; omega) fun a37 c38 w39 hc40 S41 => ?_
    have hh42 : ∀ y ∈ Go.Au.chunks b (k + 1), y.length = 32 := by rw [← hD36]; exact (all_app hh20 (all_h1 (take_len32 (by rw [List.length_drop]; omega))))
    refine T_pev rfl rfl rfl rfl ?_
    refine T_nil ?_
    refine W_region ?_
    refine T_pev rfl rfl rfl rfl ?_
    refine T_ari rfl rfl rfl rfl (by omega) ?_
    refine T_pev rfl rfl rfl rfl ?_
    refine T_nil ?_
    have S43 := S41.drop 1
    have S44 := S43.drop 0
    exact ⟨(b.length / 32) - (k + 1), [(0, .slice aa0 b.length cc0), (4, .slice a37 (k + 1) c38), (5, .int .i64 ((32 * (k + 1) : Nat) : Int))], by omega, ⟨rfl, rfl, (congrArg (fun z => some (Value.int .i64 z)) (by omega)), trivial⟩, k + 1, a37, c38, G15, rfl, (by omega), rfl, (hl3.trans hl16), S44, hh42, hc40⟩
  refine W_exit ?_
  refine W_seq ?_
  refine W_region ?_
  refine T_pev rfl rfl rfl rfl ?_
  refine T_pev rfl rfl rfl rfl ?_
  refine T_pev rfl rfl rfl rfl ?_
  refine T_nil ?_
  refine W_ret ?_
  refine ⟨_, ⟨_, _, rfl, rfl, ⟨_, _, rfl, rfl, rfl⟩⟩, ?_⟩
  obtain rfl : k = (b.length / 32) := by omega
  exact ⟨_, _, hc6, rfl, S9.row 0 rfl, S9.below⟩


theorem unpackRNo_ok {H : Hp} {w : World} (hH : H.le (hw w)) {b : List UInt8} {aa0 : Option Addr} {nn0 cc0 : Nat} (hv : Rd H (.slice aa0 nn0 cc0) nn0 1 (b.map bV)) (hno : ¬ Go.Au.okU b) :
    Calls Tryd.prog 70 #[.slice aa0 nn0 cc0] w fun e w' => e = .returned (.tuple #[.agg #[.int .i64 0, .int .i64 0, .slice none 0 0, .slice none 0 0], .bool false]) ∧ Below w.heap.size w w' := by
  obtain rfl : nn0 = b.length := hv.lenB
  have hvcap : b.length ≤ cc0 := hv.capOf
  have hb0 := (b.getD 0 0).toNat_lt
  refine enter1 _ Tryd.func70 rfl Tryd.ntmps70 Tryd.results70 rfl ?_
  have S0 := St.start w hH
  refine W_seq ?_
  refine W_region ?_
  refine T_allocS S0 (fun _ _ => trivial) rfl rfl rfl rfl rfl rfl rfl fun b1 w2 S3 => ?_
  refine T_pev rfl rfl rfl rfl ?_
  refine T_nil ?_
  refine W_seq ?_
  refine W_seq ?_
  refine W_region ?_
  refine T_pev rfl rfl rfl rfl ?_
  refine T_pev rfl rfl rfl rfl ?_
  refine T_pev rfl rfl rfl rfl ?_
  refine T_pev rfl rfl rfl rfl ?_
  refine T_part (t := 9) rfl (List.cons_ne_nil _ _) (fun h4' => ?_) (fun h4' => ?_)
  · have h4 := of_decide_eq_true h4'
    refine T_no rfl rfl rfl rfl rfl rfl ?_
    refine T_no rfl rfl rfl rfl rfl rfl ?_
    refine T_no rfl rfl rfl rfl rfl rfl ?_
    refine T_no rfl rfl rfl rfl rfl rfl ?_
    refine T_pev rfl rfl rfl rfl ?_
    refine T_pev rfl rfl rfl rfl ?_
    refine T_no rfl rfl rfl rfl rfl rfl ?_
    refine T_no rfl rfl rfl rfl rfl rfl ?_
    refine T_no rfl rfl rfl rfl rfl rfl ?_
    refine T_no rfl rfl rfl rfl rfl rfl ?_
    refine T_no rfl rfl rfl rfl rfl rfl ?_
    refine T_no rfl rfl rfl rfl rfl rfl ?_
    refine T_no rfl rfl rfl rfl rfl rfl ?_
    refine T_no rfl rfl rfl rfl rfl rfl ?_
    refine T_no rfl rfl rfl rfl rfl rfl ?_
    refine T_no rfl rfl rfl rfl rfl rfl ?_
    refine T_pev rfl rfl rfl rfl ?_
    refine T_nil ?_
    refine W_cond_true rfl ?_
    refine W_seq ?_
    refine W_region ?_
    refine T_buildS (cells := #[.int .i64 0, .int .i64 0, .slice none 0 0, .slice none 0 0]) rfl rfl rfl rfl rfl rfl rfl rfl rfl rfl ?_
    refine T_storeFS 0 S3 (fun _ _ => trivial) rfl rfl rfl rfl rfl rfl rfl rfl rfl (by first | rfl | simp [hVs, *]) (by first | rfl | simp [hVs, *]) (one_all rfl) fun w5 S6 => ?_
    refine T_pev rfl rfl rfl rfl ?_
    refine T_nil ?_
    refine W_ret ?_
    refine ⟨_, ⟨_, _, _, rfl, rfl, run_loadVarA rfl rfl (by first | rfl | simp [hVs, *]) (S6.cells 0 rfl), ⟨_, _, rfl, rfl, rfl⟩⟩, ?_⟩
    exact ⟨rfl, S6.below⟩
  have h4 := of_decide_eq_false h4'
  refine T_yes rfl rfl rfl ?_ rfl
  refine T_pev rfl rfl rfl rfl ?_
  refine T_yes rfl rfl rfl ?_ rfl
  refine T_idxR 0 hv rfl rfl rfl rfl rfl rfl rfl rfl rfl (by omega) (by omega) fun b7 o8 hc9 => ?_
  have hc10 := hc9 0 (bV (b.getD 0 0)) (at_b b 0 (by omega))
  simp only [Nat.add_zero] at hc10
  refine T_yes rfl rfl rfl ?_ rfl
  refine T_loadG S3 hc10 rfl rfl rfl rfl rfl rfl rfl ?_
  refine T_yes rfl rfl rfl ?_ rfl
  refine T_pev rfl rfl rfl rfl ?_
  refine T_pev rfl rfl rfl rfl ?_
  refine T_pev rfl rfl rfl rfl ?_
  refine T_part (t := 15) rfl (List.cons_ne_nil _ _) (fun h11' => ?_) (fun h11' => ?_)
  · have h11 := of_decide_eq_true h11'
    refine T_no rfl rfl rfl rfl rfl rfl ?_
    refine T_no rfl rfl rfl rfl rfl rfl ?_
    refine T_no rfl rfl rfl rfl rfl rfl ?_
    refine T_no rfl rfl rfl rfl rfl rfl ?_
    refine T_no rfl rfl rfl rfl rfl rfl ?_
    refine T_no rfl rfl rfl rfl rfl rfl ?_
    refine T_no rfl rfl rfl rfl rfl rfl ?_
    refine T_no rfl rfl rfl rfl rfl rfl ?_
    refine T_no rfl rfl rfl rfl rfl rfl ?_
    refine T_no rfl rfl rfl rfl rfl rfl ?_
    refine T_pev rfl rfl rfl rfl ?_
    refine T_nil ?_
    refine W_cond_true rfl ?_
    refine W_seq ?_
    refine W_region ?_
    refine T_buildS (cells := #[.int .i64 0, .int .i64 0, .slice none 0 0, .slice none 0 0]) rfl rfl rfl rfl rfl rfl rfl rfl rfl rfl ?_
    refine T_storeFS 0 S3 (fun _ _ => trivial) rfl rfl rfl rfl rfl rfl rfl rfl rfl (by first | rfl | simp [hVs, *]) (by first | rfl | simp [hVs, *]) (one_all rfl) fun w12 S13 => ?_
    refine T_pev rfl rfl rfl rfl ?_
    refine T_nil ?_
    refine W_ret ?_
    refine ⟨_, ⟨_, _, _, rfl, rfl, run_loadVarA rfl rfl (by first | rfl | simp [hVs, *]) (S13.cells 0 rfl), ⟨_, _, rfl, rfl, rfl⟩⟩, ?_⟩
    exact ⟨rfl, S13.below⟩
  have h11 := of_decide_eq_false h11'
  refine T_yes rfl rfl rfl ?_ rfl
  refine T_pev rfl rfl rfl rfl ?_
  refine T_yes rfl rfl rfl ?_ rfl
  refine T_pev rfl rfl rfl rfl ?_
  refine T_yes rfl rfl rfl ?_ rfl
  refine T_pev rfl rfl rfl rfl ?_
  refine T_yes rfl rfl rfl ?_ rfl
  refine T_idxR 0 hv rfl rfl rfl rfl rfl rfl rfl rfl rfl (by omega) (by omega) fun b14 o15 hc16 => ?_
  have hc17 := hc16 0 (bV (b.getD 0 0)) (at_b b 0 (by omega))
  simp only [Nat.add_zero] at hc17
  refine T_yes rfl rfl rfl ?_ rfl
  refine T_loadG S3 hc17 rfl rfl rfl rfl rfl rfl rfl ?_
  refine T_yes rfl rfl rfl ?_ rfl
  refine T_b2i rfl rfl rfl rfl rfl rfl rfl ?_
  refine T_yes rfl rfl rfl ?_ rfl
  refine T_ari rfl rfl rfl rfl (by omega) ?_
  refine T_yes rfl rfl rfl ?_ rfl
  refine T_ari rfl rfl rfl rfl (by omega) ?_
  refine T_yes rfl rfl rfl ?_ rfl
  refine T_ari rfl rfl rfl rfl (by omega) ?_
  refine T_yes rfl rfl rfl ?_ rfl
  refine T_pev rfl rfl rfl rfl ?_
  refine T_pev rfl rfl rfl rfl ?_
  refine T_nil ?_
  refine W_bool 26 true rfl (ndec_t (fun e => hno ⟨by omega, by omega, by omega⟩)) ?_
  refine W_cond_true rfl ?_
  refine W_seq ?_
  refine W_region ?_
  refine T_buildS (cells := #[.int .i64 0, .int .i64 0, .slice none 0 0, .slice none 0 0]) rfl rfl rfl rfl rfl rfl rfl rfl rfl rfl ?_
  refine T_storeFS 0 S3 (fun _ _ => trivial) rfl rfl rfl rfl rfl rfl rfl rfl rfl (by first | rfl | simp [hVs, *]) (by first | rfl | simp [hVs, *]) (one_all rfl) fun w18 S19 => ?_
  refine T_pev rfl rfl rfl rfl ?_
  refine T_nil ?_
  refine W_ret ?_
  refine ⟨_, ⟨_, _, _, rfl, rfl, run_loadVarA rfl rfl (by first | rfl | simp [hVs, *]) (S19.cells 0 rfl), ⟨_, _, rfl, rfl, rfl⟩⟩, ?_⟩
  exact ⟨rfl, S19.below⟩


theorem unpackR_ok {H : Hp} {w : World} (hH : H.le (hw w)) {b : List UInt8} {aa0 : Option Addr} {nn0 cc0 : Nat} (hv : Rd H (.slice aa0 nn0 cc0) nn0 1 (b.map bV)) (hb : b.length ≤ 10000) (hok : Go.Au.okU b) :
    Calls Tryd.prog 70 #[.slice aa0 nn0 cc0] w fun e w' => ∃ a1 n1 c1 a2 n2 c2, e = .returned (.tuple #[.agg #[.int .i64 (((b.getD 0 0).toNat : Nat) : Int), .int .i64 (((Go.Au.gval ((b.drop 1).take (3 - 1))) : Nat) : Int), .slice a1 n1 c1, .slice a2 n2 c2], .bool true]) ∧ RdH (F.ext H w.heap.size w') (.slice a1 n1 c1) 32 (((Go.Au.chunks (b.drop 3) ((b.drop 3).length / 32)).drop 0).take (67 - 0)) ∧ RdH (F.ext H w.heap.size w') (.slice a2 n2 c2) 32 (((Go.Au.chunks (b.drop 3) ((b.drop 3).length / 32)).drop 67).take (((b.drop 3).length / 32) - 67)) ∧ Below w.heap.size w w' := by
  obtain rfl : nn0 = b.length := hv.lenB
  have hvcap : b.length ≤ cc0 := hv.capOf
  obtain ⟨hk1, hk2, hk3⟩ := hok
  have hx3 : (b.drop 3).length = b.length - 3 := List.length_drop
  have hck := Go.Au.chunks_len (b.drop 3) ((b.drop 3).length / 32)
  have hb1 := (b.getD 1 0).toNat_lt
  have hb2 := (b.getD 2 0).toNat_lt
  refine enter1 _ Tryd.func70 rfl Tryd.ntmps70 Tryd.results70 rfl ?_
  have S0 := St.start w hH
  refine W_seq ?_
  refine W_region ?_
  refine T_allocS S0 (fun _ _ => trivial) rfl rfl rfl rfl rfl rfl rfl fun b1 w2 S3 => ?_
  refine T_pev rfl rfl rfl rfl ?_
  refine T_nil ?_
  refine W_seq ?_
  refine W_seq ?_
  refine W_region ?_
  refine T_pev rfl rfl rfl rfl ?_
  refine T_pev rfl rfl rfl rfl ?_
  refine T_pev rfl rfl rfl rfl ?_
  refine T_pev rfl rfl rfl rfl ?_
  refine T_bool 9 false rfl (decide_eq_false (by omega)) ?_
  refine T_yes rfl rfl rfl ?_ rfl
  refine T_pev rfl rfl rfl rfl ?_
  refine T_yes rfl rfl rfl ?_ rfl
  refine T_idxR 0 hv rfl rfl rfl rfl rfl rfl rfl rfl rfl (by omega) (by omega) fun b4 o5 hc6 => ?_
  have hc7 := hc6 0 (bV (b.getD 0 0)) (at_b b 0 (by omega))
  simp only [Nat.add_zero] at hc7
  refine T_yes rfl rfl rfl ?_ rfl
  refine T_loadG S3 hc7 rfl rfl rfl rfl rfl rfl rfl ?_
  refine T_yes rfl rfl rfl ?_ rfl
  refine T_pev rfl rfl rfl rfl ?_
  refine T_pev rfl rfl rfl rfl ?_
  refine T_pev rfl rfl rfl rfl ?_
  refine T_bool 15 false rfl (decide_eq_false (by omega)) ?_
  refine T_yes rfl rfl rfl ?_ rfl
  refine T_pev rfl rfl rfl rfl ?_
  refine T_yes rfl rfl rfl ?_ rfl
  refine T_pev rfl rfl rfl rfl ?_
  refine T_yes rfl rfl rfl ?_ rfl
  refine T_pev rfl rfl rfl rfl ?_
  refine T_yes rfl rfl rfl ?_ rfl
  refine T_idxR 0 hv rfl rfl rfl rfl rfl rfl rfl rfl rfl (by omega) (by omega) fun b8 o9 hc10 => ?_
  have hc11 := hc10 0 (bV (b.getD 0 0)) (at_b b 0 (by omega))
  simp only [Nat.add_zero] at hc11
  refine T_yes rfl rfl rfl ?_ rfl
  refine T_loadG S3 hc11 rfl rfl rfl rfl rfl rfl rfl ?_
  refine T_yes rfl rfl rfl ?_ rfl
  refine T_b2i rfl rfl rfl rfl rfl rfl rfl ?_
  refine T_yes rfl rfl rfl ?_ rfl
  refine T_ari rfl rfl rfl rfl (by omega) ?_
  refine T_yes rfl rfl rfl ?_ rfl
  refine T_ari rfl rfl rfl rfl (by omega) ?_
  refine T_yes rfl rfl rfl ?_ rfl
  refine T_ari rfl rfl rfl rfl (by omega) ?_
  refine T_yes rfl rfl rfl ?_ rfl
  refine T_pev rfl rfl rfl rfl ?_
  refine T_pev rfl rfl rfl rfl ?_
  refine T_nil ?_
  refine W_bool 26 false rfl (ndec_f (by omega)) ?_
  refine W_cond_false rfl ?_
  refine W_skip ?_
  refine W_seq ?_
  refine W_region ?_
  refine T_pev rfl rfl rfl rfl ?_
  refine T_sliceR 3 b.length hv rfl rfl rfl rfl rfl rfl rfl rfl rfl rfl (by first | rfl | exact congrArg some (by omega)) (bound_of (by omega)) (by omega) (by omega) fun a12 c13 hc14 r15 => ?_
  have r16 := Rd.cutB r15
  have r17 : Rd H (.slice a12 (b.length - 3) c13) (b.length - 3) 1 ((b.drop 3).map bV) := by rw [Go.Au.drop3] at r16; exact r16
  refine T_callS rfl rfl g_aumbry_aumbryref07_TakeHashes rfl rfl rfl rfl ((takeHashes_ok S3.le r17 (by omega) (by omega)).mono ?_)
  rintro e w23 ⟨a18, c19, hc20, rfl, ho21, hB22⟩
  have S24 := S3.own hB22 ho21
  refine ⟨_, rfl, trivial, ?_⟩
  refine T_pev rfl rfl rfl rfl ?_
  refine T_pev rfl rfl rfl rfl ?_
  refine T_pev rfl rfl rfl rfl ?_
  refine T_pev rfl rfl rfl rfl ?_
  refine T_pev rfl rfl rfl rfl ?_
  refine T_nil ?_
  refine W_seq ?_
  refine W_draw rfl (by kernel_rfl) ?_
  have S25 := S24.drew
  refine T_pev rfl rfl rfl rfl ?_
  refine T_idxR 0 hv rfl rfl rfl rfl rfl rfl rfl rfl rfl (by omega) (by omega) fun b26 o27 hc28 => ?_
  have hc29 := hc28 0 (bV (b.getD 0 0)) (at_b b 0 (by omega))
  simp only [Nat.add_zero] at hc29
  refine T_loadG S25 hc29 rfl rfl rfl rfl rfl rfl rfl ?_
  refine T_b2i rfl rfl rfl rfl rfl rfl rfl ?_
  refine T_pev rfl rfl rfl rfl ?_
  refine T_idxR 1 hv rfl rfl rfl rfl rfl rfl rfl rfl rfl (by omega) (by omega) fun b30 o31 hc32 => ?_
  have hc33 := hc32 0 (bV (b.getD 1 0)) (at_b b 1 (by omega))
  simp only [Nat.add_zero] at hc33
  refine T_loadG S25 hc33 rfl rfl rfl rfl rfl rfl rfl ?_
  refine T_b2i rfl rfl rfl rfl rfl rfl rfl ?_
  refine T_ari rfl rfl rfl rfl (by omega) ?_
  refine T_pev rfl rfl rfl rfl ?_
  refine T_idxR 2 hv rfl rfl rfl rfl rfl rfl rfl rfl rfl (by omega) (by omega) fun b34 o35 hc36 => ?_
  have hc37 := hc36 0 (bV (b.getD 2 0)) (at_b b 2 (by omega))
  simp only [Nat.add_zero] at hc37
  refine T_loadG S25 hc37 rfl rfl rfl rfl rfl rfl rfl ?_
  refine T_b2i rfl rfl rfl rfl rfl rfl rfl ?_
  refine T_ari rfl rfl rfl rfl (by omega) ?_
  refine T_re (v' := .int .i64 (((Go.Au.gval ((b.drop 1).take (3 - 1))) : Nat) : Int)) (congrArg (Value.int .i64) (by rw [← Go.Au.gval2 hk1]; omega)) ?_
  refine T_pev rfl rfl rfl rfl ?_
  obtain ⟨G39, hl40, S38, r41⟩ := S25.stillRow 0 rfl
  have r42 := RdH.mk (Go.Au.chunks_all (by omega)) (by decide) r41
  refine T_sliceR 0 67 r42.2 rfl rfl rfl rfl rfl rfl rfl rfl rfl rfl (bound_of (by omega)) rfl (by omega) (by omega) fun a43 c44 hc45 r46 => ?_
  have r47 := RdH.cut (lo := 0) r42.1 (by first | (simp only [List.length_take, List.length_drop]; omega) | (have hcl := List.length_take (i := (67 - 0)) (l := (Go.Au.chunks (b.drop 3) ((b.drop 3).length / 32)).drop 0); have hcd := List.length_drop (i := 0) (l := (Go.Au.chunks (b.drop 3) ((b.drop 3).length / 32))); omega)) r46
  refine T_pev rfl rfl rfl rfl ?_
  refine T_sliceR 67 ((b.drop 3).length / 32) r42.2 rfl rfl rfl rfl rfl rfl rfl rfl rfl rfl (by first | rfl | exact congrArg some (by omega)) (bound_of (by omega)) (by omega) (by omega) fun a48 c49 hc50 r51 => ?_
  have r52 := RdH.cut (lo := 67) r42.1 (by first | (simp only [List.length_take, List.length_drop]; omega) | (have hcl := List.length_take (i := (((b.drop 3).length / 32) - 67)) (l := (Go.Au.chunks (b.drop 3) ((b.drop 3).length / 32)).drop 67); have hcd := List.length_drop (i := 67) (l := (Go.Au.chunks (b.drop 3) ((b.drop 3).length / 32))); omega)) r51
  refine T_buildS (cells := #[.int .i64 ((b.getD 0 0).toNat : Int), .int .i64 (((Go.Au.gval ((b.drop 1).take (3 - 1))) : Nat) : Int), .slice a43 (67 - 0) c44, .slice a48 (((b.drop 3).length / 32) - 67) c49]) rfl rfl rfl rfl rfl rfl rfl rfl rfl rfl ?_
  refine T_storeFS 0 S38 (fun _ _ => trivial) rfl rfl rfl rfl rfl rfl rfl rfl rfl (by first | rfl | simp [hVs, *]) (by first | rfl | simp [hVs, *]) (one_all rfl) fun w53 S54 => ?_
  refine T_pev rfl rfl rfl rfl ?_
  refine T_nil ?_
  refine W_ret ?_
  refine ⟨_, ⟨_, _, _, rfl, rfl, run_loadVarA rfl rfl (by first | rfl | simp [hVs, *]) (S54.cells 0 rfl), ⟨_, _, rfl, rfl, rfl⟩⟩, ?_⟩
  exact ⟨_, _, _, _, _, _, rfl, (r47).mono S54.fin, (r52).mono S54.fin, S54.below⟩

theorem unpackSig_of {H : Hp} {w : World} (hH : H.le (hw w)) {b : List UInt8} {aa0 : Option Addr} {nn0 cc0 : Nat} {f : FuncId} (hv : Rd H (.slice aa0 nn0 cc0) nn0 1 (b.map bV))
    (hno : ¬ Go.Au.okU b → Calls Tryd.prog f #[.slice aa0 nn0 cc0] w fun e w' => e = .returned (.tuple #[.agg #[.int .i64 0, .int .i64 0, .slice none 0 0, .slice none 0 0], .bool false]) ∧ Below w.heap.size w w')
    (hok : Go.Au.okU b → Calls Tryd.prog f #[.slice aa0 nn0 cc0] w fun e w' => ∃ a1 n1 c1 a2 n2 c2, e = .returned (.tuple #[.agg #[.int .i64 (((b.getD 0 0).toNat : Nat) : Int), .int .i64 ((Go.Au.gval ((b.drop 1).take (3 - 1)) : Nat) : Int), .slice a1 n1 c1, .slice a2 n2 c2], .bool true]) ∧ RdH (F.ext H w.heap.size w') (.slice a1 n1 c1) 32 (((Go.Au.chunks (b.drop 3) ((b.drop 3).length / 32)).drop 0).take (67 - 0)) ∧ RdH (F.ext H w.heap.size w') (.slice a2 n2 c2) 32 (((Go.Au.chunks (b.drop 3) ((b.drop 3).length / 32)).drop 67).take ((b.drop 3).length / 32 - 67)) ∧ Below w.heap.size w w') :
    Calls Tryd.prog f #[.slice aa0 nn0 cc0] w fun e w' => ∃ a1 c1 a2 c2, e = .returned (.tuple #[.agg #[.int .i64 (Go.Au.sgH b), .int .i64 (Go.Au.sgL b), .slice a1 (Go.Au.sgV b).length c1, .slice a2 (Go.Au.sgP b).length c2], .bool (decide (Go.Au.okU b))]) ∧ RdH (F.ext H w.heap.size w') (.slice a1 (Go.Au.sgV b).length c1) 32 (Go.Au.sgV b) ∧ RdH (F.ext H w.heap.size w') (.slice a2 (Go.Au.sgP b).length c2) 32 (Go.Au.sgP b) ∧ Below w.heap.size w w' := by
  by_cases h : Go.Au.okU b
  · refine (hok h).mono fun e w' ⟨a1, n1, c1, a2, n2, c2, he, r1, r2, hB⟩ => ?_
    have eC : Go.Au.sgC b = Go.Au.chunks (b.drop 3) ((b.drop 3).length / 32) := if_pos h
    have e1 : Go.Au.sgV b = ((Go.Au.chunks (b.drop 3) ((b.drop 3).length / 32)).drop 0).take (67 - 0) := by unfold Go.Au.sgV; rw [eC]; rfl
    have e2 : Go.Au.sgP b = ((Go.Au.chunks (b.drop 3) ((b.drop 3).length / 32)).drop 67).take ((b.drop 3).length / 32 - 67) := by
      unfold Go.Au.sgP; rw [eC, List.take_of_length_le (by rw [List.length_drop, Go.Au.chunks_len]; exact Nat.le_refl _)]
    have e3 : Go.Au.sgH b = (((b.getD 0 0).toNat : Nat) : Int) := if_pos h
    have e4 : Go.Au.sgL b = ((Go.Au.gval ((b.drop 1).take (3 - 1)) : Nat) : Int) := if_pos h
    rw [← e1] at r1
    rw [← e2] at r2
    obtain rfl := r1.len
    obtain rfl := r2.len
    exact ⟨a1, c1, a2, c2, by rw [he, e3, e4, decide_eq_true h], r1, r2, hB⟩
  · refine (hno h).mono fun e w' ⟨he, hB⟩ => ?_
    have eC := Go.Au.sgC_no h
    have e1 : Go.Au.sgV b = [] := by unfold Go.Au.sgV; rw [eC]; rfl
    have e2 : Go.Au.sgP b = [] := by unfold Go.Au.sgP; rw [eC]; rfl
    have e3 : Go.Au.sgH b = 0 := if_neg h
    have e4 : Go.Au.sgL b = 0 := if_neg h
    rw [e1, e2, e3, e4, decide_eq_false h]
    exact ⟨none, 0, none, 0, he, nilH _, nilH _, hB⟩
theorem unpackSig_ok {H : Hp} {w : World} (hH : H.le (hw w)) (hT : Tabs H) {b : List UInt8} {aa0 : Option Addr} {nn0 cc0 : Nat} (hv : Rd H (.slice aa0 nn0 cc0) nn0 1 (b.map bV)) :
    Calls Tryd.prog 69 #[.slice aa0 nn0 cc0] w fun e w' => ∃ a1 c1 a2 c2, e = .returned (.tuple #[.agg #[.int .i64 (Go.Au.sgH b), .int .i64 (Go.Au.sgL b), .slice a1 (Go.Au.sgV b).length c1, .slice a2 (Go.Au.sgP b).length c2], .bool (decide (Go.Au.okU b))]) ∧ RdH (F.ext H w.heap.size w') (.slice a1 (Go.Au.sgV b).length c1) 32 (Go.Au.sgV b) ∧ RdH (F.ext H w.heap.size w') (.slice a2 (Go.Au.sgP b).length c2) 32 (Go.Au.sgP b) ∧ Below w.heap.size w w' := unpackSig_of (f := 69) hH hv (fun h => unpackNo_ok hH hT hv h) (fun h => unpack_ok hH hT hv (by obtain ⟨h1, h2, h3⟩ := h; omega) h)
theorem unpackSigR_ok {H : Hp} {w : World} (hH : H.le (hw w)) {b : List UInt8} {aa0 : Option Addr} {nn0 cc0 : Nat} (hv : Rd H (.slice aa0 nn0 cc0) nn0 1 (b.map bV)) :
    Calls Tryd.prog 70 #[.slice aa0 nn0 cc0] w fun e w' => ∃ a1 c1 a2 c2, e = .returned (.tuple #[.agg #[.int .i64 (Go.Au.sgH b), .int .i64 (Go.Au.sgL b), .slice a1 (Go.Au.sgV b).length c1, .slice a2 (Go.Au.sgP b).length c2], .bool (decide (Go.Au.okU b))]) ∧ RdH (F.ext H w.heap.size w') (.slice a1 (Go.Au.sgV b).length c1) 32 (Go.Au.sgV b) ∧ RdH (F.ext H w.heap.size w') (.slice a2 (Go.Au.sgP b).length c2) 32 (Go.Au.sgP b) ∧ Below w.heap.size w w' := unpackSig_of (f := 70) hH hv (fun h => unpackRNo_ok hH hv h) (fun h => unpackR_ok hH hv (by obtain ⟨h1, h2, h3⟩ := h; omega) h)
end Go.Proofs.YtmjmjjkigblbgaaDoor
