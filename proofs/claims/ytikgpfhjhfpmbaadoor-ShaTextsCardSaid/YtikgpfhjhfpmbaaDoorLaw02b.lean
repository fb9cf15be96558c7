/- The statement of chapter 2 on texts, walked. -/
import Derived.Test.YtikgpfhjhfpmbaaDoorLaw02
import Derived.Test.YtikgpfhjhfpmbaaDoorAuNet
import Derived.Test.YtikgpfhjhfpmbaaDoorFPair
set_option linter.unusedVariables false
set_option linter.unusedSimpArgs false
set_option maxRecDepth 8192
namespace Go.Proofs.YtikgpfhjhfpmbaaDoor
open Go Go.F Go.RowKit

theorem nd_le {l : List (List UInt8)} {n k : Nat} (h : (Go.Au.nets l).length ≤ n) : (Go.Au.nets (l.drop k)).length ≤ n := by
  have e : (Go.Au.nets l).length = (Go.Au.nets (l.take k)).length + (Go.Au.nets (l.drop k)).length := by rw [← List.length_append, ← Go.Au.nets_append, List.take_append_drop]
  omega
theorem nr_val {b r t : List UInt8} (hb : b = Go.Au.net r ++ t) {k : Nat} (h : k ≤ (Go.Au.dec r.length).length) : Go.Au.dval (b.take k) ≤ r.length := by
  rw [Go.Au.nr_dtake hb h]; exact Go.Au.dec_val_le _ _ h
theorem nr_at {b r t : List UInt8} (hb : b = Go.Au.net r ++ t) {k : Nat} (h : k ≤ (Go.Au.dec r.length).length) :
    (k < (Go.Au.dec r.length).length ∧ 48 ≤ (b.getD k 0).toNat ∧ (b.getD k 0).toNat ≤ 57) ∨ (k = (Go.Au.dec r.length).length ∧ (b.getD k 0).toNat = 58) := by
  rcases Nat.lt_or_ge k (Go.Au.dec r.length).length with h1 | h1
  · refine .inl ⟨h1, ?_⟩
    rw [Go.Au.nr_digit hb h1, List.getD_eq_getElem?_getD, List.getElem?_eq_getElem h1]
    exact Go.Au.dec_digit _ _ (List.getElem_mem _)
  · obtain rfl : k = (Go.Au.dec r.length).length := by omega
    refine .inr ⟨rfl, ?_⟩
    rw [Go.Au.nr_colon hb]; rfl
theorem nr_head {b r t : List UInt8} (hb : b = Go.Au.net r ++ t) (h : 1 < (Go.Au.dec r.length).length) : ¬ ((b.getD 0 0).toNat : Int) = 48 := by
  intro e
  refine Go.Au.dec_head _ h ?_
  rw [Go.Au.nr_digit hb (by omega)] at e
  exact UInt8.toNat_inj.1 (by show _ = 48; omega)
theorem nr_colonI {b r t : List UInt8} (hb : b = Go.Au.net r ++ t) : ((b.getD (Go.Au.dec r.length).length 0).toNat : Int) = 58 := by rw [Go.Au.nr_colon hb]; rfl
theorem nr_commaI {b r t : List UInt8} (hb : b = Go.Au.net r ++ t) : ((b.getD ((Go.Au.dec r.length).length + 1 + r.length) 0).toNat : Int) = 44 := by rw [Go.Au.nr_comma hb]; rfl
theorem nr_rest2 {b r t : List UInt8} (hb : b = Go.Au.net r ++ t) : (b.drop ((Go.Au.dec r.length).length + r.length + 2)).take (b.length - ((Go.Au.dec r.length).length + r.length + 2)) = t := by
  rw [Go.Au.nr_rest hb, Go.Au.nr_len hb]; exact List.take_of_length_le (by omega)
theorem el_le {l : List (List UInt8)} {n : Nat} (h : ∀ x ∈ l, x.length ≤ n) {k : Nat} (hk : k < l.length) : (l.getD k []).length ≤ n := by
  rw [List.getD_eq_getElem?_getD, List.getElem?_eq_getElem hk]; exact h _ (List.getElem_mem _)
theorem tn_end {W w : World} {H G : Hp} {D L : List (List UInt8)} {a : Option Addr} {n c : Nat} {bv : Value} (h : D = L) (r : RdL G (.slice a n c) D) (hn : n = L.length) (hc : n ≤ c) (hG : G.le (F.ext H W.heap.size w)) (hB : Below W.heap.size W w) :
    ∃ a' c', L.length ≤ c' ∧ Ending.returned (.tuple #[.slice a n c, bv]) = .returned (.tuple #[.slice a' L.length c', bv]) ∧ RdL (F.ext H W.heap.size w) (.slice a' L.length c') L ∧ Below W.heap.size W w := by
  subst h; subst hn; exact ⟨a, c, hc, rfl, r.mono hG, hB⟩
theorem cuts_1000 (l : List (List UInt8)) (k : Nat) : ∀ x ∈ Go.Au.cuts l k, x.length ≤ 1000 := fun x hx => Nat.le_trans (Go.Au.cuts_all l k x hx) (by decide)
theorem cons_10000 {a : List UInt8} {l : List (List UInt8)} {k : Nat} (h : a.length ≤ 40) : ∀ x ∈ a :: Go.Au.cuts l k, x.length ≤ 10000 := by
  intro x hx
  rcases List.mem_cons.1 hx with rfl | hx
  · omega
  · exact Nat.le_trans (Go.Au.cuts_all l k x hx) (by decide)
theorem key_at {l : List UInt8} {k : Nat} (h : k < 16) : (l.take 16).getD k 0 = l.getD k 0 := by
  rw [List.getD_eq_getElem?_getD, List.getD_eq_getElem?_getD, List.getElem?_take, if_pos h]
theorem size_ok {H : Hp} {w : World} (hH : H.le (hw w)) {b : List UInt8} {aa0 : Option Addr} {nn0 cc0 : Nat} (hv : Rd H (.slice aa0 nn0 cc0) nn0 1 (b.map bV)) {r t : List UInt8} (hb : b = Go.Au.net r ++ t) (hr : r.length ≤ 10000) :
    Calls Tryd.prog 38 #[.slice aa0 nn0 cc0] w fun e w' => e = .returned (.tuple #[.int .i64 ((r.length : Nat) : Int), .int .i64 (((Go.Au.dec r.length).length : Nat) : Int)]) ∧ Below w.heap.size w w' := by
  obtain rfl : nn0 = b.length := hv.lenB
  have hvcap : b.length ≤ cc0 := hv.capOf
  have hbl := Go.Au.nr_len hb
  have hdl := Go.Au.dec_len4 (n := r.length) (by omega)
  have hd0 : Go.Au.dval (b.take 0) = 0 := rfl
  refine enter1 _ Tryd.func38 rfl Tryd.ntmps38 Tryd.results38 rfl ?_
  have S0 := St.start w hH
  refine W_seq ?_
  refine W_region ?_
  refine T_pev rfl rfl rfl rfl ?_
  refine T_pev rfl rfl rfl rfl ?_
  refine T_nil ?_
  refine W_seq ?_
  refine W_block ?_
  refine W_loop (fun M ρ w' => ∃ (k : Nat) (G1 : Hp), M = (Go.Au.dec r.length).length - k ∧ k ≤ (Go.Au.dec r.length).length ∧ ρ = [(0, .slice aa0 b.length cc0), (2, .int .i64 ((Go.Au.dval (b.take k) : Nat) : Int)), (3, .int .i64 (k : Int))] ∧ H.le G1 ∧ St w H G1 [] w')
    ((Go.Au.dec r.length).length - 0) [(0, .slice aa0 b.length cc0), (2, .int .i64 ((Go.Au.dval (b.take 0) : Nat) : Int)), (3, .int .i64 ((0 : Nat) : Int))] ⟨rfl, (congrArg (fun z => some (Value.int .i64 z)) (by omega)), (congrArg (fun z => some (Value.int .i64 z)) (by omega)), trivial⟩ ⟨0, H, rfl, (by exact Nat.zero_le _), rfl, Hp.le.refl _, S0⟩ ?_
  rintro M ρ w3 ⟨k, G1, rfl, hp5, rfl, hl2, S4⟩
  have hdt := nr_val hb (k := k) (by assumption)
  have hat := nr_at hb (k := k) (by assumption)
  refine W_seq ?_
  refine W_seq ?_
  refine W_region ?_
  refine T_pev rfl rfl rfl rfl ?_
  refine T_pev rfl rfl rfl rfl ?_
  refine T_pev rfl rfl rfl rfl ?_
  refine T_pev rfl rfl rfl rfl ?_
  refine T_pev rfl rfl rfl rfl ?_
  refine T_bool 8 true rfl (decide_eq_true (by omega)) ?_
  refine T_yes rfl rfl rfl ?_ rfl
  refine T_pev rfl rfl rfl rfl ?_
  refine T_yes rfl rfl rfl ?_ rfl
  refine T_pev rfl rfl rfl rfl ?_
  refine T_yes rfl rfl rfl ?_ rfl
  refine T_idxR k (hv.mono hl2) rfl rfl rfl rfl rfl rfl rfl rfl rfl (by omega) (by omega) fun b6 o7 hc8 => ?_
  have hc9 := hc8 0 (bV (b.getD k 0)) (at_b b k (by omega))
  simp only [Nat.add_zero] at hc9
  refine T_yes rfl rfl rfl ?_ rfl
  refine T_loadG S4 hc9 rfl rfl rfl rfl rfl rfl rfl ?_
  refine T_yes rfl rfl rfl ?_ rfl
  refine T_pev rfl rfl rfl rfl ?_
  refine T_pev rfl rfl rfl rfl ?_
  refine T_pev rfl rfl rfl rfl ?_
  refine T_bool 15 true rfl (decide_eq_true (by omega)) ?_
  refine T_yes rfl rfl rfl ?_ rfl
  refine T_pev rfl rfl rfl rfl ?_
  refine T_yes rfl rfl rfl ?_ rfl
  refine T_pev rfl rfl rfl rfl ?_
  refine T_yes rfl rfl rfl ?_ rfl
  refine T_idxR k (hv.mono hl2) rfl rfl rfl rfl rfl rfl rfl rfl rfl (by omega) (by omega) fun b10 o11 hc12 => ?_
  have hc13 := hc12 0 (bV (b.getD k 0)) (at_b b k (by omega))
  simp only [Nat.add_zero] at hc13
  refine T_yes rfl rfl rfl ?_ rfl
  refine T_loadG S4 hc13 rfl rfl rfl rfl rfl rfl rfl ?_
  refine T_yes rfl rfl rfl ?_ rfl
  refine T_pev rfl rfl rfl rfl ?_
  refine T_pev rfl rfl rfl rfl ?_
  refine T_pev rfl rfl rfl rfl ?_
  refine T_part (t := 22) rfl (List.cons_ne_nil _ _) (fun h14' => ?_) (fun h14' => ?_)
  · have h14 := of_decide_eq_true h14'
    refine T_yes rfl rfl rfl ?_ rfl
    refine T_pev rfl rfl rfl rfl ?_
    refine T_yes rfl rfl rfl ?_ rfl
    refine T_pev rfl rfl rfl rfl ?_
    refine T_pev rfl rfl rfl rfl ?_
    refine T_nil ?_
    refine W_bool 25 true rfl (decide_eq_true (by omega)) ?_
    refine W_cond_true rfl ?_
    refine W_skip ?_
    refine W_block ?_
    refine W_seq ?_
    refine W_region ?_
    have hkl : k < (Go.Au.dec r.length).length := by omega
    have hdv := Go.Au.dval_take (l := b) (k := k) (by omega)
    refine T_pev rfl rfl rfl rfl ?_
    refine T_ari rfl rfl rfl rfl (by omega) ?_
    refine T_pev rfl rfl rfl rfl ?_
    refine T_pev rfl rfl rfl rfl ?_
    refine T_idxR k (hv.mono hl2) rfl rfl rfl rfl rfl rfl rfl rfl rfl (by omega) (by omega) fun b15 o16 hc17 => ?_
    have hc18 := hc17 0 (bV (b.getD k 0)) (at_b b k (by omega))
    simp only [Nat.add_zero] at hc18
    refine T_loadG S4 hc18 rfl rfl rfl rfl rfl rfl rfl ?_
    refine T_pev rfl rfl rfl rfl ?_
    refine T_re (v' := .int .u8 (((b.getD k 0).toNat - 48 : Nat) : Int)) (congrArg (Value.int .u8) (by rw [IntKind.wrap_u8]; omega)) ?_
    refine T_pev rfl rfl rfl rfl ?_
    refine T_re (v' := .int .i64 (((b.getD k 0).toNat - 48 : Nat) : Int)) (congrArg (Value.int .i64) (by rw [wrap64_id (by omega) (by omega)])) ?_
    refine T_ari rfl rfl rfl rfl (by omega) ?_
    refine T_pev rfl rfl rfl rfl ?_
    refine T_nil ?_
    refine W_region ?_
    refine T_pev rfl rfl rfl rfl ?_
    refine T_ari rfl rfl rfl rfl (by omega) ?_
    refine T_pev rfl rfl rfl rfl ?_
    refine T_nil ?_
    exact ⟨(Go.Au.dec r.length).length - (k + 1), [(0, .slice aa0 b.length cc0), (2, .int .i64 ((Go.Au.dval (b.take (k + 1)) : Nat) : Int)), (3, .int .i64 ((k + 1 : Nat) : Int))], by omega, ⟨rfl, (congrArg (fun z => some (Value.int .i64 z)) (by omega)), (congrArg (fun z => some (Value.int .i64 z)) (by omega)), trivial⟩, k + 1, G1, rfl, (by omega), rfl, hl2, S4⟩
  have h14 := of_decide_eq_false h14'
  refine T_no rfl rfl rfl rfl rfl rfl ?_
  refine T_no rfl rfl rfl rfl rfl rfl ?_
  refine T_pev rfl rfl rfl rfl ?_
  refine T_nil ?_
  refine W_cond_false rfl ?_
  refine W_exit ?_
  refine W_seq ?_
  refine W_region ?_
  refine T_pev rfl rfl rfl rfl ?_
  refine T_pev rfl rfl rfl rfl ?_
  refine T_pev rfl rfl rfl rfl ?_
  refine T_pev rfl rfl rfl rfl ?_
  refine T_nil ?_
  refine W_ret ?_
  refine ⟨_, ⟨_, _, rfl, rfl, ⟨_, _, rfl, rfl, rfl⟩⟩, ?_⟩
  have hk : k = (Go.Au.dec r.length).length := by omega
  have hfin : Go.Au.dval (b.take k) = r.length := by rw [hk, Go.Au.nr_dtake hb (Nat.le_refl _), List.take_length, Go.Au.dval_dec]
  exact ⟨by rw [hfin, hk]; rfl, S4.below⟩


theorem takeNet_ok {H : Hp} {w : World} (hH : H.le (hw w)) {b : List UInt8} {aa0 : Option Addr} {nn0 cc0 : Nat} (hv : Rd H (.slice aa0 nn0 cc0) nn0 1 (b.map bV)) {r t : List UInt8} (hb : b = Go.Au.net r ++ t) (hr : r.length ≤ 10000) (hb2 : b.length ≤ 1000000) :
    Calls Tryd.prog 28 #[.slice aa0 nn0 cc0] w fun e w' => ∃ a c a' c', e = .returned (.tuple #[.slice a r.length c, .slice a' t.length c', .bool true]) ∧ Rd (F.ext H w.heap.size w') (.slice a r.length c) r.length 1 (r.map bV) ∧ Rd (F.ext H w.heap.size w') (.slice a' t.length c') t.length 1 (t.map bV) ∧ Below w.heap.size w w' := by
  obtain rfl : nn0 = b.length := hv.lenB
  have hvcap : b.length ≤ cc0 := hv.capOf
  have hbl := Go.Au.nr_len hb
  have hdl := Go.Au.dec_len4 (n := r.length) (by omega)
  have hdp := Go.Au.dec_len_pos r.length
  refine enter1 _ Tryd.func28 rfl Tryd.ntmps28 Tryd.results28 rfl ?_
  have S0 := St.start w hH
  refine W_seq ?_
  refine W_region ?_
  refine T_pev rfl rfl rfl rfl ?_
  refine T_pev rfl rfl rfl rfl ?_
  refine T_pev rfl rfl rfl rfl ?_
  refine T_nil ?_
  refine W_seq ?_
  refine W_region ?_
  refine T_pev rfl rfl rfl rfl ?_
  refine T_callS rfl rfl g_aumbry_code_size rfl rfl rfl rfl ((size_ok S0.le hv hb hr).mono ?_)
  rintro e w2 ⟨rfl, hB1⟩
  have S3 := S0.call hB1
  refine ⟨_, rfl, trivial, ?_⟩
  refine T_pev rfl rfl rfl rfl ?_
  refine T_pev rfl rfl rfl rfl ?_
  refine T_pev rfl rfl rfl rfl ?_
  refine T_pev rfl rfl rfl rfl ?_
  refine T_pev rfl rfl rfl rfl ?_
  refine T_nil ?_
  refine W_seq ?_
  refine W_block ?_
  refine W_seq ?_
  refine W_region ?_
  refine T_pev rfl rfl rfl rfl ?_
  refine T_pev rfl rfl rfl rfl ?_
  refine T_pev rfl rfl rfl rfl ?_
  refine T_bool 15 false rfl (decide_eq_false (by omega)) ?_
  refine T_yes rfl rfl rfl ?_ rfl
  refine T_pev rfl rfl rfl rfl ?_
  refine T_yes rfl rfl rfl ?_ rfl
  refine T_pev rfl rfl rfl rfl ?_
  refine T_yes rfl rfl rfl ?_ rfl
  refine T_pev rfl rfl rfl rfl ?_
  refine T_part (t := 18) rfl (List.cons_ne_nil _ _) (fun h4' => ?_) (fun h4' => ?_)
  · have h4 := of_decide_eq_true h4'
    refine T_yes rfl rfl rfl ?_ rfl
    refine T_pev rfl rfl rfl rfl ?_
    refine T_yes rfl rfl rfl ?_ rfl
    refine T_idxR 0 hv rfl rfl rfl rfl rfl rfl rfl rfl rfl (by omega) (by omega) fun b5 o6 hc7 => ?_
    have hc8 := hc7 0 (bV (b.getD 0 0)) (at_b b 0 (by omega))
    simp only [Nat.add_zero] at hc8
    refine T_yes rfl rfl rfl ?_ rfl
    refine T_loadG S3 hc8 rfl rfl rfl rfl rfl rfl rfl ?_
    refine T_yes rfl rfl rfl ?_ rfl
    refine T_pev rfl rfl rfl rfl ?_
    refine T_yes rfl rfl rfl ?_ rfl
    refine T_pev rfl rfl rfl rfl ?_
    refine T_pev rfl rfl rfl rfl ?_
    refine T_pev rfl rfl rfl rfl ?_
    refine T_bool 25 false rfl (decide_eq_false (nr_head hb (by omega))) ?_
    refine T_yes rfl rfl rfl ?_ rfl
    refine T_pev rfl rfl rfl rfl ?_
    refine T_yes rfl rfl rfl ?_ rfl
    refine T_pev rfl rfl rfl rfl ?_
    refine T_pev rfl rfl rfl rfl ?_
    refine T_pev rfl rfl rfl rfl ?_
    refine T_nil ?_
    refine W_bool 12 false rfl (decide_eq_false (by omega)) ?_
    refine W_cond_false rfl ?_
    refine W_seq ?_
    refine W_region ?_
    refine T_pev rfl rfl rfl rfl ?_
    refine T_pev rfl rfl rfl rfl ?_
    refine T_pev rfl rfl rfl rfl ?_
    refine T_pev rfl rfl rfl rfl ?_
    refine T_ari rfl rfl rfl rfl (by omega) ?_
    refine T_ari rfl rfl rfl rfl (by omega) ?_
    refine T_pev rfl rfl rfl rfl ?_
    refine T_pev rfl rfl rfl rfl ?_
    refine T_bool 37 false rfl (decide_eq_false (by omega)) ?_
    refine T_yes rfl rfl rfl ?_ rfl
    refine T_pev rfl rfl rfl rfl ?_
    refine T_yes rfl rfl rfl ?_ rfl
    refine T_pev rfl rfl rfl rfl ?_
    refine T_yes rfl rfl rfl ?_ rfl
    refine T_idxR ((Go.Au.dec r.length).length) hv rfl rfl rfl rfl rfl rfl rfl rfl rfl (by omega) (by omega) fun b9 o10 hc11 => ?_
    have hc12 := hc11 0 (bV (b.getD ((Go.Au.dec r.length).length) 0)) (at_b b ((Go.Au.dec r.length).length) (by omega))
    simp only [Nat.add_zero] at hc12
    refine T_yes rfl rfl rfl ?_ rfl
    refine T_loadG S3 hc12 rfl rfl rfl rfl rfl rfl rfl ?_
    refine T_yes rfl rfl rfl ?_ rfl
    refine T_pev rfl rfl rfl rfl ?_
    refine T_pev rfl rfl rfl rfl ?_
    refine T_pev rfl rfl rfl rfl ?_
    refine T_bool 44 false rfl (ndec_f (nr_colonI hb)) ?_
    refine T_yes rfl rfl rfl ?_ rfl
    refine T_pev rfl rfl rfl rfl ?_
    refine T_yes rfl rfl rfl ?_ rfl
    refine T_pev rfl rfl rfl rfl ?_
    refine T_yes rfl rfl rfl ?_ rfl
    refine T_ari rfl rfl rfl rfl (by omega) ?_
    refine T_yes rfl rfl rfl ?_ rfl
    refine T_pev rfl rfl rfl rfl ?_
    refine T_yes rfl rfl rfl ?_ rfl
    refine T_ari rfl rfl rfl rfl (by omega) ?_
    refine T_yes rfl rfl rfl ?_ rfl
    refine T_idxR (((Go.Au.dec r.length).length + 1) + r.length) hv rfl rfl rfl rfl rfl rfl rfl rfl rfl (by omega) (by omega) fun b13 o14 hc15 => ?_
    have hc16 := hc15 0 (bV (b.getD (((Go.Au.dec r.length).length + 1) + r.length) 0)) (at_b b (((Go.Au.dec r.length).length + 1) + r.length) (by omega))
    simp only [Nat.add_zero] at hc16
    refine T_yes rfl rfl rfl ?_ rfl
    refine T_loadG S3 hc16 rfl rfl rfl rfl rfl rfl rfl ?_
    refine T_yes rfl rfl rfl ?_ rfl
    refine T_pev rfl rfl rfl rfl ?_
    refine T_pev rfl rfl rfl rfl ?_
    refine T_pev rfl rfl rfl rfl ?_
    refine T_nil ?_
    refine W_bool 29 false rfl (ndec_f (nr_commaI hb)) ?_
    refine W_cond_false rfl ?_
    refine W_skip ?_
    refine W_seq ?_
    refine W_region ?_
    refine T_pev rfl rfl rfl rfl ?_
    refine T_pev rfl rfl rfl rfl ?_
    refine T_ari rfl rfl rfl rfl (by omega) ?_
    refine T_pev rfl rfl rfl rfl ?_
    refine T_ari rfl rfl rfl rfl (by omega) ?_
    refine T_pev rfl rfl rfl rfl ?_
    refine T_ari rfl rfl rfl rfl (by omega) ?_
    refine T_sliceR ((Go.Au.dec r.length).length + 1) (((Go.Au.dec r.length).length + 1) + r.length) hv rfl rfl rfl rfl rfl rfl rfl rfl rfl rfl (bound_of (by omega)) (bound_of (by omega)) (by omega) (by omega) fun a17 c18 hc19 r20 => ?_
    have r21 := Rd.cutB r20
    have r22 : Rd H (.slice a17 ((((Go.Au.dec r.length).length + 1) + r.length) - ((Go.Au.dec r.length).length + 1)) c18) ((((Go.Au.dec r.length).length + 1) + r.length) - ((Go.Au.dec r.length).length + 1)) 1 (r.map bV) := by rw [Go.Au.nr_take hb] at r21; exact r21
    have S23 := S3.nilRow 5 1
    refine T_appendS 0 r.length (r.map bV) S23 (fun _ _ => trivial) rfl rfl rfl rfl rfl rfl rfl rfl rfl rfl rfl rfl rfl rfl (r22.mono S23.le) (one_bV _) (by first | rfl | (simp; done) | (simp; omega) | omega) (by simp) (by unfold maxLen; omega) (by show _ * 1 ≤ _; omega) fun a24 c25 w26 hc27 S28 => ?_
    refine T_pev rfl rfl rfl rfl ?_
    refine T_nil ?_
    refine W_seq ?_
    refine W_region ?_
    refine T_pev rfl rfl rfl rfl ?_
    refine T_pev rfl rfl rfl rfl ?_
    refine T_pev rfl rfl rfl rfl ?_
    refine T_ari rfl rfl rfl rfl (by omega) ?_
    refine T_ari rfl rfl rfl rfl (by omega) ?_
    refine T_sliceR (((Go.Au.dec r.length).length + r.length) + 2) b.length hv rfl rfl rfl rfl rfl rfl rfl rfl rfl rfl (by first | rfl | exact congrArg some (by omega)) (bound_of (by omega)) (by omega) (by omega) fun a29 c30 hc31 r32 => ?_
    have r33 := Rd.cutB r32
    have r34 : Rd H (.slice a29 (b.length - (((Go.Au.dec r.length).length + r.length) + 2)) c30) (b.length - (((Go.Au.dec r.length).length + r.length) + 2)) 1 (t.map bV) := by rw [nr_rest2 hb] at r33; exact r33
    have S35 := S28.nilRow 5 1
    refine T_appendS 0 t.length (t.map bV) S35 (fun _ _ => trivial) rfl rfl rfl rfl rfl rfl rfl rfl rfl rfl rfl rfl rfl rfl (r34.mono S35.le) (one_bV _) (by first | rfl | (simp; done) | (simp; omega) | omega) (by simp) (by unfold maxLen; omega) (by show _ * 1 ≤ _; omega) fun a36 c37 w38 hc39 S40 => ?_
    refine T_pev rfl rfl rfl rfl ?_
    refine T_nil ?_
    refine W_seq ?_
    refine W_region ?_
    refine T_pev rfl rfl rfl rfl ?_
    refine T_pev rfl rfl rfl rfl ?_
    refine T_pev rfl rfl rfl rfl ?_
    refine T_pev rfl rfl rfl rfl ?_
    refine T_pev rfl rfl rfl rfl ?_
    refine T_nil ?_
    refine W_ret ?_
    refine ⟨_, ⟨_, _, rfl, rfl, ⟨_, _, rfl, rfl, ⟨_, _, rfl, rfl, rfl⟩⟩⟩, ?_⟩
    exact ⟨_, _, _, _, rfl, Rd.of_own_ext (S40.row 1 rfl), Rd.of_own_ext (S40.row 0 rfl), S40.below⟩
  have h4 := of_decide_eq_false h4'
  refine T_no rfl rfl rfl rfl rfl rfl ?_
  refine T_no rfl rfl rfl rfl rfl rfl ?_
  refine T_no rfl rfl rfl rfl rfl rfl ?_
  refine T_no rfl rfl rfl rfl rfl rfl ?_
  refine T_yes rfl rfl rfl ?_ rfl
  refine T_pev rfl rfl rfl rfl ?_
  refine T_pev rfl rfl rfl rfl ?_
  refine T_pev rfl rfl rfl rfl ?_
  refine T_yes rfl rfl rfl ?_ rfl
  refine T_pev rfl rfl rfl rfl ?_
  refine T_yes rfl rfl rfl ?_ rfl
  refine T_pev rfl rfl rfl rfl ?_
  refine T_pev rfl rfl rfl rfl ?_
  refine T_pev rfl rfl rfl rfl ?_
  refine T_nil ?_
  refine W_bool 12 false rfl (decide_eq_false (by omega)) ?_
  refine W_cond_false rfl ?_
  refine W_seq ?_
  refine W_region ?_
  refine T_pev rfl rfl rfl rfl ?_
  refine T_pev rfl rfl rfl rfl ?_
  refine T_pev rfl rfl rfl rfl ?_
  refine T_pev rfl rfl rfl rfl ?_
  refine T_ari rfl rfl rfl rfl (by omega) ?_
  refine T_ari rfl rfl rfl rfl (by omega) ?_
  refine T_pev rfl rfl rfl rfl ?_
  refine T_pev rfl rfl rfl rfl ?_
  refine T_bool 37 false rfl (decide_eq_false (by omega)) ?_
  refine T_yes rfl rfl rfl ?_ rfl
  refine T_pev rfl rfl rfl rfl ?_
  refine T_yes rfl rfl rfl ?_ rfl
  refine T_pev rfl rfl rfl rfl ?_
  refine T_yes rfl rfl rfl ?_ rfl
  refine T_idxR ((Go.Au.dec r.length).length) hv rfl rfl rfl rfl rfl rfl rfl rfl rfl (by omega) (by omega) fun b41 o42 hc43 => ?_
  have hc44 := hc43 0 (bV (b.getD ((Go.Au.dec r.length).length) 0)) (at_b b ((Go.Au.dec r.length).length) (by omega))
  simp only [Nat.add_zero] at hc44
  refine T_yes rfl rfl rfl ?_ rfl
  refine T_loadG S3 hc44 rfl rfl rfl rfl rfl rfl rfl ?_
  refine T_yes rfl rfl rfl ?_ rfl
  refine T_pev rfl rfl rfl rfl ?_
  refine T_pev rfl rfl rfl rfl ?_
  refine T_pev rfl rfl rfl rfl ?_
  refine T_bool 44 false rfl (ndec_f (nr_colonI hb)) ?_
  refine T_yes rfl rfl rfl ?_ rfl
  refine T_pev rfl rfl rfl rfl ?_
  refine T_yes rfl rfl rfl ?_ rfl
  refine T_pev rfl rfl rfl rfl ?_
  refine T_yes rfl rfl rfl ?_ rfl
  refine T_ari rfl rfl rfl rfl (by omega) ?_
  refine T_yes rfl rfl rfl ?_ rfl
  refine T_pev rfl rfl rfl rfl ?_
  refine T_yes rfl rfl rfl ?_ rfl
  refine T_ari rfl rfl rfl rfl (by omega) ?_
  refine T_yes rfl rfl rfl ?_ rfl
  refine T_idxR (((Go.Au.dec r.length).length + 1) + r.length) hv rfl rfl rfl rfl rfl rfl rfl rfl rfl (by omega) (by omega) fun b45 o46 hc47 => ?_
  have hc48 := hc47 0 (bV (b.getD (((Go.Au.dec r.length).length + 1) + r.length) 0)) (at_b b (((Go.Au.dec r.length).length + 1) + r.length) (by omega))
  simp only [Nat.add_zero] at hc48
  refine T_yes rfl rfl rfl ?_ rfl
  refine T_loadG S3 hc48 rfl rfl rfl rfl rfl rfl rfl ?_
  refine T_yes rfl rfl rfl ?_ rfl
  refine T_pev rfl rfl rfl rfl ?_
  refine T_pev rfl rfl rfl rfl ?_
  refine T_pev rfl rfl rfl rfl ?_
  refine T_nil ?_
  refine W_bool 29 false rfl (ndec_f (nr_commaI hb)) ?_
  refine W_cond_false rfl ?_
  refine W_skip ?_
  refine W_seq ?_
  refine W_region ?_
  refine T_pev rfl rfl rfl rfl ?_
  refine T_pev rfl rfl rfl rfl ?_
  refine T_ari rfl rfl rfl rfl (by omega) ?_
  refine T_pev rfl rfl rfl rfl ?_
  refine T_ari rfl rfl rfl rfl (by omega) ?_
  refine T_pev rfl rfl rfl rfl ?_
  refine T_ari rfl rfl rfl rfl (by omega) ?_
  refine T_sliceR ((Go.Au.dec r.length).length + 1) (((Go.Au.dec r.length).length + 1) + r.length) hv rfl rfl rfl rfl rfl rfl rfl rfl rfl rfl (bound_of (by omega)) (bound_of (by omega)) (by omega) (by omega) fun a49 c50 hc51 r52 => ?_
  have r53 := Rd.cutB r52
  have r54 : Rd H (.slice a49 ((((Go.Au.dec r.length).length + 1) + r.length) - ((Go.Au.dec r.length).length + 1)) c50) ((((Go.Au.dec r.length).length + 1) + r.length) - ((Go.Au.dec r.length).length + 1)) 1 (r.map bV) := by rw [Go.Au.nr_take hb] at r53; exact r53
  have S55 := S3.nilRow 5 1
  refine T_appendS 0 r.length (r.map bV) S55 (fun _ _ => trivial) rfl rfl rfl rfl rfl rfl rfl rfl rfl rfl rfl rfl rfl rfl (r54.mono S55.le) (one_bV _) (by first | rfl | (simp; done) | (simp; omega) | omega) (by simp) (by unfold maxLen; omega) (by show _ * 1 ≤ _; omega) fun a56 c57 w58 hc59 S60 => ?_
  refine T_pev rfl rfl rfl rfl ?_
  refine T_nil ?_
  refine W_seq ?_
  refine W_region ?_
  refine T_pev rfl rfl rfl rfl ?_
  refine T_pev rfl rfl rfl rfl ?_
  refine T_pev rfl rfl rfl rfl ?_
  refine T_ari rfl rfl rfl rfl (by omega) ?_
  refine T_ari rfl rfl rfl rfl (by omega) ?_
  refine T_sliceR (((Go.Au.dec r.length).length + r.length) + 2) b.length hv rfl rfl rfl rfl rfl rfl rfl rfl rfl rfl (by first | rfl | exact congrArg some (by omega)) (bound_of (by omega)) (by omega) (by omega) fun a61 c62 hc63 r64 => ?_
  have r65 := Rd.cutB r64
  have r66 : Rd H (.slice a61 (b.length - (((Go.Au.dec r.length).length + r.length) + 2)) c62) (b.length - (((Go.Au.dec r.length).length + r.length) + 2)) 1 (t.map bV) := by rw [nr_rest2 hb] at r65; exact r65
  have S67 := S60.nilRow 5 1
  refine T_appendS 0 t.length (t.map bV) S67 (fun _ _ => trivial) rfl rfl rfl rfl rfl rfl rfl rfl rfl rfl rfl rfl rfl rfl (r66.mono S67.le) (one_bV _) (by first | rfl | (simp; done) | (simp; omega) | omega) (by simp) (by unfold maxLen; omega) (by show _ * 1 ≤ _; omega) fun a68 c69 w70 hc71 S72 => ?_
  refine T_pev rfl rfl rfl rfl ?_
  refine T_nil ?_
  refine W_seq ?_
  refine W_region ?_
  refine T_pev rfl rfl rfl rfl ?_
  refine T_pev rfl rfl rfl rfl ?_
  refine T_pev rfl rfl rfl rfl ?_
  refine T_pev rfl rfl rfl rfl ?_
  refine T_pev rfl rfl rfl rfl ?_
  refine T_nil ?_
  refine W_ret ?_
  refine ⟨_, ⟨_, _, rfl, rfl, ⟨_, _, rfl, rfl, ⟨_, _, rfl, rfl, rfl⟩⟩⟩, ?_⟩
  exact ⟨_, _, _, _, rfl, Rd.of_own_ext (S72.row 1 rfl), Rd.of_own_ext (S72.row 0 rfl), S72.below⟩


theorem takeNets_ok {H : Hp} {w : World} (hH : H.le (hw w)) {L : List (List UInt8)} {aa0 : Option Addr} {nn0 cc0 : Nat} (hv : Rd H (.slice aa0 nn0 cc0) nn0 1 ((Go.Au.nets L).map bV)) (hL : L.length ≤ 20) (hr : ∀ x ∈ L, x.length ≤ 10000) (hN : (Go.Au.nets L).length ≤ 1000000) :
    Calls Tryd.prog 19 #[.slice aa0 nn0 cc0, .int .i64 ((L.length : Nat) : Int)] w fun e w' => ∃ a c, L.length ≤ c ∧ e = .returned (.tuple #[.slice a L.length c, .bool true]) ∧ RdL (F.ext H w.heap.size w') (.slice a L.length c) L ∧ Below w.heap.size w w' := by
  obtain rfl : nn0 = (Go.Au.nets L).length := hv.lenB
  have hvcap : (Go.Au.nets L).length ≤ cc0 := hv.capOf
  refine enter2 _ Tryd.func19 rfl Tryd.ntmps19 Tryd.results19 rfl ?_
  have S0 := St.start w hH
  refine W_seq ?_
  refine W_region ?_
  refine T_pev rfl rfl rfl rfl ?_
  refine T_pev rfl rfl rfl rfl ?_
  refine T_nil ?_
  refine W_seq ?_
  refine W_seq ?_
  refine W_region ?_
  refine T_pev rfl rfl rfl rfl ?_
  refine T_pev rfl rfl rfl rfl ?_
  refine T_nil ?_
  refine W_bool 10 false rfl (decide_eq_false (by omega)) ?_
  refine W_cond_false rfl ?_
  refine W_skip ?_
  refine W_seq ?_
  refine W_seq ?_
  refine W_region ?_
  refine T_pev rfl rfl rfl rfl ?_
  refine T_pev rfl rfl rfl rfl ?_
  refine T_nil ?_
  refine W_block ?_
  have S1 := S0.nilRow 22 1
  have rs2 := Rds.nil H
  refine W_loop (fun M ρ w' => ∃ (k : Nat) (a5 : Option Addr) (nn6 c7 : Nat) (a9 : Option Addr) (c10 : Nat) (hs12 : List Value) (G3 : Hp), M = L.length - k ∧ k ≤ L.length ∧ ρ = [(0, .slice a5 nn6 c7), (4, .slice a9 k c10), (11, .int .i64 ((L.length : Nat) : Int)), (12, .int .i64 (k : Int))] ∧ H.le G3 ∧ St w H G3 [.row 22 1 (.slice a9 k c10) k hs12] w' ∧ Rd G3 (.slice a5 nn6 c7) nn6 1 ((Go.Au.nets (L.drop k)).map bV) ∧ Rds G3 hs12 (L.take k) ∧ k ≤ c10)
    (L.length - 0) [(0, .slice aa0 (Go.Au.nets L).length cc0), (4, .slice none 0 0), (11, .int .i64 ((L.length : Nat) : Int)), (12, .int .i64 ((0 : Nat) : Int))] ⟨rfl, rfl, (congrArg (fun z => some (Value.int .i64 z)) (by omega)), (congrArg (fun z => some (Value.int .i64 z)) (by omega)), trivial⟩ ⟨0, _, _, _, none, 0, _, H, rfl, (by omega), rfl, Hp.le.refl _, S1, hv, rs2, (Nat.le_refl _)⟩ ?_
  rintro M ρ w14 ⟨k, a5, nn6, c7, a9, c10, hs12, G3, rfl, hp16, rfl, hl4, S15, hf8, rs13, hc11⟩
  obtain rfl : nn6 = (Go.Au.nets (L.drop k)).length := hf8.lenB
  refine W_seq ?_
  refine W_region ?_
  refine T_pev rfl rfl rfl rfl ?_
  refine T_nil ?_
  refine W_seq ?_
  refine W_cond_dec rfl (fun h17 => ?_) (fun h17 => ?_)
  · refine W_skip ?_
    refine W_seq ?_
    refine W_block ?_
    refine W_seq ?_
    refine W_region ?_
    refine T_pev rfl rfl rfl rfl ?_
    refine T_callS rfl rfl g_aumbry_code_TakeNet rfl rfl rfl rfl ((takeNet_ok S15.le (r := (L.getD k [])) (t := (Go.Au.nets (L.drop (k + 1)))) hf8 (Go.Au.nets_drop (by omega)) (el_le hr (by omega)) (nd_le hN)).mono ?_)
    rintro e w25 ⟨a18, c19, a20, c21, rfl, r22, r23, hB24⟩
    obtain ⟨G27, eG29⟩ : ∃ G, G = F.ext G3 w14.heap.size w25 := ⟨_, rfl⟩
    obtain ⟨hl28, S26⟩ := S15.ext hB24
    rw [← eG29] at hl28 S26 r22 r23
    refine ⟨_, rfl, trivial, ?_⟩
    refine T_pev rfl rfl rfl rfl ?_
    refine T_pev rfl rfl rfl rfl ?_
    refine T_pev rfl rfl rfl rfl ?_
    refine T_pev rfl rfl rfl rfl ?_
    refine T_pev rfl rfl rfl rfl ?_
    refine T_pev rfl rfl rfl rfl ?_
    refine T_pev rfl rfl rfl rfl ?_
    refine T_nil ?_
    refine W_seq ?_
    refine W_seq ?_
    refine W_region ?_
    refine T_pev rfl rfl rfl rfl ?_
    refine T_pev rfl rfl rfl rfl ?_
    refine T_nil ?_
    refine W_cond_false rfl ?_
    refine W_skip ?_
    refine W_region ?_
    refine T_pev rfl rfl rfl rfl ?_
    refine T_pev rfl rfl rfl rfl ?_
    have rs34 : Rds G27 [.slice a18 (L.getD k []).length c19] [(L.getD k [])] := Rds.cons (Rd.canonB r22) (Rds.nil _)
    refine T_litS [.slice a18 (L.getD k []).length c19] rfl rfl rfl rfl rfl rfl rfl rfl rfl rfl rfl rfl rfl (by simp [Value.cells]; rfl) rfl fun a30 w31 hB32 ho33 => ?_
    have S35 := S26.own hB32 ho33
    refine ⟨trivial, ?_⟩
    have hD36 : (L.take k ++ [(L.getD k [])]) = L.take (k + 1) := (Go.Au.take_snoc (d := []) (by omega))
    refine T_appendS 1 (k + 1) _ S35 (fun _ _ => trivial) rfl rfl rfl rfl rfl rfl rfl rfl rfl rfl rfl rfl rfl rfl (S35.rd 0 rfl) rs34.one (by first | rfl | (simp; done) | (simp; omega) | omega) rfl (by unfold maxLen; omega) (by show _ * 24 ≤ _; omega) fun a37 c38 w39 hc40 S41 => ?_
    have rs42 := Rds.append (rs13.mono hl28) rs34
    rw [hD36] at rs42
    refine T_pev rfl rfl rfl rfl ?_
    refine T_pev rfl rfl rfl rfl ?_
    refine T_pev rfl rfl rfl rfl ?_
    refine T_nil ?_
    refine W_region ?_
    refine T_ari rfl rfl rfl rfl (by omega) ?_
    refine T_pev rfl rfl rfl rfl ?_
    refine T_nil ?_
    have S43 := S41.drop 0
    exact ⟨L.length - (k + 1), [(0, .slice a20 (Go.Au.nets (L.drop (k + 1))).length c21), (4, .slice a37 (k + 1) c38), (11, .int .i64 ((L.length : Nat) : Int)), (12, .int .i64 ((k + 1 : Nat) : Int))], by omega, ⟨rfl, rfl, (congrArg (fun z => some (Value.int .i64 z)) (by omega)), (congrArg (fun z => some (Value.int .i64 z)) (by omega)), trivial⟩, k + 1, _, _, _, a37, c38, _, G27, rfl, (by omega), rfl, (hl4.trans hl28), S43, r23, rs42, hc40⟩
  refine W_exit ?_
  refine W_seq ?_
  refine W_seq ?_
  refine W_region ?_
  obtain rfl : k = L.length := by omega
  have hz : (Go.Au.nets (L.drop L.length)).length = 0 := by rw [List.drop_length]; rfl
  refine T_pev rfl rfl rfl rfl ?_
  refine T_pev rfl rfl rfl rfl ?_
  refine T_pev rfl rfl rfl rfl ?_
  refine T_nil ?_
  refine W_bool 30 false rfl (decide_eq_false (by omega)) ?_
  refine W_cond_false rfl ?_
  refine W_skip ?_
  refine W_seq ?_
  refine W_region ?_
  refine T_pev rfl rfl rfl rfl ?_
  refine T_pev rfl rfl rfl rfl ?_
  refine T_pev rfl rfl rfl rfl ?_
  refine T_nil ?_
  refine W_ret ?_
  refine ⟨_, ⟨_, _, rfl, rfl, ⟨_, _, rfl, rfl, rfl⟩⟩, ?_⟩
  obtain ⟨G45, hl46, S44, r47⟩ := S15.stillRow 0 rfl
  have r48 := RdL.mk r47 (rs13.mono hl46)
  exact tn_end (List.take_length) r48 rfl hc11 S44.fin S44.below


theorem rowsB_ok {H : Hp} {w : World} (hH : H.le (hw w)) {l : List (List UInt8)} {aa0 : Option Addr} {nn0 cc0 : Nat} (hv : RdL H (.slice aa0 nn0 cc0) l) {m : List (List UInt8)} {aa1 : Option Addr} {nn1 cc1 : Nat} (hu : RdL H (.slice aa1 nn1 cc1) m) (hb : l.length ≤ 1000) (hs : ∀ x ∈ l, x.length ≤ 1000) :
    Calls Tryd.prog 18 #[.slice aa0 nn0 cc0, .slice aa1 nn1 cc1] w fun e w' => e = .returned (.bool (decide (l = m))) ∧ Below w.heap.size w w' := by
  obtain rfl : nn0 = l.length := hv.len
  obtain rfl : nn1 = m.length := hu.len
  refine enter2 _ Tryd.func18 rfl Tryd.ntmps18 Tryd.results18 rfl ?_
  have S0 := St.start w hH
  refine W_seq ?_
  refine W_region ?_
  refine T_pev rfl rfl rfl rfl ?_
  refine T_nil ?_
  refine W_seq ?_
  refine W_seq ?_
  refine W_region ?_
  refine T_pev rfl rfl rfl rfl ?_
  refine T_pev rfl rfl rfl rfl ?_
  refine T_pev rfl rfl rfl rfl ?_
  refine T_pev rfl rfl rfl rfl ?_
  refine T_pev rfl rfl rfl rfl ?_
  refine T_nil ?_
  refine W_cond_not rfl (fun h1 => ?_) (fun h1 => ?_)
  · refine W_seq ?_
    refine W_region ?_
    refine T_pev rfl rfl rfl rfl ?_
    refine T_nil ?_
    refine W_ret ?_
    refine ⟨_, ⟨_, _, rfl, rfl, rfl⟩, ?_⟩
    exact ⟨congrArg (fun z => Ending.returned (Value.bool z)) (decide_eq_false (fun e => h1 (by rw [e]))).symm, S0.below⟩
  refine W_skip ?_
  refine W_seq ?_
  refine W_seq ?_
  refine W_region ?_
  refine T_pev rfl rfl rfl rfl ?_
  refine T_nil ?_
  refine W_block ?_
  refine W_loop (fun M ρ w' => ∃ (k : Nat) (G2 : Hp), M = l.length - k ∧ k ≤ l.length ∧ l.take k = m.take k ∧ ρ = [(0, .slice aa0 l.length cc0), (1, .slice aa1 m.length cc1), (5, .int .i64 (k : Int))] ∧ H.le G2 ∧ St w H G2 [] w')
    (l.length - 0) [(0, .slice aa0 l.length cc0), (1, .slice aa1 m.length cc1), (5, .int .i64 ((0 : Nat) : Int))] ⟨rfl, rfl, (congrArg (fun z => some (Value.int .i64 z)) (by omega)), trivial⟩ ⟨0, H, rfl, (by omega), (by simp), rfl, Hp.le.refl _, S0⟩ ?_
  rintro M ρ w4 ⟨k, G2, rfl, hp6, hq, rfl, hl3, S5⟩
  refine W_seq ?_
  refine W_seq ?_
  refine W_region ?_
  refine T_pev rfl rfl rfl rfl ?_
  refine T_pev rfl rfl rfl rfl ?_
  refine T_pev rfl rfl rfl rfl ?_
  refine T_pev rfl rfl rfl rfl ?_
  refine T_nil ?_
  refine W_cond_dec rfl (fun h8 => ?_) (fun h8 => ?_)
  · refine W_skip ?_
    refine W_seq ?_
    refine W_block ?_
    refine W_seq ?_
    refine W_draw rfl (by kernel_rfl) ?_
    have S9 := S5.drew
    have hlk := el_le hs (k := k) (by omega)
    refine T_pev rfl rfl rfl rfl ?_
    refine T_pev rfl rfl rfl rfl ?_
    obtain ⟨hs13, r14, r15⟩ := (hv.mono hl3)
    refine T_idxR k r14 rfl rfl rfl rfl rfl rfl rfl rfl rfl (by omega) (by omega) fun b10 o11 hc12 => ?_
    obtain ⟨a18, c19, hc21, hv17, r20⟩ := r15.at k (by omega)
    have hc22 := hc12 0 (.slice a18 (l.getD k []).length c19) (by simpa using hv17)
    simp only [Nat.add_zero] at hc22
    refine T_loadG S9 hc22 rfl rfl rfl rfl rfl rfl rfl ?_
    refine T_pev rfl rfl rfl rfl ?_
    refine T_pev rfl rfl rfl rfl ?_
    obtain ⟨hs26, r27, r28⟩ := (hu.mono hl3)
    refine T_idxR k r27 rfl rfl rfl rfl rfl rfl rfl rfl rfl (by omega) (by omega) fun b23 o24 hc25 => ?_
    obtain ⟨a31, c32, hc34, hv30, r33⟩ := r28.at k (by omega)
    have hc35 := hc25 0 (.slice a31 (m.getD k []).length c32) (by simpa using hv30)
    simp only [Nat.add_zero] at hc35
    refine T_loadG S9 hc35 rfl rfl rfl rfl rfl rfl rfl ?_
    refine T_callS rfl rfl g_aumbry_aumbrykeep_Same_byte rfl rfl rfl rfl ((sameB_ok S9.le r20 r33 (by first | omega | (simp; done) | (simp only [List.length_take, List.length_drop]; omega))).mono ?_)
    rintro e w37 ⟨rfl, hB36⟩
    have S38 := S9.call hB36
    refine ⟨_, rfl, trivial, ?_⟩
    refine T_pev rfl rfl rfl rfl ?_
    refine T_nil ?_
    refine W_cond_not rfl (fun h39 => ?_) (fun h39 => ?_)
    · refine W_seq ?_
      refine W_region ?_
      refine T_pev rfl rfl rfl rfl ?_
      refine T_nil ?_
      refine W_ret ?_
      refine ⟨_, ⟨_, _, rfl, rfl, rfl⟩, ?_⟩
      exact ⟨congrArg (fun z => Ending.returned (Value.bool z)) (decide_eq_false (getD_ne (d := []) h39)).symm, S38.below⟩
    refine W_skip ?_
    refine W_region ?_
    refine T_pev rfl rfl rfl rfl ?_
    refine T_ari rfl rfl rfl rfl (by omega) ?_
    refine T_pev rfl rfl rfl rfl ?_
    refine T_nil ?_
    have HEQ : l.getD k [] = m.getD k [] := by exact h39
    exact ⟨l.length - (k + 1), [(0, .slice aa0 l.length cc0), (1, .slice aa1 m.length cc1), (5, .int .i64 ((k + 1 : Nat) : Int))], by omega, ⟨rfl, rfl, (congrArg (fun z => some (Value.int .i64 z)) (by omega)), trivial⟩, k + 1, G2, rfl, (by omega), (by exact take_ext (d := []) (by omega) (by omega) hq HEQ), rfl, hl3, S38⟩
  refine W_exit ?_
  refine W_seq ?_
  refine W_region ?_
  refine T_pev rfl rfl rfl rfl ?_
  refine T_nil ?_
  refine W_ret ?_
  refine ⟨_, ⟨_, _, rfl, rfl, rfl⟩, ?_⟩
  have hk : k = l.length := by omega
  have heq : l = m := by rw [hk, List.take_length, List.take_of_length_le (by omega)] at hq; exact hq
  exact ⟨congrArg (fun z => Ending.returned (Value.bool z)) (decide_eq_true heq).symm, S5.below⟩


theorem cutRows_ok {H : Hp} {w : World} (hH : H.le (hw w)) {l : List (List UInt8)} {aa0 : Option Addr} {nn0 cc0 : Nat} (hv : RdL H (.slice aa0 nn0 cc0) l) (hb : l.length ≤ 100) :
    Calls Tryd.prog 17 #[.slice aa0 nn0 cc0] w fun e w' => ∃ a c, l.length ≤ c ∧ e = .returned (.slice a l.length c) ∧ RdL (F.ext H w.heap.size w') (.slice a l.length c) (Go.Au.cuts l l.length) ∧ Below w.heap.size w w' := by
  obtain rfl : nn0 = l.length := hv.len
  refine enter1 _ Tryd.func17 rfl Tryd.ntmps17 Tryd.results17 rfl ?_
  have S0 := St.start w hH
  refine W_seq ?_
  refine W_region ?_
  refine T_pev rfl rfl rfl rfl ?_
  refine T_nil ?_
  refine W_seq ?_
  refine W_region ?_
  refine T_pev rfl rfl rfl rfl ?_
  refine T_nil ?_
  refine W_seq ?_
  refine W_seq ?_
  refine W_region ?_
  refine T_pev rfl rfl rfl rfl ?_
  refine T_pev rfl rfl rfl rfl ?_
  refine T_pev rfl rfl rfl rfl ?_
  refine T_nil ?_
  refine W_block ?_
  have S1 := S0.nilRow 22 1
  have rs2 := Rds.nil H
  refine W_loop (fun M ρ w' => ∃ (k : Nat) (a5 : Option Addr) (c6 : Nat) (hs8 : List Value) (G3 : Hp), M = l.length - k ∧ k ≤ l.length ∧ ρ = [(0, .slice aa0 l.length cc0), (3, .slice a5 k c6), (6, .int .i64 ((l.length : Nat) : Int)), (7, .int .i64 (k : Int))] ∧ H.le G3 ∧ St w H G3 [.row 22 1 (.slice a5 k c6) k hs8] w' ∧ Rds G3 hs8 (Go.Au.cuts l k) ∧ k ≤ c6)
    (l.length - 0) [(0, .slice aa0 l.length cc0), (3, .slice none 0 0), (6, .int .i64 ((l.length : Nat) : Int)), (7, .int .i64 ((0 : Nat) : Int))] ⟨rfl, rfl, (congrArg (fun z => some (Value.int .i64 z)) (by omega)), (congrArg (fun z => some (Value.int .i64 z)) (by omega)), trivial⟩ ⟨0, none, 0, _, H, rfl, (by omega), rfl, Hp.le.refl _, S1, rs2, (Nat.le_refl _)⟩ ?_
  rintro M ρ w10 ⟨k, a5, c6, hs8, G3, rfl, hp12, rfl, hl4, S11, rs9, hc7⟩
  refine W_seq ?_
  refine W_region ?_
  refine T_pev rfl rfl rfl rfl ?_
  refine T_nil ?_
  refine W_seq ?_
  refine W_cond_dec rfl (fun h13 => ?_) (fun h13 => ?_)
  · refine W_skip ?_
    refine W_seq ?_
    refine W_block ?_
    refine W_seq ?_
    refine W_region ?_
    refine T_pev rfl rfl rfl rfl ?_
    refine T_pev rfl rfl rfl rfl ?_
    refine T_nil ?_
    refine W_region ?_
    refine T_pev rfl rfl rfl rfl ?_
    refine T_pev rfl rfl rfl rfl ?_
    refine T_pev rfl rfl rfl rfl ?_
    obtain ⟨hs17, r18, r19⟩ := (hv.mono hl4)
    refine T_idxR k r18 rfl rfl rfl rfl rfl rfl rfl rfl rfl (by omega) (by omega) fun b14 o15 hc16 => ?_
    obtain ⟨a22, c23, hc25, hv21, r24⟩ := r19.at k (by omega)
    have hc26 := hc16 0 (.slice a22 (l.getD k []).length c23) (by simpa using hv21)
    simp only [Nat.add_zero] at hc26
    refine T_loadG S11 hc26 rfl rfl rfl rfl rfl rfl rfl ?_
    refine T_callS rfl rfl g_aumbry_aumbrykeep_Cut_byte rfl rfl rfl rfl ((cutB_ok S11.le r24 100).mono ?_)
    rintro e w32 ⟨a27, c28, hc29, rfl, hr30, hB31⟩
    have S33 := S11.call hB31
    refine ⟨_, rfl, trivial, ?_⟩
    have rs38 : Rds G3 [.slice a27 ((l.getD k []).take 100).length c28] [((l.getD k []).take 100)] := Rds.cons (Rd.canonB hr30) (Rds.nil _)
    refine T_litS [.slice a27 ((l.getD k []).take 100).length c28] rfl rfl rfl rfl rfl rfl rfl rfl rfl rfl rfl rfl rfl (by simp [Value.cells]; rfl) rfl fun a34 w35 hB36 ho37 => ?_
    have S39 := S33.own hB36 ho37
    refine ⟨trivial, ?_⟩
    have hD40 : (Go.Au.cuts l k ++ [((l.getD k []).take 100)]) = Go.Au.cuts l (k + 1) := (Go.Au.cuts_snoc (by omega))
    refine T_appendS 1 (k + 1) _ S39 (fun _ _ => trivial) rfl rfl rfl rfl rfl rfl rfl rfl rfl rfl rfl rfl rfl rfl (S39.rd 0 rfl) rs38.one (by first | rfl | (simp; done) | (simp; omega) | omega) rfl (by unfold maxLen; omega) (by show _ * 24 ≤ _; omega) fun a41 c42 w43 hc44 S45 => ?_
    have rs46 := Rds.append rs9 rs38
    rw [hD40] at rs46
    refine T_pev rfl rfl rfl rfl ?_
    refine T_nil ?_
    refine W_region ?_
    refine T_ari rfl rfl rfl rfl (by omega) ?_
    refine T_pev rfl rfl rfl rfl ?_
    refine T_nil ?_
    have S47 := S45.drop 0
    exact ⟨l.length - (k + 1), [(0, .slice aa0 l.length cc0), (3, .slice a41 (k + 1) c42), (6, .int .i64 ((l.length : Nat) : Int)), (7, .int .i64 ((k + 1 : Nat) : Int))], by omega, ⟨rfl, rfl, (congrArg (fun z => some (Value.int .i64 z)) (by omega)), (congrArg (fun z => some (Value.int .i64 z)) (by omega)), trivial⟩, k + 1, a41, c42, _, G3, rfl, (by omega), rfl, hl4, S47, rs46, hc44⟩
  refine W_exit ?_
  refine W_seq ?_
  refine W_region ?_
  obtain rfl : k = l.length := by omega
  refine T_pev rfl rfl rfl rfl ?_
  refine T_pev rfl rfl rfl rfl ?_
  refine T_nil ?_
  refine W_ret ?_
  refine ⟨_, ⟨_, _, rfl, rfl, rfl⟩, ?_⟩
  obtain ⟨G49, hl50, S48, r51⟩ := S11.stillRow 0 rfl
  have r52 := RdL.mk r51 (rs9.mono hl50)
  exact ⟨_, _, hc7, rfl, (r52).mono S48.fin, S48.below⟩


set_option maxHeartbeats 2000000 in
theorem shaTexts_ok {H : Hp} {w : World} (hH : H.le (hw w)) (hT : Tabs H) {a b : List UInt8} {l : List (List UInt8)} {aa2 : Option Addr} {nn2 cc2 : Nat} (hv : RdL H (.slice aa2 nn2 cc2) l) {m : List (List UInt8)} {aa3 : Option Addr} {nn3 cc3 : Nat} (hu : RdL H (.slice aa3 nn3 cc3) m) :
    Calls Tryd.prog 5 #[str a, str b, .slice aa2 nn2 cc2, .slice aa3 nn3 cc3] w fun e w' => e = .returned (.bool true) ∧ Below w.heap.size w w' := by
  obtain rfl : nn2 = l.length := hv.len
  obtain rfl : nn3 = m.length := hu.len
  refine enter4 _ Tryd.func5 rfl Tryd.ntmps5 Tryd.results5 rfl ?_
  have S0 := St.start w hH
  refine W_seq ?_
  refine W_region ?_
  refine T_pev rfl rfl rfl rfl ?_
  refine T_nil ?_
  refine W_seq ?_
  refine W_seq ?_
  refine W_region ?_
  refine T_pev rfl rfl rfl rfl ?_
  refine T_lenStr rfl rfl rfl rfl rfl rfl ?_
  refine T_pev rfl rfl rfl rfl ?_
  refine T_pev rfl rfl rfl rfl ?_
  refine T_part (t := 19) rfl (List.cons_ne_nil _ _) (fun h1' => ?_) (fun h1' => ?_)
  · have h1 := of_decide_eq_true h1'
    refine T_no rfl rfl rfl rfl rfl rfl ?_
    refine T_no rfl rfl rfl rfl rfl rfl ?_
    refine T_no rfl rfl rfl rfl rfl rfl ?_
    refine T_pev rfl rfl rfl rfl ?_
    refine T_pev rfl rfl rfl rfl ?_
    refine T_no rfl rfl rfl rfl rfl rfl ?_
    refine T_no rfl rfl rfl rfl rfl rfl ?_
    refine T_no rfl rfl rfl rfl rfl rfl ?_
    refine T_pev rfl rfl rfl rfl ?_
    refine T_pev rfl rfl rfl rfl ?_
    refine T_no rfl rfl rfl rfl rfl rfl ?_
    refine T_no rfl rfl rfl rfl rfl rfl ?_
    refine T_no rfl rfl rfl rfl rfl rfl ?_
    refine T_pev rfl rfl rfl rfl ?_
    refine T_nil ?_
    refine W_cond_true rfl ?_
    refine W_seq ?_
    refine W_region ?_
    refine T_callS rfl rfl g_aumbry_aumbrylaw02_wakes rfl rfl rfl rfl ((wakesN_ok S0.le ).mono ?_)
    rintro e w3 ⟨rfl, hB2⟩
    have S4 := S0.call hB2
    refine ⟨_, rfl, trivial, ?_⟩
    refine T_pev rfl rfl rfl rfl ?_
    refine T_nil ?_
    refine W_ret ?_
    refine ⟨_, ⟨_, _, rfl, rfl, rfl⟩, ?_⟩
    exact ⟨rfl, S4.below⟩
  have h1 := of_decide_eq_false h1'
  refine T_yes rfl rfl rfl ?_ rfl
  refine T_pev rfl rfl rfl rfl ?_
  refine T_yes rfl rfl rfl ?_ rfl
  refine T_lenStr rfl rfl rfl rfl rfl rfl ?_
  refine T_yes rfl rfl rfl ?_ rfl
  refine T_pev rfl rfl rfl rfl ?_
  refine T_pev rfl rfl rfl rfl ?_
  refine T_pev rfl rfl rfl rfl ?_
  refine T_part (t := 24) rfl (List.cons_ne_nil _ _) (fun h5' => ?_) (fun h5' => ?_)
  · have h5 := of_decide_eq_true h5'
    refine T_no rfl rfl rfl rfl rfl rfl ?_
    refine T_no rfl rfl rfl rfl rfl rfl ?_
    refine T_no rfl rfl rfl rfl rfl rfl ?_
    refine T_pev rfl rfl rfl rfl ?_
    refine T_pev rfl rfl rfl rfl ?_
    refine T_no rfl rfl rfl rfl rfl rfl ?_
    refine T_no rfl rfl rfl rfl rfl rfl ?_
    refine T_no rfl rfl rfl rfl rfl rfl ?_
    refine T_pev rfl rfl rfl rfl ?_
    refine T_nil ?_
    refine W_cond_true rfl ?_
    refine W_seq ?_
    refine W_region ?_
    refine T_callS rfl rfl g_aumbry_aumbrylaw02_wakes rfl rfl rfl rfl ((wakesN_ok S0.le ).mono ?_)
    rintro e w7 ⟨rfl, hB6⟩
    have S8 := S0.call hB6
    refine ⟨_, rfl, trivial, ?_⟩
    refine T_pev rfl rfl rfl rfl ?_
    refine T_nil ?_
    refine W_ret ?_
    refine ⟨_, ⟨_, _, rfl, rfl, rfl⟩, ?_⟩
    exact ⟨rfl, S8.below⟩
  have h5 := of_decide_eq_false h5'
  refine T_yes rfl rfl rfl ?_ rfl
  refine T_pev rfl rfl rfl rfl ?_
  refine T_yes rfl rfl rfl ?_ rfl
  refine T_pev rfl rfl rfl rfl ?_
  refine T_yes rfl rfl rfl ?_ rfl
  refine T_pev rfl rfl rfl rfl ?_
  refine T_pev rfl rfl rfl rfl ?_
  refine T_pev rfl rfl rfl rfl ?_
  refine T_part (t := 29) rfl (List.cons_ne_nil _ _) (fun h9' => ?_) (fun h9' => ?_)
  · have h9 := of_decide_eq_true h9'
    refine T_no rfl rfl rfl rfl rfl rfl ?_
    refine T_no rfl rfl rfl rfl rfl rfl ?_
    refine T_no rfl rfl rfl rfl rfl rfl ?_
    refine T_pev rfl rfl rfl rfl ?_
    refine T_nil ?_
    refine W_cond_true rfl ?_
    refine W_seq ?_
    refine W_region ?_
    refine T_callS rfl rfl g_aumbry_aumbrylaw02_wakes rfl rfl rfl rfl ((wakesN_ok S0.le ).mono ?_)
    rintro e w11 ⟨rfl, hB10⟩
    have S12 := S0.call hB10
    refine ⟨_, rfl, trivial, ?_⟩
    refine T_pev rfl rfl rfl rfl ?_
    refine T_nil ?_
    refine W_ret ?_
    refine ⟨_, ⟨_, _, rfl, rfl, rfl⟩, ?_⟩
    exact ⟨rfl, S12.below⟩
  have h9 := of_decide_eq_false h9'
  refine T_yes rfl rfl rfl ?_ rfl
  refine T_pev rfl rfl rfl rfl ?_
  refine T_yes rfl rfl rfl ?_ rfl
  refine T_pev rfl rfl rfl rfl ?_
  refine T_yes rfl rfl rfl ?_ rfl
  refine T_pev rfl rfl rfl rfl ?_
  refine T_pev rfl rfl rfl rfl ?_
  refine T_nil ?_
  refine W_cond_dec rfl (fun h13 => ?_) (fun h13 => ?_)
  · refine W_seq ?_
    refine W_region ?_
    refine T_callS rfl rfl g_aumbry_aumbrylaw02_wakes rfl rfl rfl rfl ((wakesN_ok S0.le ).mono ?_)
    rintro e w15 ⟨rfl, hB14⟩
    have S16 := S0.call hB14
    refine ⟨_, rfl, trivial, ?_⟩
    refine T_pev rfl rfl rfl rfl ?_
    refine T_nil ?_
    refine W_ret ?_
    refine ⟨_, ⟨_, _, rfl, rfl, rfl⟩, ?_⟩
    exact ⟨rfl, S16.below⟩
  refine W_skip ?_
  refine W_seq ?_
  refine W_region ?_
  refine T_pev rfl rfl rfl rfl ?_
  refine T_callS rfl rfl g_aumbry_aumbrylaw02_cutRows rfl rfl rfl rfl ((cutRows_ok S0.le hv (by omega)).mono ?_)
  rintro e w22 ⟨a17, c18, hc19, rfl, hr20, hB21⟩
  obtain ⟨G24, eG26⟩ : ∃ G, G = F.ext H w.heap.size w22 := ⟨_, rfl⟩
  obtain ⟨hl25, S23⟩ := S0.ext hB21
  rw [← eG26] at hl25 S23 hr20
  refine ⟨_, rfl, trivial, ?_⟩
  refine T_pev rfl rfl rfl rfl ?_
  refine T_callS rfl rfl g_aumbry_aumbrylaw02_cutRows rfl rfl rfl rfl ((cutRows_ok S23.le (hu.mono hl25) (by omega)).mono ?_)
  rintro e w32 ⟨a27, c28, hc29, rfl, hr30, hB31⟩
  obtain ⟨G34, eG36⟩ : ∃ G, G = F.ext G24 w22.heap.size w32 := ⟨_, rfl⟩
  obtain ⟨hl35, S33⟩ := S23.ext hB31
  rw [← eG36] at hl35 S33 hr30
  refine ⟨_, rfl, trivial, ?_⟩
  refine T_pev rfl rfl rfl rfl ?_
  refine T_pev rfl rfl rfl rfl ?_
  refine T_nil ?_
  refine W_seq ?_
  refine W_region ?_
  have hla := cuts_text (tag := a) (l := l) (k := l.length) (by omega) (by omega)
  have hmb := cuts_text (tag := b) (l := m) (k := m.length) (by omega) (by omega)
  have hcl := Go.Au.cuts_len l l.length (Nat.le_refl _)
  have hcm := Go.Au.cuts_len m m.length (Nat.le_refl _)
  have htl := Go.Au.tagged_len a (Go.Au.cuts l l.length)
  refine T_pev rfl rfl rfl rfl ?_
  refine T_pev rfl rfl rfl rfl ?_
  refine T_callS rfl rfl g_aumbry_sha_Text rfl rfl rfl rfl ((text_ok S33.le (hT.mono (hl25.trans hl35)) (hr20.mono hl35) (by omega)).mono ?_)
  rintro e w42 ⟨a37, c38, hc39, rfl, ho40, hB41⟩
  have S43 := S33.own hB41 ho40
  refine ⟨_, rfl, trivial, ?_⟩
  refine T_pev rfl rfl rfl rfl ?_
  refine T_pev rfl rfl rfl rfl ?_
  refine T_callS rfl rfl g_aumbry_sha_Text rfl rfl rfl rfl ((text_ok S43.le (hT.mono (hl25.trans hl35)) hr30 (by omega)).mono ?_)
  rintro e w49 ⟨a44, c45, hc46, rfl, ho47, hB48⟩
  have S50 := S43.own hB48 ho47
  refine ⟨_, rfl, trivial, ?_⟩
  refine T_pev rfl rfl rfl rfl ?_
  refine T_pev rfl rfl rfl rfl ?_
  refine T_nil ?_
  refine W_seq ?_
  refine W_seq ?_
  refine W_region ?_
  refine T_pev rfl rfl rfl rfl ?_
  refine T_pev rfl rfl rfl rfl ?_
  obtain ⟨G52, hl53, S51, r54⟩ := S50.stillRow 1 rfl
  obtain ⟨G56, hl57, S55, r58⟩ := S51.stillRow 0 rfl
  refine T_callS rfl rfl g_aumbry_aumbrykeep_Same_byte rfl rfl rfl rfl ((sameB_ok S55.le (r54.mono hl57) r58 (by first | omega | (simp; done) | (simp only [List.length_take, List.length_drop]; omega))).mono ?_)
  rintro e w60 ⟨rfl, hB59⟩
  have S61 := S55.call hB59
  refine ⟨_, rfl, trivial, ?_⟩
  refine T_pev rfl rfl rfl rfl ?_
  refine T_pev rfl rfl rfl rfl ?_
  refine T_streq rfl rfl rfl rfl rfl rfl ?_
  refine T_pev rfl rfl rfl rfl ?_
  refine T_part (t := 51) rfl (List.cons_ne_nil _ _) (fun h62' => ?_) (fun h62' => ?_)
  · have h62 := of_decide_eq_true h62'
    refine T_yes rfl rfl rfl ?_ rfl
    refine T_pev rfl rfl rfl rfl ?_
    refine T_yes rfl rfl rfl ?_ rfl
    refine T_pev rfl rfl rfl rfl ?_
    refine T_yes rfl rfl rfl ?_ rfl
    refine T_callS rfl rfl g_aumbry_aumbrykeep_Rows_byte rfl rfl rfl rfl ((rowsB_ok S61.le (hr20.mono (hl35.trans (hl53.trans hl57))) (hr30.mono (hl53.trans hl57)) (by omega) (cuts_1000 _ _)).mono ?_)
    rintro e w64 ⟨rfl, hB63⟩
    have S65 := S61.call hB63
    refine ⟨_, rfl, trivial, ?_⟩
    refine T_pev rfl rfl rfl rfl ?_
    refine T_bne rfl rfl rfl rfl rfl rfl rfl ?_
    refine T_nil ?_
    refine W_bool 56 false rfl (ndec_f (Go.Au.text_dec h62)) ?_
    refine W_cond_false rfl ?_
    refine W_skip ?_
    refine W_seq ?_
    refine W_region ?_
    refine T_pev rfl rfl rfl rfl ?_
    refine T_pev rfl rfl rfl rfl ?_
    refine T_pev rfl rfl rfl rfl ?_
    refine T_ari rfl rfl rfl rfl (by omega) ?_
    refine T_re (v' := .int .i64 (((a :: (Go.Au.cuts l l.length)).length : Nat) : Int)) (congrArg (Value.int .i64) (by rw [List.length_cons]; omega)) ?_
    refine T_callS rfl rfl g_aumbry_code_TakeNets rfl rfl rfl rfl ((takeNets_ok S65.le (L := (a :: (Go.Au.cuts l l.length))) (r54.mono hl57) (by rw [List.length_cons]; omega) (cons_10000 (by omega)) (by show (Go.Au.text a (Go.Au.cuts l l.length)).length ≤ _; omega)).mono ?_)
    rintro e w71 ⟨a66, c67, hc68, rfl, r69, hB70⟩
    obtain ⟨G73, eG75⟩ : ∃ G, G = F.ext G56 w64.heap.size w71 := ⟨_, rfl⟩
    obtain ⟨hl74, S72⟩ := S65.ext hB70
    rw [← eG75] at hl74 S72 r69
    refine ⟨_, rfl, trivial, ?_⟩
    refine T_pev rfl rfl rfl rfl ?_
    refine T_pev rfl rfl rfl rfl ?_
    refine T_pev rfl rfl rfl rfl ?_
    refine T_pev rfl rfl rfl rfl ?_
    refine T_pev rfl rfl rfl rfl ?_
    refine T_nil ?_
    refine W_seq ?_
    refine W_seq ?_
    refine W_region ?_
    refine T_pev rfl rfl rfl rfl ?_
    refine T_pev rfl rfl rfl rfl ?_
    refine T_pev rfl rfl rfl rfl ?_
    refine T_yes rfl rfl rfl ?_ rfl
    refine T_pev rfl rfl rfl rfl ?_
    refine T_yes rfl rfl rfl ?_ rfl
    refine T_pev rfl rfl rfl rfl ?_
    refine T_yes rfl rfl rfl ?_ rfl
    refine T_pev rfl rfl rfl rfl ?_
    refine T_yes rfl rfl rfl ?_ rfl
    refine T_pev rfl rfl rfl rfl ?_
    refine T_yes rfl rfl rfl ?_ rfl
    refine T_ari rfl rfl rfl rfl (by omega) ?_
    refine T_yes rfl rfl rfl ?_ rfl
    refine T_pev rfl rfl rfl rfl ?_
    refine T_pev rfl rfl rfl rfl ?_
    refine T_pev rfl rfl rfl rfl ?_
    refine T_bool 75 false rfl (ndec_f (by rw [List.length_cons]; omega)) ?_
    refine T_yes rfl rfl rfl ?_ rfl
    have hLl : (a :: (Go.Au.cuts l l.length)).length = (Go.Au.cuts l l.length).length + 1 := List.length_cons
    refine T_pev rfl rfl rfl rfl ?_
    refine T_yes rfl rfl rfl ?_ rfl
    obtain ⟨hs79, r80, r81⟩ := (id r69)
    refine T_idxR 0 r80 rfl rfl rfl rfl rfl rfl rfl rfl rfl (by omega) (by omega) fun b76 o77 hc78 => ?_
    obtain ⟨a84, c85, hc87, hv83, r86⟩ := r81.at 0 (by omega)
    have hc88 := hc78 0 (.slice a84 ((a :: (Go.Au.cuts l l.length)).getD 0 []).length c85) (by simpa using hv83)
    simp only [Nat.add_zero] at hc88
    refine T_yes rfl rfl rfl ?_ rfl
    refine T_loadG S72 hc88 rfl rfl rfl rfl rfl rfl rfl ?_
    refine T_yes rfl rfl rfl ?_ rfl
    refine T_convG S72 r86 rfl rfl rfl rfl rfl rfl rfl rfl rfl ?_
    refine T_yes rfl rfl rfl ?_ rfl
    refine T_pev rfl rfl rfl rfl ?_
    refine T_yes rfl rfl rfl ?_ rfl
    refine T_strne rfl rfl rfl rfl rfl rfl ?_
    refine T_pev rfl rfl rfl rfl ?_
    refine T_pev rfl rfl rfl rfl ?_
    refine T_bool 83 false rfl (ndec_f rfl) ?_
    refine T_yes rfl rfl rfl ?_ rfl
    refine T_pev rfl rfl rfl rfl ?_
    refine T_yes rfl rfl rfl ?_ rfl
    refine T_callS rfl rfl g_aumbry_sha_Sum rfl rfl rfl rfl ((sumN_ok S72.le (r54.mono (hl57.trans hl74)) (by omega)).mono ?_)
    rintro e w90 ⟨rfl, hB89⟩
    have S91 := S72.call hB89
    refine ⟨_, rfl, trivial, ?_⟩
    refine T_yes rfl rfl rfl ?_ rfl
    refine T_pev rfl rfl rfl rfl ?_
    refine T_yes rfl rfl rfl ?_ rfl
    refine T_pev rfl rfl rfl rfl ?_
    refine T_yes rfl rfl rfl ?_ rfl
    refine T_callS rfl rfl g_aumbry_sha_Tagged rfl rfl rfl rfl ((tagged_ok S91.le (hT.mono (hl25.trans (hl35.trans (hl53.trans (hl57.trans hl74))))) (hr20.mono (hl35.trans (hl53.trans (hl57.trans hl74)))) (by omega)).mono ?_)
    rintro e w93 ⟨rfl, hB92⟩
    have S94 := S91.call hB92
    refine ⟨_, rfl, trivial, ?_⟩
    refine T_yes rfl rfl rfl ?_ rfl
    refine T_neB (xs := Go.Sha.sha (Go.Au.text a (Go.Au.cuts l l.length))) (ys := Go.Au.tagged a (Go.Au.cuts l l.length)) rfl rfl rfl rfl rfl rfl rfl rfl rfl rfl rfl (Go.Sha.sha_len _) (Go.Au.tagged_len _ _) ?_
    refine T_pev rfl rfl rfl rfl ?_
    refine T_nil ?_
    refine W_bool 90 false rfl (ndec_f rfl) ?_
    refine W_cond_false rfl ?_
    refine W_skip ?_
    refine W_seq ?_
    refine W_region ?_
    refine T_pev rfl rfl rfl rfl ?_
    refine T_pev rfl rfl rfl rfl ?_
    refine T_callS rfl rfl g_aumbry_sha_Short rfl rfl rfl rfl ((short_ok S94.le (hT.mono (hl25.trans (hl35.trans (hl53.trans (hl57.trans hl74))))) (hr20.mono (hl35.trans (hl53.trans (hl57.trans hl74)))) (by omega)).mono ?_)
    rintro e w96 ⟨rfl, hB95⟩
    have S97 := S94.call hB95
    refine ⟨_, rfl, trivial, ?_⟩
    refine T_pev rfl rfl rfl rfl ?_
    refine T_pev rfl rfl rfl rfl ?_
    refine T_callS rfl rfl g_aumbry_sha_Tagged rfl rfl rfl rfl ((tagged_ok S97.le (hT.mono (hl25.trans (hl35.trans (hl53.trans (hl57.trans hl74))))) (hr20.mono (hl35.trans (hl53.trans (hl57.trans hl74)))) (by omega)).mono ?_)
    rintro e w99 ⟨rfl, hB98⟩
    have S100 := S97.call hB98
    refine ⟨_, rfl, trivial, ?_⟩
    refine T_allocS S100 (fun _ _ => trivial) rfl rfl rfl rfl rfl rfl rfl fun b101 w102 S103 => ?_
    refine T_allocS S103 (fun _ _ => trivial) rfl rfl rfl rfl rfl rfl rfl fun b104 w105 S106 => ?_
    refine T_storeFS 1 S106 (fun _ _ => trivial) rfl rfl rfl rfl rfl rfl rfl rfl rfl (hVs (key_len a (Go.Au.cuts l l.length))) (hVs (key_len a (Go.Au.cuts l l.length))) (one_hA _) fun w107 S108 => ?_
    refine T_storeFS 0 S108 (fun _ _ => trivial) rfl rfl rfl rfl rfl rfl rfl rfl rfl (hVs (Go.Au.tagged_len _ _)) (hVs (Go.Au.tagged_len _ _)) (one_hA _) fun w109 S110 => ?_
    refine T_nil ?_
    refine W_seq ?_
    refine W_seq ?_
    refine W_region ?_
    refine T_pev rfl rfl rfl rfl ?_
    refine T_nil ?_
    refine W_block ?_
    refine W_loop (fun M ρ w' => ∃ (k : Nat) (G111 : Hp), M = 16 - k ∧ k ≤ 16 ∧ ρ = [(13, .pointer (some ⟨b101, 0, none⟩)), (14, .pointer (some ⟨b104, 0, none⟩)), (97, .int .i64 (k : Int))] ∧ G73.le G111 ∧ St w H G111 [.blk b104 (hV (Go.Au.tagged a (Go.Au.cuts l l.length)) : Value).cells 29, .blk b101 (hV ((Go.Au.tagged a (Go.Au.cuts l l.length)).take 16) : Value).cells 26] w')
      (16 - 0) [(13, .pointer (some ⟨b101, 0, none⟩)), (14, .pointer (some ⟨b104, 0, none⟩)), (97, .int .i64 ((0 : Nat) : Int))] ⟨rfl, rfl, (congrArg (fun z => some (Value.int .i64 z)) (by omega)), trivial⟩ ⟨0, G73, rfl, (by omega), rfl, Hp.le.refl _, S110⟩ ?_
    rintro M ρ w113 ⟨k, G111, rfl, hp115, rfl, hl112, S114⟩
    refine W_seq ?_
    refine W_region ?_
    refine T_pev rfl rfl rfl rfl ?_
    refine T_nil ?_
    refine W_seq ?_
    refine W_cond_dec rfl (fun h116 => ?_) (fun h116 => ?_)
    · refine W_skip ?_
      refine W_seq ?_
      refine W_block ?_
      refine W_seq ?_
      refine W_region ?_
      refine T_pev rfl rfl rfl rfl ?_
      refine T_pev rfl rfl rfl rfl ?_
      refine T_nil ?_
      refine W_seq ?_
      refine W_draw rfl (by kernel_rfl) ?_
      have S117 := S114.drew
      refine T_pev rfl rfl rfl rfl ?_
      refine T_idxA1 rfl rfl rfl rfl rfl rfl rfl rfl rfl (by first | omega | decide) ?_
      refine T_loadS 1 k S117 rfl rfl rfl rfl rfl rfl rfl rfl (by omega) (cell_hV _ k (by rw [(key_len a (Go.Au.cuts l l.length))]; omega)) ?_
      refine T_pev rfl rfl rfl rfl ?_
      refine T_idxA1 rfl rfl rfl rfl rfl rfl rfl rfl rfl (by first | omega | decide) ?_
      refine T_loadS 0 k S117 rfl rfl rfl rfl rfl rfl rfl rfl (by omega) (cell_hV _ k (by rw [(Go.Au.tagged_len _ _)]; omega)) ?_
      refine T_pev rfl rfl rfl rfl ?_
      refine T_nil ?_
      refine W_bool 106 false rfl (ndec_f (by rw [key_at (by omega)])) ?_
      refine W_cond_false rfl ?_
      refine W_skip ?_
      refine W_region ?_
      refine T_ari rfl rfl rfl rfl (by omega) ?_
      refine T_pev rfl rfl rfl rfl ?_
      refine T_nil ?_
      exact ⟨16 - (k + 1), [(13, .pointer (some ⟨b101, 0, none⟩)), (14, .pointer (some ⟨b104, 0, none⟩)), (97, .int .i64 ((k + 1 : Nat) : Int))], by omega, ⟨rfl, rfl, (congrArg (fun z => some (Value.int .i64 z)) (by omega)), trivial⟩, k + 1, G111, rfl, (by omega), rfl, hl112, S117⟩
    refine W_exit ?_
    refine W_seq ?_
    refine W_region ?_
    refine T_callS rfl rfl g_aumbry_aumbrylaw02_wakes rfl rfl rfl rfl ((wakesN_ok S114.le ).mono ?_)
    rintro e w119 ⟨rfl, hB118⟩
    have S120 := S114.call hB118
    refine ⟨_, rfl, trivial, ?_⟩
    refine T_pev rfl rfl rfl rfl ?_
    refine T_nil ?_
    refine W_ret ?_
    refine ⟨_, ⟨_, _, rfl, rfl, rfl⟩, ?_⟩
    exact ⟨rfl, S120.below⟩
  have h62 := of_decide_eq_false h62'
  refine T_no rfl rfl rfl rfl rfl rfl ?_
  refine T_no rfl rfl rfl rfl rfl rfl ?_
  refine T_no rfl rfl rfl rfl rfl rfl ?_
  refine T_pev rfl rfl rfl rfl ?_
  refine T_bne rfl rfl rfl rfl rfl rfl rfl ?_
  refine T_nil ?_
  refine W_bool 56 false rfl (ndec_f (decide_eq_false (fun e => h62 (Go.Au.text_inj e).1))) ?_
  refine W_cond_false rfl ?_
  refine W_skip ?_
  refine W_seq ?_
  refine W_region ?_
  refine T_pev rfl rfl rfl rfl ?_
  refine T_pev rfl rfl rfl rfl ?_
  refine T_pev rfl rfl rfl rfl ?_
  refine T_ari rfl rfl rfl rfl (by omega) ?_
  refine T_re (v' := .int .i64 (((a :: (Go.Au.cuts l l.length)).length : Nat) : Int)) (congrArg (Value.int .i64) (by rw [List.length_cons]; omega)) ?_
  refine T_callS rfl rfl g_aumbry_code_TakeNets rfl rfl rfl rfl ((takeNets_ok S61.le (L := (a :: (Go.Au.cuts l l.length))) (r54.mono hl57) (by rw [List.length_cons]; omega) (cons_10000 (by omega)) (by show (Go.Au.text a (Go.Au.cuts l l.length)).length ≤ _; omega)).mono ?_)
  rintro e w126 ⟨a121, c122, hc123, rfl, r124, hB125⟩
  obtain ⟨G128, eG130⟩ : ∃ G, G = F.ext G56 w60.heap.size w126 := ⟨_, rfl⟩
  obtain ⟨hl129, S127⟩ := S61.ext hB125
  rw [← eG130] at hl129 S127 r124
  refine ⟨_, rfl, trivial, ?_⟩
  refine T_pev rfl rfl rfl rfl ?_
  refine T_pev rfl rfl rfl rfl ?_
  refine T_pev rfl rfl rfl rfl ?_
  refine T_pev rfl rfl rfl rfl ?_
  refine T_pev rfl rfl rfl rfl ?_
  refine T_nil ?_
  refine W_seq ?_
  refine W_seq ?_
  refine W_region ?_
  refine T_pev rfl rfl rfl rfl ?_
  refine T_pev rfl rfl rfl rfl ?_
  refine T_pev rfl rfl rfl rfl ?_
  refine T_yes rfl rfl rfl ?_ rfl
  refine T_pev rfl rfl rfl rfl ?_
  refine T_yes rfl rfl rfl ?_ rfl
  refine T_pev rfl rfl rfl rfl ?_
  refine T_yes rfl rfl rfl ?_ rfl
  refine T_pev rfl rfl rfl rfl ?_
  refine T_yes rfl rfl rfl ?_ rfl
  refine T_pev rfl rfl rfl rfl ?_
  refine T_yes rfl rfl rfl ?_ rfl
  refine T_ari rfl rfl rfl rfl (by omega) ?_
  refine T_yes rfl rfl rfl ?_ rfl
  refine T_pev rfl rfl rfl rfl ?_
  refine T_pev rfl rfl rfl rfl ?_
  refine T_pev rfl rfl rfl rfl ?_
  refine T_bool 75 false rfl (ndec_f (by rw [List.length_cons]; omega)) ?_
  refine T_yes rfl rfl rfl ?_ rfl
  have hLl : (a :: (Go.Au.cuts l l.length)).length = (Go.Au.cuts l l.length).length + 1 := List.length_cons
  refine T_pev rfl rfl rfl rfl ?_
  refine T_yes rfl rfl rfl ?_ rfl
  obtain ⟨hs134, r135, r136⟩ := (id r124)
  refine T_idxR 0 r135 rfl rfl rfl rfl rfl rfl rfl rfl rfl (by omega) (by omega) fun b131 o132 hc133 => ?_
  obtain ⟨a139, c140, hc142, hv138, r141⟩ := r136.at 0 (by omega)
  have hc143 := hc133 0 (.slice a139 ((a :: (Go.Au.cuts l l.length)).getD 0 []).length c140) (by simpa using hv138)
  simp only [Nat.add_zero] at hc143
  refine T_yes rfl rfl rfl ?_ rfl
  refine T_loadG S127 hc143 rfl rfl rfl rfl rfl rfl rfl ?_
  refine T_yes rfl rfl rfl ?_ rfl
  refine T_convG S127 r141 rfl rfl rfl rfl rfl rfl rfl rfl rfl ?_
  refine T_yes rfl rfl rfl ?_ rfl
  refine T_pev rfl rfl rfl rfl ?_
  refine T_yes rfl rfl rfl ?_ rfl
  refine T_strne rfl rfl rfl rfl rfl rfl ?_
  refine T_pev rfl rfl rfl rfl ?_
  refine T_pev rfl rfl rfl rfl ?_
  refine T_bool 83 false rfl (ndec_f rfl) ?_
  refine T_yes rfl rfl rfl ?_ rfl
  refine T_pev rfl rfl rfl rfl ?_
  refine T_yes rfl rfl rfl ?_ rfl
  refine T_callS rfl rfl g_aumbry_sha_Sum rfl rfl rfl rfl ((sumN_ok S127.le (r54.mono (hl57.trans hl129)) (by omega)).mono ?_)
  rintro e w145 ⟨rfl, hB144⟩
  have S146 := S127.call hB144
  refine ⟨_, rfl, trivial, ?_⟩
  refine T_yes rfl rfl rfl ?_ rfl
  refine T_pev rfl rfl rfl rfl ?_
  refine T_yes rfl rfl rfl ?_ rfl
  refine T_pev rfl rfl rfl rfl ?_
  refine T_yes rfl rfl rfl ?_ rfl
  refine T_callS rfl rfl g_aumbry_sha_Tagged rfl rfl rfl rfl ((tagged_ok S146.le (hT.mono (hl25.trans (hl35.trans (hl53.trans (hl57.trans hl129))))) (hr20.mono (hl35.trans (hl53.trans (hl57.trans hl129)))) (by omega)).mono ?_)
  rintro e w148 ⟨rfl, hB147⟩
  have S149 := S146.call hB147
  refine ⟨_, rfl, trivial, ?_⟩
  refine T_yes rfl rfl rfl ?_ rfl
  refine T_neB (xs := Go.Sha.sha (Go.Au.text a (Go.Au.cuts l l.length))) (ys := Go.Au.tagged a (Go.Au.cuts l l.length)) rfl rfl rfl rfl rfl rfl rfl rfl rfl rfl rfl (Go.Sha.sha_len _) (Go.Au.tagged_len _ _) ?_
  refine T_pev rfl rfl rfl rfl ?_
  refine T_nil ?_
  refine W_bool 90 false rfl (ndec_f rfl) ?_
  refine W_cond_false rfl ?_
  refine W_skip ?_
  refine W_seq ?_
  refine W_region ?_
  refine T_pev rfl rfl rfl rfl ?_
  refine T_pev rfl rfl rfl rfl ?_
  refine T_callS rfl rfl g_aumbry_sha_Short rfl rfl rfl rfl ((short_ok S149.le (hT.mono (hl25.trans (hl35.trans (hl53.trans (hl57.trans hl129))))) (hr20.mono (hl35.trans (hl53.trans (hl57.trans hl129)))) (by omega)).mono ?_)
  rintro e w151 ⟨rfl, hB150⟩
  have S152 := S149.call hB150
  refine ⟨_, rfl, trivial, ?_⟩
  refine T_pev rfl rfl rfl rfl ?_
  refine T_pev rfl rfl rfl rfl ?_
  refine T_callS rfl rfl g_aumbry_sha_Tagged rfl rfl rfl rfl ((tagged_ok S152.le (hT.mono (hl25.trans (hl35.trans (hl53.trans (hl57.trans hl129))))) (hr20.mono (hl35.trans (hl53.trans (hl57.trans hl129)))) (by omega)).mono ?_)
  rintro e w154 ⟨rfl, hB153⟩
  have S155 := S152.call hB153
  refine ⟨_, rfl, trivial, ?_⟩
  refine T_allocS S155 (fun _ _ => trivial) rfl rfl rfl rfl rfl rfl rfl fun b156 w157 S158 => ?_
  refine T_allocS S158 (fun _ _ => trivial) rfl rfl rfl rfl rfl rfl rfl fun b159 w160 S161 => ?_
  refine T_storeFS 1 S161 (fun _ _ => trivial) rfl rfl rfl rfl rfl rfl rfl rfl rfl (hVs (key_len a (Go.Au.cuts l l.length))) (hVs (key_len a (Go.Au.cuts l l.length))) (one_hA _) fun w162 S163 => ?_
  refine T_storeFS 0 S163 (fun _ _ => trivial) rfl rfl rfl rfl rfl rfl rfl rfl rfl (hVs (Go.Au.tagged_len _ _)) (hVs (Go.Au.tagged_len _ _)) (one_hA _) fun w164 S165 => ?_
  refine T_nil ?_
  refine W_seq ?_
  refine W_seq ?_
  refine W_region ?_
  refine T_pev rfl rfl rfl rfl ?_
  refine T_nil ?_
  refine W_block ?_
  refine W_loop (fun M ρ w' => ∃ (k : Nat) (G166 : Hp), M = 16 - k ∧ k ≤ 16 ∧ ρ = [(13, .pointer (some ⟨b156, 0, none⟩)), (14, .pointer (some ⟨b159, 0, none⟩)), (97, .int .i64 (k : Int))] ∧ G128.le G166 ∧ St w H G166 [.blk b159 (hV (Go.Au.tagged a (Go.Au.cuts l l.length)) : Value).cells 29, .blk b156 (hV ((Go.Au.tagged a (Go.Au.cuts l l.length)).take 16) : Value).cells 26] w')
    (16 - 0) [(13, .pointer (some ⟨b156, 0, none⟩)), (14, .pointer (some ⟨b159, 0, none⟩)), (97, .int .i64 ((0 : Nat) : Int))] ⟨rfl, rfl, (congrArg (fun z => some (Value.int .i64 z)) (by omega)), trivial⟩ ⟨0, G128, rfl, (by omega), rfl, Hp.le.refl _, S165⟩ ?_
  rintro M ρ w168 ⟨k, G166, rfl, hp170, rfl, hl167, S169⟩
  refine W_seq ?_
  refine W_region ?_
  refine T_pev rfl rfl rfl rfl ?_
  refine T_nil ?_
  refine W_seq ?_
  refine W_cond_dec rfl (fun h171 => ?_) (fun h171 => ?_)
  · refine W_skip ?_
    refine W_seq ?_
    refine W_block ?_
    refine W_seq ?_
    refine W_region ?_
    refine T_pev rfl rfl rfl rfl ?_
    refine T_pev rfl rfl rfl rfl ?_
    refine T_nil ?_
    refine W_seq ?_
    refine W_draw rfl (by kernel_rfl) ?_
    have S172 := S169.drew
    refine T_pev rfl rfl rfl rfl ?_
    refine T_idxA1 rfl rfl rfl rfl rfl rfl rfl rfl rfl (by first | omega | decide) ?_
    refine T_loadS 1 k S172 rfl rfl rfl rfl rfl rfl rfl rfl (by omega) (cell_hV _ k (by rw [(key_len a (Go.Au.cuts l l.length))]; omega)) ?_
    refine T_pev rfl rfl rfl rfl ?_
    refine T_idxA1 rfl rfl rfl rfl rfl rfl rfl rfl rfl (by first | omega | decide) ?_
    refine T_loadS 0 k S172 rfl rfl rfl rfl rfl rfl rfl rfl (by omega) (cell_hV _ k (by rw [(Go.Au.tagged_len _ _)]; omega)) ?_
    refine T_pev rfl rfl rfl rfl ?_
    refine T_nil ?_
    refine W_bool 106 false rfl (ndec_f (by rw [key_at (by omega)])) ?_
    refine W_cond_false rfl ?_
    refine W_skip ?_
    refine W_region ?_
    refine T_ari rfl rfl rfl rfl (by omega) ?_
    refine T_pev rfl rfl rfl rfl ?_
    refine T_nil ?_
    exact ⟨16 - (k + 1), [(13, .pointer (some ⟨b156, 0, none⟩)), (14, .pointer (some ⟨b159, 0, none⟩)), (97, .int .i64 ((k + 1 : Nat) : Int))], by omega, ⟨rfl, rfl, (congrArg (fun z => some (Value.int .i64 z)) (by omega)), trivial⟩, k + 1, G166, rfl, (by omega), rfl, hl167, S172⟩
  refine W_exit ?_
  refine W_seq ?_
  refine W_region ?_
  refine T_callS rfl rfl g_aumbry_aumbrylaw02_wakes rfl rfl rfl rfl ((wakesN_ok S169.le ).mono ?_)
  rintro e w174 ⟨rfl, hB173⟩
  have S175 := S169.call hB173
  refine ⟨_, rfl, trivial, ?_⟩
  refine T_pev rfl rfl rfl rfl ?_
  refine T_nil ?_
  refine W_ret ?_
  refine ⟨_, ⟨_, _, rfl, rfl, rfl⟩, ?_⟩
  exact ⟨rfl, S175.below⟩

end Go.Proofs.YtikgpfhjhfpmbaaDoor
