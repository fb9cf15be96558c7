/- Breaks: the document's. -/
import Derived.Test.YtadiakpbodlecaaDoorTreeE
set_option linter.unusedVariables false
set_option linter.unusedSimpArgs false
set_option maxRecDepth 8192
namespace Go.Proofs.YtadiakpbodlecaaDoor
open Go Go.F Go.RowKit

theorem okW_bd {n i : Int} {m : Nat} (h : Go.Au.okW n i m = true) : m ≤ 8 := by
  have e := Go.Au.okW_of h
  have := Go.Au.lg_le (n := n.toNat) (m := 8) (by omega)
  omega
theorem wts_even {i k : Nat} {x : List UInt8} {p : List (List UInt8)} (h : ¬ i / 2 ^ k % 2 = 1) (hc : (Go.Au.climb i x p k).length = 32) : Go.Au.wtexts i x p k ++ [Go.Au.text [110, 111, 100, 101] [Go.Au.climb i x p k, p.getD k []]] = Go.Au.wtexts i x p (k + 1) := by
  rw [← Go.Au.wtexts_snoc, onW_even h, Go.Au.textP_app hc]; rfl
theorem wts_odd {i k : Nat} {x : List UInt8} {p : List (List UInt8)} (h : i / 2 ^ k % 2 = 1) (hc : (p.getD k []).length = 32) : Go.Au.wtexts i x p k ++ [Go.Au.text [110, 111, 100, 101] [p.getD k [], Go.Au.climb i x p k]] = Go.Au.wtexts i x p (k + 1) := by
  rw [← Go.Au.wtexts_snoc, onW_odd h, Go.Au.textP_app hc]; rfl
theorem textsj_bd {i m j : Nat} {x : List UInt8} {p : List (List UInt8)} (hx : x.length = 32) (hp : ∀ b ∈ p, b.length = 32) (hm : m ≤ p.length) (hj : j < m) : ((Go.Au.wtexts i x p m).getD j []).length ≤ 100000 := by
  rw [Go.Au.wtexts_at _ _ _ hj]
  exact Nat.le_trans (Nat.le_of_lt (textP_bd (Go.Au.getD_len (Go.Au.ways_all i hx hp hm) (by rw [Go.Au.ways_len]; exact hj)))) (by decide)
section
variable {n i : Int} {x y : List UInt8} {p q : List (List UInt8)}
theorem wtexts_waysH (h : Go.Au.okW n i p.length = true) {j : Nat} (hj : j < p.length) : (Go.Au.wtexts i.toNat x p p.length).getD j [] = Go.Au.textP ((Go.Au.waysH n i x p).getD j []) := by
  rw [Go.Au.wtexts_at _ _ _ hj, Go.Au.waysH_ok h]
theorem brk_texts (h1 : Go.Au.okW n i p.length = true) (h2 : Go.Au.okW n i q.length = true) {j : Nat} (hj : j < p.length)
    (h : (!decide ((Go.Au.wtexts i.toNat x p p.length).getD j [] = (Go.Au.wtexts i.toNat y q p.length).getD j []) && decide (Go.Sha.sha ((Go.Au.wtexts i.toNat x p p.length).getD j []) = Go.Sha.sha ((Go.Au.wtexts i.toNat y q p.length).getD j []))) = true) :
    ¬ (Go.Au.waysH n i x p).getD j [] = (Go.Au.waysH n i y q).getD j [] ∧ (Go.Au.wtexts i.toNat x p p.length).getD j [] = Go.Au.textP ((Go.Au.waysH n i x p).getD j []) ∧ (Go.Au.wtexts i.toNat y q p.length).getD j [] = Go.Au.textP ((Go.Au.waysH n i y q).getD j []) := by
  have e1 := Go.Au.okW_of h1
  have e2 := Go.Au.okW_of h2
  have hl : q.length = p.length := by omega
  have t1 := wtexts_waysH (x := x) h1 hj
  have t2 := wtexts_waysH (x := y) h2 (show j < q.length by omega)
  rw [hl] at t2
  refine ⟨fun e => ?_, t1, t2⟩
  rw [t1, t2, e] at h
  simp at h
theorem brk_stepT (ha : x.length = 32) (hb : y.length = 32) (hp : ∀ b ∈ p, b.length = 32) (hq : ∀ b ∈ q, b.length = 32) (h1 : Go.Au.okW n i p.length = true) (h2 : Go.Au.okW n i q.length = true) (h3 : Go.Au.climbH n i x p = Go.Au.climbH n i y q) {j : Nat} (hj : j < p.length)
    (hi : Go.Au.lastNe (Go.Au.waysH n i x p) (Go.Au.waysH n i y q) p.length = Go.Au.lastNe (Go.Au.waysH n i x p) (Go.Au.waysH n i y q) (j + 1))
    (h : (!decide ((Go.Au.wtexts i.toNat x p p.length).getD j [] = (Go.Au.wtexts i.toNat y q p.length).getD j []) && decide (Go.Sha.sha ((Go.Au.wtexts i.toNat x p p.length).getD j []) = Go.Sha.sha ((Go.Au.wtexts i.toNat y q p.length).getD j []))) = false) :
    (Go.Au.waysH n i x p).getD j [] = (Go.Au.waysH n i y q).getD j [] := by
  have e1 := Go.Au.okW_of h1
  have e2 := Go.Au.okW_of h2
  have hl : q.length = p.length := by omega
  have t1 := wtexts_waysH (x := x) h1 hj
  have t2 := wtexts_waysH (x := y) h2 (show j < q.length by omega)
  rw [hl] at t2
  rw [t1, t2] at h
  exact Go.Au.brk_step ha hb hp hq h1 h2 h3 hj hi h
end
set_option maxHeartbeats 2000000 in
theorem breakR_ok {H : Hp} {w : World} (hH : H.le (hw w)) (n i : Int) {x y : List UInt8} (hx : x.length = 32) (hy : y.length = 32) {p : List (List UInt8)} {aa4 : Option Addr} {nn4 cc4 : Nat} (hp : RdH H (.slice aa4 nn4 cc4) 32 p) {q : List (List UInt8)} {aa5 : Option Addr} {nn5 cc5 : Nat} (hq : RdH H (.slice aa5 nn5 cc5) 32 q) :
    Calls Tryd.prog 36 #[.int .i64 n, .int .i64 i, hV x, hV y, .slice aa4 nn4 cc4, .slice aa5 nn5 cc5] w fun e w' => ∃ a1 c1 a2 c2, e = .returned (.tuple #[.agg #[.slice a1 (Go.Au.brA (Go.Au.brk n i x y p q)).length c1, .slice a2 (Go.Au.brB (Go.Au.brk n i x y p q)).length c2], .bool (Go.Au.brk n i x y p q).isSome]) ∧ Rd (F.ext H w.heap.size w') (.slice a1 (Go.Au.brA (Go.Au.brk n i x y p q)).length c1) (Go.Au.brA (Go.Au.brk n i x y p q)).length 1 ((Go.Au.brA (Go.Au.brk n i x y p q)).map bV) ∧ Rd (F.ext H w.heap.size w') (.slice a2 (Go.Au.brB (Go.Au.brk n i x y p q)).length c2) (Go.Au.brB (Go.Au.brk n i x y p q)).length 1 ((Go.Au.brB (Go.Au.brk n i x y p q)).map bV) ∧ Below w.heap.size w w' := by
  obtain rfl : nn4 = p.length := hp.len
  have hpcap : p.length ≤ cc4 := hp.2.capOf
  obtain rfl : nn5 = q.length := hq.len
  have hqcap : q.length ≤ cc5 := hq.2.capOf
  refine enter6 _ Tryd.func36 rfl Tryd.ntmps36 Tryd.results36 rfl ?_
  have S0 := St.start w hH
  refine W_seq ?_
  refine W_region ?_
  refine T_boxS S0 (fun _ _ => trivial) rfl rfl rfl rfl rfl rfl fun b1 w2 S3 => ?_
  refine T_boxS S3 (fun _ _ => trivial) rfl rfl rfl rfl rfl rfl fun b4 w5 S6 => ?_
  refine T_allocS S6 (fun _ _ => trivial) rfl rfl rfl rfl rfl rfl rfl fun b7 w8 S9 => ?_
  refine T_pev rfl rfl rfl rfl ?_
  refine T_nil ?_
  refine W_seq ?_
  refine W_region ?_
  refine T_pev rfl rfl rfl rfl ?_
  refine T_pev rfl rfl rfl rfl ?_
  refine T_loadFS 2 S9 rfl rfl rfl rfl rfl rfl rfl rfl rfl (hVs hx) ?_
  refine T_pev rfl rfl rfl rfl ?_
  refine T_callS rfl rfl g_aumbry_aumbryref07_Climb rfl rfl rfl rfl ((climbR_ok S9.le n i hx hp).mono ?_)
  rintro e w11 ⟨rfl, hB10⟩
  have S12 := S9.call hB10
  refine ⟨_, rfl, trivial, ?_⟩
  refine T_pev rfl rfl rfl rfl ?_
  refine T_pev rfl rfl rfl rfl ?_
  refine T_pev rfl rfl rfl rfl ?_
  refine T_allocS S12 (fun _ _ => trivial) rfl rfl rfl rfl rfl rfl rfl fun b13 w14 S15 => ?_
  refine T_storeFS 0 S15 (fun _ _ => trivial) rfl rfl rfl rfl rfl rfl rfl rfl rfl (hVs (Go.Au.climbH_len _ _ hx _)) (hVs (Go.Au.climbH_len _ _ hx _)) (one_hA _) fun w16 S17 => ?_
  refine T_pev rfl rfl rfl rfl ?_
  refine T_nil ?_
  refine W_seq ?_
  refine W_region ?_
  refine T_pev rfl rfl rfl rfl ?_
  refine T_pev rfl rfl rfl rfl ?_
  refine T_loadFS 2 S17 rfl rfl rfl rfl rfl rfl rfl rfl rfl (hVs hy) ?_
  refine T_pev rfl rfl rfl rfl ?_
  refine T_callS rfl rfl g_aumbry_aumbryref07_Climb rfl rfl rfl rfl ((climbR_ok S17.le n i hy hq).mono ?_)
  rintro e w19 ⟨rfl, hB18⟩
  have S20 := S17.call hB18
  refine ⟨_, rfl, trivial, ?_⟩
  refine T_pev rfl rfl rfl rfl ?_
  refine T_pev rfl rfl rfl rfl ?_
  refine T_pev rfl rfl rfl rfl ?_
  refine T_allocS S20 (fun _ _ => trivial) rfl rfl rfl rfl rfl rfl rfl fun b21 w22 S23 => ?_
  refine T_storeFS 0 S23 (fun _ _ => trivial) rfl rfl rfl rfl rfl rfl rfl rfl rfl (hVs (Go.Au.climbH_len _ _ hy _)) (hVs (Go.Au.climbH_len _ _ hy _)) (one_hA _) fun w24 S25 => ?_
  refine T_pev rfl rfl rfl rfl ?_
  refine T_nil ?_
  refine W_seq ?_
  refine W_seq ?_
  refine W_region ?_
  refine T_pev rfl rfl rfl rfl ?_
  refine T_pev rfl rfl rfl rfl ?_
  refine T_pev rfl rfl rfl rfl ?_
  refine T_part (t := 41) rfl (List.cons_ne_nil _ _) (fun h26' => ?_) (fun h26' => ?_)
  · have h26 := h26'
    refine T_no rfl rfl rfl rfl rfl rfl ?_
    refine T_no rfl rfl rfl rfl rfl rfl ?_
    refine T_pev rfl rfl rfl rfl ?_
    refine T_pev rfl rfl rfl rfl ?_
    refine T_no rfl rfl rfl rfl rfl rfl ?_
    refine T_no rfl rfl rfl rfl rfl rfl ?_
    refine T_no rfl rfl rfl rfl rfl rfl ?_
    refine T_pev rfl rfl rfl rfl ?_
    refine T_pev rfl rfl rfl rfl ?_
    refine T_no rfl rfl rfl rfl rfl rfl ?_
    refine T_no rfl rfl rfl rfl rfl rfl ?_
    refine T_no rfl rfl rfl rfl rfl rfl ?_
    refine T_no rfl rfl rfl rfl rfl rfl ?_
    refine T_un rfl rfl rfl rfl rfl ?_
    refine T_un rfl rfl rfl rfl rfl ?_
    refine T_un rfl rfl rfl rfl rfl ?_
    refine T_no rfl rfl rfl rfl rfl rfl ?_
    refine T_pev rfl rfl rfl rfl ?_
    refine T_nil ?_
    refine W_cond_true rfl ?_
    refine W_seq ?_
    refine W_region ?_
    refine T_buildS (cells := #[.slice none 0 0, .slice none 0 0]) rfl rfl rfl rfl rfl rfl rfl rfl rfl rfl ?_
    refine T_storeFS 2 S25 (fun _ _ => trivial) rfl rfl rfl rfl rfl rfl rfl rfl rfl (by first | rfl | simp [hVs, *]) (by first | rfl | simp [hVs, *]) (one_all rfl) fun w27 S28 => ?_
    refine T_pev rfl rfl rfl rfl ?_
    refine T_nil ?_
    refine W_ret ?_
    refine ⟨_, ⟨_, _, _, rfl, rfl, run_loadVarA rfl rfl (by first | rfl | simp [hVs, *]) (S28.cells 2 rfl), ⟨_, _, rfl, rfl, rfl⟩⟩, ?_⟩
    have hno : (Go.Au.brk n i x y p q) = none := Go.Au.brk_no1 (by simpa using h26)
    rw [hno]
    exact ⟨none, 0, none, 0, rfl, nilB _, nilB _, S28.below⟩
  have h26 := h26'
  refine T_yes rfl rfl rfl ?_ rfl
  refine T_pev rfl rfl rfl rfl ?_
  refine T_yes rfl rfl rfl ?_ rfl
  refine T_pev rfl rfl rfl rfl ?_
  refine T_pev rfl rfl rfl rfl ?_
  refine T_pev rfl rfl rfl rfl ?_
  refine T_part (t := 45) rfl (List.cons_ne_nil _ _) (fun h29' => ?_) (fun h29' => ?_)
  · have h29 := h29'
    refine T_no rfl rfl rfl rfl rfl rfl ?_
    refine T_no rfl rfl rfl rfl rfl rfl ?_
    refine T_no rfl rfl rfl rfl rfl rfl ?_
    refine T_pev rfl rfl rfl rfl ?_
    refine T_pev rfl rfl rfl rfl ?_
    refine T_no rfl rfl rfl rfl rfl rfl ?_
    refine T_no rfl rfl rfl rfl rfl rfl ?_
    refine T_no rfl rfl rfl rfl rfl rfl ?_
    refine T_no rfl rfl rfl rfl rfl rfl ?_
    refine T_un rfl rfl rfl rfl rfl ?_
    refine T_un rfl rfl rfl rfl rfl ?_
    refine T_un rfl rfl rfl rfl rfl ?_
    refine T_no rfl rfl rfl rfl rfl rfl ?_
    refine T_pev rfl rfl rfl rfl ?_
    refine T_nil ?_
    refine W_cond_true rfl ?_
    refine W_seq ?_
    refine W_region ?_
    refine T_buildS (cells := #[.slice none 0 0, .slice none 0 0]) rfl rfl rfl rfl rfl rfl rfl rfl rfl rfl ?_
    refine T_storeFS 2 S25 (fun _ _ => trivial) rfl rfl rfl rfl rfl rfl rfl rfl rfl (by first | rfl | simp [hVs, *]) (by first | rfl | simp [hVs, *]) (one_all rfl) fun w30 S31 => ?_
    refine T_pev rfl rfl rfl rfl ?_
    refine T_nil ?_
    refine W_ret ?_
    refine ⟨_, ⟨_, _, _, rfl, rfl, run_loadVarA rfl rfl (by first | rfl | simp [hVs, *]) (S31.cells 2 rfl), ⟨_, _, rfl, rfl, rfl⟩⟩, ?_⟩
    have hno : (Go.Au.brk n i x y p q) = none := Go.Au.brk_no2 (by simpa using h29)
    rw [hno]
    exact ⟨none, 0, none, 0, rfl, nilB _, nilB _, S31.below⟩
  have h29 := h29'
  refine T_yes rfl rfl rfl ?_ rfl
  refine T_loadFS 1 S25 rfl rfl rfl rfl rfl rfl rfl rfl rfl (hVs (Go.Au.climbH_len _ _ hx _)) ?_
  refine T_yes rfl rfl rfl ?_ rfl
  refine T_loadFS 0 S25 rfl rfl rfl rfl rfl rfl rfl rfl rfl (hVs (Go.Au.climbH_len _ _ hy _)) ?_
  refine T_yes rfl rfl rfl ?_ rfl
  refine T_neB (xs := Go.Au.climbH n i x p) (ys := Go.Au.climbH n i y q) rfl rfl rfl rfl rfl rfl rfl rfl rfl rfl rfl (Go.Au.climbH_len _ _ hx _) (Go.Au.climbH_len _ _ hy _) ?_
  refine T_pev rfl rfl rfl rfl ?_
  refine T_pev rfl rfl rfl rfl ?_
  refine T_part (t := 50) rfl (List.cons_ne_nil _ _) (fun h32' => ?_) (fun h32' => ?_)
  · have h32 := of_ndec_t h32'
    refine T_no rfl rfl rfl rfl rfl rfl ?_
    refine T_no rfl rfl rfl rfl rfl rfl ?_
    refine T_no rfl rfl rfl rfl rfl rfl ?_
    refine T_no rfl rfl rfl rfl rfl rfl ?_
    refine T_un rfl rfl rfl rfl rfl ?_
    refine T_un rfl rfl rfl rfl rfl ?_
    refine T_un rfl rfl rfl rfl rfl ?_
    refine T_no rfl rfl rfl rfl rfl rfl ?_
    refine T_pev rfl rfl rfl rfl ?_
    refine T_nil ?_
    refine W_cond_true rfl ?_
    refine W_seq ?_
    refine W_region ?_
    refine T_buildS (cells := #[.slice none 0 0, .slice none 0 0]) rfl rfl rfl rfl rfl rfl rfl rfl rfl rfl ?_
    refine T_storeFS 2 S25 (fun _ _ => trivial) rfl rfl rfl rfl rfl rfl rfl rfl rfl (by first | rfl | simp [hVs, *]) (by first | rfl | simp [hVs, *]) (one_all rfl) fun w33 S34 => ?_
    refine T_pev rfl rfl rfl rfl ?_
    refine T_nil ?_
    refine W_ret ?_
    refine ⟨_, ⟨_, _, _, rfl, rfl, run_loadVarA rfl rfl (by first | rfl | simp [hVs, *]) (S34.cells 2 rfl), ⟨_, _, rfl, rfl, rfl⟩⟩, ?_⟩
    have hno : (Go.Au.brk n i x y p q) = none := Go.Au.brk_no3 h32
    rw [hno]
    exact ⟨none, 0, none, 0, rfl, nilB _, nilB _, S34.below⟩
  have h32 := of_ndec_f h32'
  refine T_yes rfl rfl rfl ?_ rfl
  refine T_loadFS 4 S25 rfl rfl rfl rfl rfl rfl rfl rfl rfl (hVs hx) ?_
  refine T_yes rfl rfl rfl ?_ rfl
  refine T_loadFS 3 S25 rfl rfl rfl rfl rfl rfl rfl rfl rfl (hVs hy) ?_
  refine T_yes rfl rfl rfl ?_ rfl
  refine T_eqB (xs := x) (ys := y) rfl rfl rfl rfl rfl rfl rfl rfl rfl rfl rfl hx hy ?_
  refine T_yes rfl rfl rfl ?_ rfl
  refine T_pev rfl rfl rfl rfl ?_
  refine T_part (t := 54) rfl (List.cons_ne_nil _ _) (fun h35' => ?_) (fun h35' => ?_)
  · have h35 := of_decide_eq_true h35'
    refine T_yes rfl rfl rfl ?_ rfl
    refine T_pev rfl rfl rfl rfl ?_
    refine T_yes rfl rfl rfl ?_ rfl
    refine T_pev rfl rfl rfl rfl ?_
    refine T_yes rfl rfl rfl ?_ rfl
    have hP8 := okW_bd (n := n) (i := i) (m := p.length) (by simpa using h26)
    refine T_callS rfl rfl g_aumbry_aumbryref07_same rfl rfl rfl rfl ((sameRef_ok S25.le hp hq (by first | omega | (simp; done) | (simp only [List.length_take, List.length_drop]; omega))).mono ?_)
    rintro e w37 ⟨rfl, hB36⟩
    have S38 := S25.call hB36
    refine ⟨_, rfl, trivial, ?_⟩
    refine T_yes rfl rfl rfl ?_ rfl
    refine T_pev rfl rfl rfl rfl ?_
    refine T_pev rfl rfl rfl rfl ?_
    refine T_nil ?_
    refine W_cond_dec rfl (fun h39 => ?_) (fun h39 => ?_)
    · refine W_seq ?_
      refine W_region ?_
      refine T_buildS (cells := #[.slice none 0 0, .slice none 0 0]) rfl rfl rfl rfl rfl rfl rfl rfl rfl rfl ?_
      refine T_storeFS 2 S38 (fun _ _ => trivial) rfl rfl rfl rfl rfl rfl rfl rfl rfl (by first | rfl | simp [hVs, *]) (by first | rfl | simp [hVs, *]) (one_all rfl) fun w40 S41 => ?_
      refine T_pev rfl rfl rfl rfl ?_
      refine T_nil ?_
      refine W_ret ?_
      refine ⟨_, ⟨_, _, _, rfl, rfl, run_loadVarA rfl rfl (by first | rfl | simp [hVs, *]) (S41.cells 2 rfl), ⟨_, _, rfl, rfl, rfl⟩⟩, ?_⟩
      have hno : (Go.Au.brk n i x y p q) = none := (by rw [h35, h39]; exact Go.Au.brk_same)
      rw [hno]
      exact ⟨none, 0, none, 0, rfl, nilB _, nilB _, S41.below⟩
    refine W_skip ?_
    refine W_seq ?_
    have hok1 : Go.Au.okW n i p.length = true := by simpa using h26
    have hok2 : Go.Au.okW n i q.length = true := by simpa using h29
    have hcl : Go.Au.climbH n i x p = Go.Au.climbH n i y q := by simpa using h32
    have hXl := Go.Au.waysH_len (x := x) hok1
    have hYl := Go.Au.waysH_len (x := y) hok2
    have hO1 := Go.Au.okW_of hok1
    have hO2 := Go.Au.okW_of hok2
    have hlg := Go.Au.lg_le (n := n.toNat) (m := 8) (by omega)
    refine W_region ?_
    refine T_pev rfl rfl rfl rfl ?_
    refine T_pev rfl rfl rfl rfl ?_
    refine T_nil ?_
    refine W_seq ?_
    refine W_seq ?_
    refine W_region ?_
    refine T_pev rfl rfl rfl rfl ?_
    refine T_pev rfl rfl rfl rfl ?_
    refine T_pev rfl rfl rfl rfl ?_
    refine T_nil ?_
    refine W_block ?_
    have S42 := S38.nilRow 22 1
    have rs43 := Rds.nil H
    have S44 := S42.nilRow 22 1
    have rs45 := Rds.nil H
    refine W_loop (fun M ρ w' => ∃ (k : Nat) (a48 : Option Addr) (c49 : Nat) (hs51 : List Value) (a53 : Option Addr) (c54 : Nat) (hs56 : List Value) (G46 : Hp), M = p.length - k ∧ k ≤ p.length ∧ ρ = [(1, .int .i64 ((i.toNat / 2 ^ k : Nat) : Int)), (4, .slice aa4 p.length cc4), (5, .slice aa5 q.length cc5), (8, .pointer (some ⟨b1, 0, none⟩)), (9, .pointer (some ⟨b4, 0, none⟩)), (12, .pointer (some ⟨b7, 0, none⟩)), (18, .slice a48 k c49), (19, .slice a53 k c54), (62, .int .i64 ((p.length : Nat) : Int)), (63, .int .i64 (k : Int))] ∧ H.le G46 ∧ St w H G46 [.row 22 1 (.slice a53 k c54) k hs56, .row 22 1 (.slice a48 k c49) k hs51, .blk b21 (hV (Go.Au.climbH n i y q) : Value).cells 27, .blk b13 (hV (Go.Au.climbH n i x p) : Value).cells 27, .blk b7 (.agg #[.slice none 0 0, .slice none 0 0] : Value).cells 45, .blk b4 (hV (Go.Au.climb i.toNat y q k) : Value).cells 27, .blk b1 (hV (Go.Au.climb i.toNat x p k) : Value).cells 27] w' ∧ Rds G46 hs51 (Go.Au.wtexts i.toNat x p k) ∧ k ≤ c49 ∧ Rds G46 hs56 (Go.Au.wtexts i.toNat y q k) ∧ k ≤ c54)
      (p.length - 0) [(1, .int .i64 ((i.toNat / 2 ^ 0 : Nat) : Int)), (4, .slice aa4 p.length cc4), (5, .slice aa5 q.length cc5), (8, .pointer (some ⟨b1, 0, none⟩)), (9, .pointer (some ⟨b4, 0, none⟩)), (12, .pointer (some ⟨b7, 0, none⟩)), (18, .slice none 0 0), (19, .slice none 0 0), (62, .int .i64 ((p.length : Nat) : Int)), (63, .int .i64 ((0 : Nat) : Int))] ⟨(congrArg (fun z => some (Value.int .i64 z)) (by omega)), rfl, rfl, rfl, rfl, rfl, rfl, rfl, (congrArg (fun z => some (Value.int .i64 z)) (by omega)), (congrArg (fun z => some (Value.int .i64 z)) (by omega)), trivial⟩ ⟨0, none, 0, _, none, 0, _, H, rfl, (by omega), rfl, Hp.le.refl _, S44, rs43, (Nat.le_refl _), rs45, (Nat.le_refl _)⟩ ?_
    rintro M ρ w58 ⟨k, a48, c49, hs51, a53, c54, hs56, G46, rfl, hp60, rfl, hl47, S59, rs52, hc50, rs57, hc55⟩
    refine W_seq ?_
    refine W_region ?_
    refine T_pev rfl rfl rfl rfl ?_
    refine T_nil ?_
    refine W_seq ?_
    refine W_cond_dec rfl (fun h61 => ?_) (fun h61 => ?_)
    · refine W_skip ?_
      refine W_seq ?_
      refine W_block ?_
      refine W_seq ?_
      refine W_region ?_
      refine T_pev rfl rfl rfl rfl ?_
      refine T_pev rfl rfl rfl rfl ?_
      refine T_nil ?_
      refine W_seq ?_
      refine W_seq ?_
      refine W_region ?_
      have hnn := Int.natCast_nonneg (i.toNat / 2 ^ k)
      have hdl := Nat.div_le_self i.toNat (2 ^ k)
      refine T_pev rfl rfl rfl rfl ?_
      refine T_rem rfl rfl rfl rfl rfl rfl (by omega) ?_
      refine T_pev rfl rfl rfl rfl ?_
      refine T_nil ?_
      refine W_cond_dec rfl (fun h62 => ?_) (fun h62 => ?_)
      · refine W_seq ?_
        refine W_tree (planF Tryd.prog G46 [83]) (.step 0 (.step 1 (.step 2 (.step 3 (.step 4 (.step 5 (.step 9 (.step 11 (.step 12 (.step 13 (.step 14 (.fork 6 10 (.fork 7 10 (.fork 8 10 (.step 10 (.step 15 (.step 16 (.step 17 (.step 18 (.step 19 .done)))))) (.step 8 (.step 15 (.step 16 (.step 17 (.step 18 (.step 19 .done))))))) (.step 7 (.step 8 (.step 15 (.step 16 (.step 17 (.step 18 (.step 19 .done)))))))) (.step 6 (.step 7 (.step 8 (.step 15 (.step 16 (.step 17 (.step 18 (.step 19 .done)))))))))))))))))))) rfl (by kernel_rfl) S59.le ?_
        have S63 := S59.drew
        refine TT_step rfl ?_
        have hnn := Int.natCast_nonneg (i.toNat / 2 ^ k)
        have hdl := Nat.div_le_self i.toNat (2 ^ k)
        refine T_pev rfl rfl rfl rfl ?_
        refine T_nil ?_
        refine TT_step rfl ?_
        refine T_loadFS 6 S63 rfl rfl rfl rfl rfl rfl rfl rfl rfl (hVs (Go.Au.climb_len _ hx _ _)) ?_
        refine T_nil ?_
        refine TT_step rfl ?_
        refine T_pev rfl rfl rfl rfl ?_
        refine T_nil ?_
        refine TT_step rfl ?_
        refine T_pev rfl rfl rfl rfl ?_
        refine T_nil ?_
        refine TT_step rfl ?_
        refine T_idxR k (hp.mono hl47).2 rfl rfl rfl rfl rfl rfl rfl rfl rfl (by omega) (by omega) fun b64 o65 hc66 => ?_
        have hc67 := cells_h (hp.mono hl47).1 k (by omega) hc66
        have hl68 := len_h (hp.mono hl47).1 k (by omega)
        refine T_nil ?_
        refine TT_step rfl ?_
        refine T_loadGA _ S63 hc67 rfl rfl rfl rfl rfl rfl rfl rfl (hVs hl68) ?_
        refine T_nil ?_
        refine TT_step rfl ?_
        refine T_pev rfl rfl rfl rfl ?_
        refine T_nil ?_
        refine TT_step rfl ?_
        refine T_pev rfl rfl rfl rfl ?_
        refine T_nil ?_
        refine TT_step rfl ?_
        refine T_pev rfl rfl rfl rfl ?_
        refine T_nil ?_
        refine TT_step rfl ?_
        refine T_idxR k (hq.mono hl47).2 rfl rfl rfl rfl rfl rfl rfl rfl rfl (by omega) (by omega) fun b69 o70 hc71 => ?_
        have hc72 := cells_h (hq.mono hl47).1 k (by omega) hc71
        have hl73 := len_h (hq.mono hl47).1 k (by omega)
        refine T_nil ?_
        refine TT_step rfl ?_
        refine T_loadGAP _ (fun _ h => h) hc72 rfl rfl rfl rfl rfl rfl rfl rfl (hVs hl73) ?_
        refine T_nil ?_
        refine TT_fork rfl rfl ?_ ?_
        · refine T_callS rfl rfl g_aumbry_aumbryref07_nodeText rfl rfl rfl rfl ((ntextR_ok S63.le (Go.Au.climb_len _ hx _ _) hl68).mono ?_)
          rintro e w79 ⟨a74, c75, hc76, rfl, ho77, hB78⟩
          have S80 := S63.own hB78 ho77
          refine ⟨_, rfl, (((Hp.le.refl _)).trans S80.le), ?_⟩
          refine T_nil ?_
          refine TT_fork rfl rfl ?_ ?_
          · obtain ⟨G86, hl87, S85, r88⟩ := S80.stillRow 0 rfl
            have rs89 : Rds G86 [.slice a74 ((Go.Au.text [110, 111, 100, 101] [(Go.Au.climb i.toNat x p k), (p.getD k [])]).length) c75] [Go.Au.text [110, 111, 100, 101] [(Go.Au.climb i.toNat x p k), (p.getD k [])]] := Rds.cons (Rd.canonB r88) (Rds.nil _)
            refine T_litS [.slice a74 ((Go.Au.text [110, 111, 100, 101] [(Go.Au.climb i.toNat x p k), (p.getD k [])]).length) c75] rfl rfl rfl rfl rfl rfl rfl rfl rfl rfl rfl rfl rfl (by simp [Value.cells]; rfl) rfl fun a81 w82 hB83 ho84 => ?_
            have S90 := S85.own hB83 ho84
            refine ⟨((hl87).trans S90.le), ?_⟩
            refine T_nil ?_
            refine TT_fork rfl rfl ?_ ?_
            · have hD91 : (Go.Au.wtexts i.toNat x p k ++ [Go.Au.text [110, 111, 100, 101] [(Go.Au.climb i.toNat x p k), (p.getD k [])]]) = Go.Au.wtexts i.toNat x p (k + 1) := (wts_even (by omega) (Go.Au.climb_len _ hx _ _))
              refine T_appendS 2 (k + 1) _ S90 (fun _ h => (hl87).trans h) rfl rfl rfl rfl rfl rfl rfl rfl rfl rfl rfl rfl rfl rfl (S90.rd 0 rfl) rs89.one (by first | rfl | (simp; done) | (simp; omega) | omega) rfl (by unfold maxLen; omega) (by show _ * 24 ≤ _; omega) fun a92 c93 w94 hc95 S96 => ?_
              have rs97 := Rds.append (rs52.mono hl87) rs89
              rw [hD91] at rs97
              refine T_nil ?_
              refine TT_step rfl ?_
              refine T_loadFS 6 S96 rfl rfl rfl rfl rfl rfl rfl rfl rfl (hVs (Go.Au.climb_len _ hy _ _)) ?_
              refine T_nil ?_
              refine TT_step rfl ?_
              refine T_callS rfl rfl g_aumbry_aumbryref07_nodeText rfl rfl rfl rfl ((ntextR_ok S96.le (Go.Au.climb_len _ hy _ _) hl73).mono ?_)
              rintro e w103 ⟨a98, c99, hc100, rfl, ho101, hB102⟩
              have S104 := S96.own hB102 ho101
              refine ⟨_, rfl, ((hl87).trans S104.le), ?_⟩
              refine T_nil ?_
              refine TT_step rfl ?_
              obtain ⟨G110, hl111, S109, r112⟩ := S104.stillRow 0 rfl
              have rs113 : Rds G110 [.slice a98 ((Go.Au.text [110, 111, 100, 101] [(Go.Au.climb i.toNat y q k), (q.getD k [])]).length) c99] [Go.Au.text [110, 111, 100, 101] [(Go.Au.climb i.toNat y q k), (q.getD k [])]] := Rds.cons (Rd.canonB r112) (Rds.nil _)
              refine T_litS [.slice a98 ((Go.Au.text [110, 111, 100, 101] [(Go.Au.climb i.toNat y q k), (q.getD k [])]).length) c99] rfl rfl rfl rfl rfl rfl rfl rfl rfl rfl rfl rfl rfl (by simp [Value.cells]; rfl) rfl fun a105 w106 hB107 ho108 => ?_
              have S114 := S109.own hB107 ho108
              refine ⟨(((hl87.trans hl111)).trans S114.le), ?_⟩
              refine T_nil ?_
              refine TT_step rfl ?_
              have hD115 : (Go.Au.wtexts i.toNat y q k ++ [Go.Au.text [110, 111, 100, 101] [(Go.Au.climb i.toNat y q k), (q.getD k [])]]) = Go.Au.wtexts i.toNat y q (k + 1) := (wts_even (by omega) (Go.Au.climb_len _ hy _ _))
              refine T_appendS 2 (k + 1) _ S114 (fun _ h => ((hl87.trans hl111)).trans h) rfl rfl rfl rfl rfl rfl rfl rfl rfl rfl rfl rfl rfl rfl (S114.rd 0 rfl) rs113.one (by first | rfl | (simp; done) | (simp; omega) | omega) rfl (by unfold maxLen; omega) (by show _ * 24 ≤ _; omega) fun a116 c117 w118 hc119 S120 => ?_
              have rs121 := Rds.append (rs57.mono (hl87.trans hl111)) rs113
              rw [hD115] at rs121
              refine T_nil ?_
              refine TT_step rfl ?_
              refine T_pev rfl rfl rfl rfl ?_
              refine T_nil ?_
              refine TT_step rfl ?_
              refine T_pev rfl rfl rfl rfl ?_
              refine T_nil ?_
              refine TT_done ?_
              refine W_tree (planF Tryd.prog G110 [97]) (.step 0 (.step 1 (.step 2 (.step 3 (.step 4 (.step 7 (.step 8 (.step 9 (.step 10 (.fork 5 6 (.step 6 (.step 11 (.step 12 (.step 13 .done)))) (.step 5 (.step 11 (.step 12 (.step 13 .done)))))))))))))) rfl (by kernel_rfl) S120.le ?_
              have S122 := S120.drew
              refine TT_step rfl ?_
              refine T_loadFS 8 S122 rfl rfl rfl rfl rfl rfl rfl rfl rfl (hVs (Go.Au.climb_len _ hx _ _)) ?_
              refine T_nil ?_
              refine TT_step rfl ?_
              refine T_pev rfl rfl rfl rfl ?_
              refine T_nil ?_
              refine TT_step rfl ?_
              refine T_pev rfl rfl rfl rfl ?_
              refine T_nil ?_
              refine TT_step rfl ?_
              refine T_idxR k (hp.mono (hl47.trans (hl87.trans hl111))).2 rfl rfl rfl rfl rfl rfl rfl rfl rfl (by omega) (by omega) fun b123 o124 hc125 => ?_
              have hc126 := cells_h (hp.mono (hl47.trans (hl87.trans hl111))).1 k (by omega) hc125
              have hl127 := len_h (hp.mono (hl47.trans (hl87.trans hl111))).1 k (by omega)
              refine T_nil ?_
              refine TT_step rfl ?_
              refine T_loadGA _ S122 hc126 rfl rfl rfl rfl rfl rfl rfl rfl (hVs hl127) ?_
              refine T_nil ?_
              refine TT_step rfl ?_
              refine T_pev rfl rfl rfl rfl ?_
              refine T_nil ?_
              refine TT_step rfl ?_
              refine T_pev rfl rfl rfl rfl ?_
              refine T_nil ?_
              refine TT_step rfl ?_
              refine T_idxR k (hq.mono (hl47.trans (hl87.trans hl111))).2 rfl rfl rfl rfl rfl rfl rfl rfl rfl (by omega) (by omega) fun b128 o129 hc130 => ?_
              have hc131 := cells_h (hq.mono (hl47.trans (hl87.trans hl111))).1 k (by omega) hc130
              have hl132 := len_h (hq.mono (hl47.trans (hl87.trans hl111))).1 k (by omega)
              refine T_nil ?_
              refine TT_step rfl ?_
              refine T_loadGAP _ (fun _ h => h) hc131 rfl rfl rfl rfl rfl rfl rfl rfl (hVs hl132) ?_
              refine T_nil ?_
              refine TT_fork rfl rfl ?_ ?_
              · refine T_callS rfl rfl g_aumbry_aumbryref07_Node rfl rfl rfl rfl ((nodeR_ok S122.le (Go.Au.climb_len _ hx _ _) hl127).mono ?_)
                rintro e w134 ⟨rfl, hB133⟩
                have S135 := S122.call hB133
                refine ⟨_, rfl, (((Hp.le.refl _)).trans S135.le), ?_⟩
                refine T_re (v' := hV (Go.Au.climb i.toNat x p (k + 1))) (congrArg (fun q => hV q) (climb_even (by omega) (Go.Au.climb_len _ hx _ _))) ?_
                refine T_nil ?_
                refine TT_step rfl ?_
                refine T_loadFS 7 S135 rfl rfl rfl rfl rfl rfl rfl rfl rfl (hVs (Go.Au.climb_len _ hy _ _)) ?_
                refine T_nil ?_
                refine TT_step rfl ?_
                refine T_callS rfl rfl g_aumbry_aumbryref07_Node rfl rfl rfl rfl ((nodeR_ok S135.le (Go.Au.climb_len _ hy _ _) hl132).mono ?_)
                rintro e w137 ⟨rfl, hB136⟩
                have S138 := S135.call hB136
                refine ⟨_, rfl, (((Hp.le.refl _)).trans S138.le), ?_⟩
                refine T_re (v' := hV (Go.Au.climb i.toNat y q (k + 1))) (congrArg (fun q => hV q) (climb_even (by omega) (Go.Au.climb_len _ hy _ _))) ?_
                refine T_nil ?_
                refine TT_step rfl ?_
                refine T_storeFS 8 S138 (fun _ h => ((Hp.le.refl _)).trans h) rfl rfl rfl rfl rfl rfl rfl rfl rfl (hVs (Go.Au.climb_len _ hx _ _)) ((hVs (Go.Au.climb_len _ hx _ _)).trans (hVs (Go.Au.climb_len _ hx _ _)).symm) (one_hA _) fun w139 S140 => ?_
                refine T_nil ?_
                refine TT_step rfl ?_
                refine T_storeFS 7 S140 (fun _ h => ((Hp.le.refl _)).trans h) rfl rfl rfl rfl rfl rfl rfl rfl rfl (hVs (Go.Au.climb_len _ hy _ _)) ((hVs (Go.Au.climb_len _ hy _ _)).trans (hVs (Go.Au.climb_len _ hy _ _)).symm) (one_hA _) fun w141 S142 => ?_
                refine T_nil ?_
                refine TT_done ?_
                refine W_region ?_
                refine T_pev rfl rfl rfl rfl ?_
                refine T_quo rfl rfl rfl rfl rfl rfl (by omega) ?_
                refine T_re (v' := .int .i64 ((i.toNat / 2 ^ (k + 1) : Nat) : Int)) (congrArg (Value.int .i64) (half_int _ _)) ?_
                refine T_pev rfl rfl rfl rfl ?_
                refine T_nil ?_
                refine W_region ?_
                refine T_ari rfl rfl rfl rfl (by omega) ?_
                refine T_pev rfl rfl rfl rfl ?_
                refine T_nil ?_
                have S143 := S142.drop 1
                have S144 := S143.drop 0
                exact ⟨p.length - (k + 1), [(1, .int .i64 ((i.toNat / 2 ^ (k + 1) : Nat) : Int)), (4, .slice aa4 p.length cc4), (5, .slice aa5 q.length cc5), (8, .pointer (some ⟨b1, 0, none⟩)), (9, .pointer (some ⟨b4, 0, none⟩)), (12, .pointer (some ⟨b7, 0, none⟩)), (18, .slice a92 (k + 1) c93), (19, .slice a116 (k + 1) c117), (62, .int .i64 ((p.length : Nat) : Int)), (63, .int .i64 ((k + 1 : Nat) : Int))], by omega, ⟨(congrArg (fun z => some (Value.int .i64 z)) (by omega)), rfl, rfl, rfl, rfl, rfl, rfl, rfl, (congrArg (fun z => some (Value.int .i64 z)) (by omega)), (congrArg (fun z => some (Value.int .i64 z)) (by omega)), trivial⟩, k + 1, a92, c93, _, a116, c117, _, G110, rfl, (by omega), rfl, (hl47.trans (hl87.trans hl111)), S144, (rs97.mono hl111), hc95, rs121, hc119⟩
              refine T_loadFS 7 S122 rfl rfl rfl rfl rfl rfl rfl rfl rfl (hVs (Go.Au.climb_len _ hy _ _)) ?_
              refine T_nil ?_
              refine TT_step rfl ?_
              refine T_callS rfl rfl g_aumbry_aumbryref07_Node rfl rfl rfl rfl ((nodeR_ok S122.le (Go.Au.climb_len _ hx _ _) hl127).mono ?_)
              rintro e w146 ⟨rfl, hB145⟩
              have S147 := S122.call hB145
              refine ⟨_, rfl, (((Hp.le.refl _)).trans S147.le), ?_⟩
              refine T_re (v' := hV (Go.Au.climb i.toNat x p (k + 1))) (congrArg (fun q => hV q) (climb_even (by omega) (Go.Au.climb_len _ hx _ _))) ?_
              refine T_nil ?_
              refine TT_step rfl ?_
              refine T_callS rfl rfl g_aumbry_aumbryref07_Node rfl rfl rfl rfl ((nodeR_ok S147.le (Go.Au.climb_len _ hy _ _) hl132).mono ?_)
              rintro e w149 ⟨rfl, hB148⟩
              have S150 := S147.call hB148
              refine ⟨_, rfl, (((Hp.le.refl _)).trans S150.le), ?_⟩
              refine T_re (v' := hV (Go.Au.climb i.toNat y q (k + 1))) (congrArg (fun q => hV q) (climb_even (by omega) (Go.Au.climb_len _ hy _ _))) ?_
              refine T_nil ?_
              refine TT_step rfl ?_
              refine T_storeFS 8 S150 (fun _ h => ((Hp.le.refl _)).trans h) rfl rfl rfl rfl rfl rfl rfl rfl rfl (hVs (Go.Au.climb_len _ hx _ _)) ((hVs (Go.Au.climb_len _ hx _ _)).trans (hVs (Go.Au.climb_len _ hx _ _)).symm) (one_hA _) fun w151 S152 => ?_
              refine T_nil ?_
              refine TT_step rfl ?_
              refine T_storeFS 7 S152 (fun _ h => ((Hp.le.refl _)).trans h) rfl rfl rfl rfl rfl rfl rfl rfl rfl (hVs (Go.Au.climb_len _ hy _ _)) ((hVs (Go.Au.climb_len _ hy _ _)).trans (hVs (Go.Au.climb_len _ hy _ _)).symm) (one_hA _) fun w153 S154 => ?_
              refine T_nil ?_
              refine TT_done ?_
              refine W_region ?_
              refine T_pev rfl rfl rfl rfl ?_
              refine T_quo rfl rfl rfl rfl rfl rfl (by omega) ?_
              refine T_re (v' := .int .i64 ((i.toNat / 2 ^ (k + 1) : Nat) : Int)) (congrArg (Value.int .i64) (half_int _ _)) ?_
              refine T_pev rfl rfl rfl rfl ?_
              refine T_nil ?_
              refine W_region ?_
              refine T_ari rfl rfl rfl rfl (by omega) ?_
              refine T_pev rfl rfl rfl rfl ?_
              refine T_nil ?_
              have S155 := S154.drop 1
              have S156 := S155.drop 0
              exact ⟨p.length - (k + 1), [(1, .int .i64 ((i.toNat / 2 ^ (k + 1) : Nat) : Int)), (4, .slice aa4 p.length cc4), (5, .slice aa5 q.length cc5), (8, .pointer (some ⟨b1, 0, none⟩)), (9, .pointer (some ⟨b4, 0, none⟩)), (12, .pointer (some ⟨b7, 0, none⟩)), (18, .slice a92 (k + 1) c93), (19, .slice a116 (k + 1) c117), (62, .int .i64 ((p.length : Nat) : Int)), (63, .int .i64 ((k + 1 : Nat) : Int))], by omega, ⟨(congrArg (fun z => some (Value.int .i64 z)) (by omega)), rfl, rfl, rfl, rfl, rfl, rfl, rfl, (congrArg (fun z => some (Value.int .i64 z)) (by omega)), (congrArg (fun z => some (Value.int .i64 z)) (by omega)), trivial⟩, k + 1, a92, c93, _, a116, c117, _, G110, rfl, (by omega), rfl, (hl47.trans (hl87.trans hl111)), S156, (rs97.mono hl111), hc95, rs121, hc119⟩
            refine T_loadFS 6 S90 rfl rfl rfl rfl rfl rfl rfl rfl rfl (hVs (Go.Au.climb_len _ hy _ _)) ?_
            refine T_nil ?_
            refine TT_step rfl ?_
            have hD157 : (Go.Au.wtexts i.toNat x p k ++ [Go.Au.text [110, 111, 100, 101] [(Go.Au.climb i.toNat x p k), (p.getD k [])]]) = Go.Au.wtexts i.toNat x p (k + 1) := (wts_even (by omega) (Go.Au.climb_len _ hx _ _))
            refine T_appendS 2 (k + 1) _ S90 (fun _ h => (hl87).trans h) rfl rfl rfl rfl rfl rfl rfl rfl rfl rfl rfl rfl rfl rfl (S90.rd 0 rfl) rs89.one (by first | rfl | (simp; done) | (simp; omega) | omega) rfl (by unfold maxLen; omega) (by show _ * 24 ≤ _; omega) fun a158 c159 w160 hc161 S162 => ?_
            have rs163 := Rds.append (rs52.mono hl87) rs89
            rw [hD157] at rs163
            refine T_nil ?_
            refine TT_step rfl ?_
            refine T_callS rfl rfl g_aumbry_aumbryref07_nodeText rfl rfl rfl rfl ((ntextR_ok S162.le (Go.Au.climb_len _ hy _ _) hl73).mono ?_)
            rintro e w169 ⟨a164, c165, hc166, rfl, ho167, hB168⟩
            have S170 := S162.own hB168 ho167
            refine ⟨_, rfl, ((hl87).trans S170.le), ?_⟩
            refine T_nil ?_
            refine TT_step rfl ?_
            obtain ⟨G176, hl177, S175, r178⟩ := S170.stillRow 0 rfl
            have rs179 : Rds G176 [.slice a164 ((Go.Au.text [110, 111, 100, 101] [(Go.Au.climb i.toNat y q k), (q.getD k [])]).length) c165] [Go.Au.text [110, 111, 100, 101] [(Go.Au.climb i.toNat y q k), (q.getD k [])]] := Rds.cons (Rd.canonB r178) (Rds.nil _)
            refine T_litS [.slice a164 ((Go.Au.text [110, 111, 100, 101] [(Go.Au.climb i.toNat y q k), (q.getD k [])]).length) c165] rfl rfl rfl rfl rfl rfl rfl rfl rfl rfl rfl rfl rfl (by simp [Value.cells]; rfl) rfl fun a171 w172 hB173 ho174 => ?_
            have S180 := S175.own hB173 ho174
            refine ⟨(((hl87.trans hl177)).trans S180.le), ?_⟩
            refine T_nil ?_
            refine TT_step rfl ?_
            have hD181 : (Go.Au.wtexts i.toNat y q k ++ [Go.Au.text [110, 111, 100, 101] [(Go.Au.climb i.toNat y q k), (q.getD k [])]]) = Go.Au.wtexts i.toNat y q (k + 1) := (wts_even (by omega) (Go.Au.climb_len _ hy _ _))
            refine T_appendS 2 (k + 1) _ S180 (fun _ h => ((hl87.trans hl177)).trans h) rfl rfl rfl rfl rfl rfl rfl rfl rfl rfl rfl rfl rfl rfl (S180.rd 0 rfl) rs179.one (by first | rfl | (simp; done) | (simp; omega) | omega) rfl (by unfold maxLen; omega) (by show _ * 24 ≤ _; omega) fun a182 c183 w184 hc185 S186 => ?_
            have rs187 := Rds.append (rs57.mono (hl87.trans hl177)) rs179
            rw [hD181] at rs187
            refine T_nil ?_
            refine TT_step rfl ?_
            refine T_pev rfl rfl rfl rfl ?_
            refine T_nil ?_
            refine TT_step rfl ?_
            refine T_pev rfl rfl rfl rfl ?_
            refine T_nil ?_
            refine TT_done ?_
            refine W_tree (planF Tryd.prog G176 [97]) (.step 0 (.step 1 (.step 2 (.step 3 (.step 4 (.step 7 (.step 8 (.step 9 (.step 10 (.fork 5 6 (.step 6 (.step 11 (.step 12 (.step 13 .done)))) (.step 5 (.step 11 (.step 12 (.step 13 .done)))))))))))))) rfl (by kernel_rfl) S186.le ?_
            have S188 := S186.drew
            refine TT_step rfl ?_
            refine T_loadFS 8 S188 rfl rfl rfl rfl rfl rfl rfl rfl rfl (hVs (Go.Au.climb_len _ hx _ _)) ?_
            refine T_nil ?_
            refine TT_step rfl ?_
            refine T_pev rfl rfl rfl rfl ?_
            refine T_nil ?_
            refine TT_step rfl ?_
            refine T_pev rfl rfl rfl rfl ?_
            refine T_nil ?_
            refine TT_step rfl ?_
            refine T_idxR k (hp.mono (hl47.trans (hl87.trans hl177))).2 rfl rfl rfl rfl rfl rfl rfl rfl rfl (by omega) (by omega) fun b189 o190 hc191 => ?_
            have hc192 := cells_h (hp.mono (hl47.trans (hl87.trans hl177))).1 k (by omega) hc191
            have hl193 := len_h (hp.mono (hl47.trans (hl87.trans hl177))).1 k (by omega)
            refine T_nil ?_
            refine TT_step rfl ?_
            refine T_loadGA _ S188 hc192 rfl rfl rfl rfl rfl rfl rfl rfl (hVs hl193) ?_
            refine T_nil ?_
            refine TT_step rfl ?_
            refine T_pev rfl rfl rfl rfl ?_
            refine T_nil ?_
            refine TT_step rfl ?_
            refine T_pev rfl rfl rfl rfl ?_
            refine T_nil ?_
            refine TT_step rfl ?_
            refine T_idxR k (hq.mono (hl47.trans (hl87.trans hl177))).2 rfl rfl rfl rfl rfl rfl rfl rfl rfl (by omega) (by omega) fun b194 o195 hc196 => ?_
            have hc197 := cells_h (hq.mono (hl47.trans (hl87.trans hl177))).1 k (by omega) hc196
            have hl198 := len_h (hq.mono (hl47.trans (hl87.trans hl177))).1 k (by omega)
            refine T_nil ?_
            refine TT_step rfl ?_
            refine T_loadGAP _ (fun _ h => h) hc197 rfl rfl rfl rfl rfl rfl rfl rfl (hVs hl198) ?_
            refine T_nil ?_
            refine TT_fork rfl rfl ?_ ?_
            · refine T_callS rfl rfl g_aumbry_aumbryref07_Node rfl rfl rfl rfl ((nodeR_ok S188.le (Go.Au.climb_len _ hx _ _) hl193).mono ?_)
              rintro e w200 ⟨rfl, hB199⟩
              have S201 := S188.call hB199
              refine ⟨_, rfl, (((Hp.le.refl _)).trans S201.le), ?_⟩
              refine T_re (v' := hV (Go.Au.climb i.toNat x p (k + 1))) (congrArg (fun q => hV q) (climb_even (by omega) (Go.Au.climb_len _ hx _ _))) ?_
              refine T_nil ?_
              refine TT_step rfl ?_
              refine T_loadFS 7 S201 rfl rfl rfl rfl rfl rfl rfl rfl rfl (hVs (Go.Au.climb_len _ hy _ _)) ?_
              refine T_nil ?_
              refine TT_step rfl ?_
              refine T_callS rfl rfl g_aumbry_aumbryref07_Node rfl rfl rfl rfl ((nodeR_ok S201.le (Go.Au.climb_len _ hy _ _) hl198).mono ?_)
              rintro e w203 ⟨rfl, hB202⟩
              have S204 := S201.call hB202
              refine ⟨_, rfl, (((Hp.le.refl _)).trans S204.le), ?_⟩
              refine T_re (v' := hV (Go.Au.climb i.toNat y q (k + 1))) (congrArg (fun q => hV q) (climb_even (by omega) (Go.Au.climb_len _ hy _ _))) ?_
              refine T_nil ?_
              refine TT_step rfl ?_
              refine T_storeFS 8 S204 (fun _ h => ((Hp.le.refl _)).trans h) rfl rfl rfl rfl rfl rfl rfl rfl rfl (hVs (Go.Au.climb_len _ hx _ _)) ((hVs (Go.Au.climb_len _ hx _ _)).trans (hVs (Go.Au.climb_len _ hx _ _)).symm) (one_hA _) fun w205 S206 => ?_
              refine T_nil ?_
              refine TT_step rfl ?_
              refine T_storeFS 7 S206 (fun _ h => ((Hp.le.refl _)).trans h) rfl rfl rfl rfl rfl rfl rfl rfl rfl (hVs (Go.Au.climb_len _ hy _ _)) ((hVs (Go.Au.climb_len _ hy _ _)).trans (hVs (Go.Au.climb_len _ hy _ _)).symm) (one_hA _) fun w207 S208 => ?_
              refine T_nil ?_
              refine TT_done ?_
              refine W_region ?_
              refine T_pev rfl rfl rfl rfl ?_
              refine T_quo rfl rfl rfl rfl rfl rfl (by omega) ?_
              refine T_re (v' := .int .i64 ((i.toNat / 2 ^ (k + 1) : Nat) : Int)) (congrArg (Value.int .i64) (half_int _ _)) ?_
              refine T_pev rfl rfl rfl rfl ?_
              refine T_nil ?_
              refine W_region ?_
              refine T_ari rfl rfl rfl rfl (by omega) ?_
              refine T_pev rfl rfl rfl rfl ?_
              refine T_nil ?_
              have S209 := S208.drop 1
              have S210 := S209.drop 0
              exact ⟨p.length - (k + 1), [(1, .int .i64 ((i.toNat / 2 ^ (k + 1) : Nat) : Int)), (4, .slice aa4 p.length cc4), (5, .slice aa5 q.length cc5), (8, .pointer (some ⟨b1, 0, none⟩)), (9, .pointer (some ⟨b4, 0, none⟩)), (12, .pointer (some ⟨b7, 0, none⟩)), (18, .slice a158 (k + 1) c159), (19, .slice a182 (k + 1) c183), (62, .int .i64 ((p.length : Nat) : Int)), (63, .int .i64 ((k + 1 : Nat) : Int))], by omega, ⟨(congrArg (fun z => some (Value.int .i64 z)) (by omega)), rfl, rfl, rfl, rfl, rfl, rfl, rfl, (congrArg (fun z => some (Value.int .i64 z)) (by omega)), (congrArg (fun z => some (Value.int .i64 z)) (by omega)), trivial⟩, k + 1, a158, c159, _, a182, c183, _, G176, rfl, (by omega), rfl, (hl47.trans (hl87.trans hl177)), S210, (rs163.mono hl177), hc161, rs187, hc185⟩
            refine T_loadFS 7 S188 rfl rfl rfl rfl rfl rfl rfl rfl rfl (hVs (Go.Au.climb_len _ hy _ _)) ?_
            refine T_nil ?_
            refine TT_step rfl ?_
            refine T_callS rfl rfl g_aumbry_aumbryref07_Node rfl rfl rfl rfl ((nodeR_ok S188.le (Go.Au.climb_len _ hx _ _) hl193).mono ?_)
            rintro e w212 ⟨rfl, hB211⟩
            have S213 := S188.call hB211
            refine ⟨_, rfl, (((Hp.le.refl _)).trans S213.le), ?_⟩
            refine T_re (v' := hV (Go.Au.climb i.toNat x p (k + 1))) (congrArg (fun q => hV q) (climb_even (by omega) (Go.Au.climb_len _ hx _ _))) ?_
            refine T_nil ?_
            refine TT_step rfl ?_
            refine T_callS rfl rfl g_aumbry_aumbryref07_Node rfl rfl rfl rfl ((nodeR_ok S213.le (Go.Au.climb_len _ hy _ _) hl198).mono ?_)
            rintro e w215 ⟨rfl, hB214⟩
            have S216 := S213.call hB214
            refine ⟨_, rfl, (((Hp.le.refl _)).trans S216.le), ?_⟩
            refine T_re (v' := hV (Go.Au.climb i.toNat y q (k + 1))) (congrArg (fun q => hV q) (climb_even (by omega) (Go.Au.climb_len _ hy _ _))) ?_
            refine T_nil ?_
            refine TT_step rfl ?_
            refine T_storeFS 8 S216 (fun _ h => ((Hp.le.refl _)).trans h) rfl rfl rfl rfl rfl rfl rfl rfl rfl (hVs (Go.Au.climb_len _ hx _ _)) ((hVs (Go.Au.climb_len _ hx _ _)).trans (hVs (Go.Au.climb_len _ hx _ _)).symm) (one_hA _) fun w217 S218 => ?_
            refine T_nil ?_
            refine TT_step rfl ?_
            refine T_storeFS 7 S218 (fun _ h => ((Hp.le.refl _)).trans h) rfl rfl rfl rfl rfl rfl rfl rfl rfl (hVs (Go.Au.climb_len _ hy _ _)) ((hVs (Go.Au.climb_len _ hy _ _)).trans (hVs (Go.Au.climb_len _ hy _ _)).symm) (one_hA _) fun w219 S220 => ?_
            refine T_nil ?_
            refine TT_done ?_
            refine W_region ?_
            refine T_pev rfl rfl rfl rfl ?_
            refine T_quo rfl rfl rfl rfl rfl rfl (by omega) ?_
            refine T_re (v' := .int .i64 ((i.toNat / 2 ^ (k + 1) : Nat) : Int)) (congrArg (Value.int .i64) (half_int _ _)) ?_
            refine T_pev rfl rfl rfl rfl ?_
            refine T_nil ?_
            refine W_region ?_
            refine T_ari rfl rfl rfl rfl (by omega) ?_
            refine T_pev rfl rfl rfl rfl ?_
            refine T_nil ?_
            have S221 := S220.drop 1
            have S222 := S221.drop 0
            exact ⟨p.length - (k + 1), [(1, .int .i64 ((i.toNat / 2 ^ (k + 1) : Nat) : Int)), (4, .slice aa4 p.length cc4), (5, .slice aa5 q.length cc5), (8, .pointer (some ⟨b1, 0, none⟩)), (9, .pointer (some ⟨b4, 0, none⟩)), (12, .pointer (some ⟨b7, 0, none⟩)), (18, .slice a158 (k + 1) c159), (19, .slice a182 (k + 1) c183), (62, .int .i64 ((p.length : Nat) : Int)), (63, .int .i64 ((k + 1 : Nat) : Int))], by omega, ⟨(congrArg (fun z => some (Value.int .i64 z)) (by omega)), rfl, rfl, rfl, rfl, rfl, rfl, rfl, (congrArg (fun z => some (Value.int .i64 z)) (by omega)), (congrArg (fun z => some (Value.int .i64 z)) (by omega)), trivial⟩, k + 1, a158, c159, _, a182, c183, _, G176, rfl, (by omega), rfl, (hl47.trans (hl87.trans hl177)), S222, (rs163.mono hl177), hc161, rs187, hc185⟩
          refine T_loadFS 6 S80 rfl rfl rfl rfl rfl rfl rfl rfl rfl (hVs (Go.Au.climb_len _ hy _ _)) ?_
          refine T_nil ?_
          refine TT_step rfl ?_
          obtain ⟨G228, hl229, S227, r230⟩ := S80.stillRow 0 rfl
          have rs231 : Rds G228 [.slice a74 ((Go.Au.text [110, 111, 100, 101] [(Go.Au.climb i.toNat x p k), (p.getD k [])]).length) c75] [Go.Au.text [110, 111, 100, 101] [(Go.Au.climb i.toNat x p k), (p.getD k [])]] := Rds.cons (Rd.canonB r230) (Rds.nil _)
          refine T_litS [.slice a74 ((Go.Au.text [110, 111, 100, 101] [(Go.Au.climb i.toNat x p k), (p.getD k [])]).length) c75] rfl rfl rfl rfl rfl rfl rfl rfl rfl rfl rfl rfl rfl (by simp [Value.cells]; rfl) rfl fun a223 w224 hB225 ho226 => ?_
          have S232 := S227.own hB225 ho226
          refine ⟨((hl229).trans S232.le), ?_⟩
          refine T_nil ?_
          refine TT_step rfl ?_
          have hD233 : (Go.Au.wtexts i.toNat x p k ++ [Go.Au.text [110, 111, 100, 101] [(Go.Au.climb i.toNat x p k), (p.getD k [])]]) = Go.Au.wtexts i.toNat x p (k + 1) := (wts_even (by omega) (Go.Au.climb_len _ hx _ _))
          refine T_appendS 2 (k + 1) _ S232 (fun _ h => (hl229).trans h) rfl rfl rfl rfl rfl rfl rfl rfl rfl rfl rfl rfl rfl rfl (S232.rd 0 rfl) rs231.one (by first | rfl | (simp; done) | (simp; omega) | omega) rfl (by unfold maxLen; omega) (by show _ * 24 ≤ _; omega) fun a234 c235 w236 hc237 S238 => ?_
          have rs239 := Rds.append (rs52.mono hl229) rs231
          rw [hD233] at rs239
          refine T_nil ?_
          refine TT_step rfl ?_
          refine T_callS rfl rfl g_aumbry_aumbryref07_nodeText rfl rfl rfl rfl ((ntextR_ok S238.le (Go.Au.climb_len _ hy _ _) hl73).mono ?_)
          rintro e w245 ⟨a240, c241, hc242, rfl, ho243, hB244⟩
          have S246 := S238.own hB244 ho243
          refine ⟨_, rfl, ((hl229).trans S246.le), ?_⟩
          refine T_nil ?_
          refine TT_step rfl ?_
          obtain ⟨G252, hl253, S251, r254⟩ := S246.stillRow 0 rfl
          have rs255 : Rds G252 [.slice a240 ((Go.Au.text [110, 111, 100, 101] [(Go.Au.climb i.toNat y q k), (q.getD k [])]).length) c241] [Go.Au.text [110, 111, 100, 101] [(Go.Au.climb i.toNat y q k), (q.getD k [])]] := Rds.cons (Rd.canonB r254) (Rds.nil _)
          refine T_litS [.slice a240 ((Go.Au.text [110, 111, 100, 101] [(Go.Au.climb i.toNat y q k), (q.getD k [])]).length) c241] rfl rfl rfl rfl rfl rfl rfl rfl rfl rfl rfl rfl rfl (by simp [Value.cells]; rfl) rfl fun a247 w248 hB249 ho250 => ?_
          have S256 := S251.own hB249 ho250
          refine ⟨(((hl229.trans hl253)).trans S256.le), ?_⟩
          refine T_nil ?_
          refine TT_step rfl ?_
          have hD257 : (Go.Au.wtexts i.toNat y q k ++ [Go.Au.text [110, 111, 100, 101] [(Go.Au.climb i.toNat y q k), (q.getD k [])]]) = Go.Au.wtexts i.toNat y q (k + 1) := (wts_even (by omega) (Go.Au.climb_len _ hy _ _))
          refine T_appendS 2 (k + 1) _ S256 (fun _ h => ((hl229.trans hl253)).trans h) rfl rfl rfl rfl rfl rfl rfl rfl rfl rfl rfl rfl rfl rfl (S256.rd 0 rfl) rs255.one (by first | rfl | (simp; done) | (simp; omega) | omega) rfl (by unfold maxLen; omega) (by show _ * 24 ≤ _; omega) fun a258 c259 w260 hc261 S262 => ?_
          have rs263 := Rds.append (rs57.mono (hl229.trans hl253)) rs255
          rw [hD257] at rs263
          refine T_nil ?_
          refine TT_step rfl ?_
          refine T_pev rfl rfl rfl rfl ?_
          refine T_nil ?_
          refine TT_step rfl ?_
          refine T_pev rfl rfl rfl rfl ?_
          refine T_nil ?_
          refine TT_done ?_
          refine W_tree (planF Tryd.prog G252 [97]) (.step 0 (.step 1 (.step 2 (.step 3 (.step 4 (.step 7 (.step 8 (.step 9 (.step 10 (.fork 5 6 (.step 6 (.step 11 (.step 12 (.step 13 .done)))) (.step 5 (.step 11 (.step 12 (.step 13 .done)))))))))))))) rfl (by kernel_rfl) S262.le ?_
          have S264 := S262.drew
          refine TT_step rfl ?_
          refine T_loadFS 8 S264 rfl rfl rfl rfl rfl rfl rfl rfl rfl (hVs (Go.Au.climb_len _ hx _ _)) ?_
          refine T_nil ?_
          refine TT_step rfl ?_
          refine T_pev rfl rfl rfl rfl ?_
          refine T_nil ?_
          refine TT_step rfl ?_
          refine T_pev rfl rfl rfl rfl ?_
          refine T_nil ?_
          refine TT_step rfl ?_
          refine T_idxR k (hp.mono (hl47.trans (hl229.trans hl253))).2 rfl rfl rfl rfl rfl rfl rfl rfl rfl (by omega) (by omega) fun b265 o266 hc267 => ?_
          have hc268 := cells_h (hp.mono (hl47.trans (hl229.trans hl253))).1 k (by omega) hc267
          have hl269 := len_h (hp.mono (hl47.trans (hl229.trans hl253))).1 k (by omega)
          refine T_nil ?_
          refine TT_step rfl ?_
          refine T_loadGA _ S264 hc268 rfl rfl rfl rfl rfl rfl rfl rfl (hVs hl269) ?_
          refine T_nil ?_
          refine TT_step rfl ?_
          refine T_pev rfl rfl rfl rfl ?_
          refine T_nil ?_
          refine TT_step rfl ?_
          refine T_pev rfl rfl rfl rfl ?_
          refine T_nil ?_
          refine TT_step rfl ?_
          refine T_idxR k (hq.mono (hl47.trans (hl229.trans hl253))).2 rfl rfl rfl rfl rfl rfl rfl rfl rfl (by omega) (by omega) fun b270 o271 hc272 => ?_
          have hc273 := cells_h (hq.mono (hl47.trans (hl229.trans hl253))).1 k (by omega) hc272
          have hl274 := len_h (hq.mono (hl47.trans (hl229.trans hl253))).1 k (by omega)
          refine T_nil ?_
          refine TT_step rfl ?_
          refine T_loadGAP _ (fun _ h => h) hc273 rfl rfl rfl rfl rfl rfl rfl rfl (hVs hl274) ?_
          refine T_nil ?_
          refine TT_fork rfl rfl ?_ ?_
          · refine T_callS rfl rfl g_aumbry_aumbryref07_Node rfl rfl rfl rfl ((nodeR_ok S264.le (Go.Au.climb_len _ hx _ _) hl269).mono ?_)
            rintro e w276 ⟨rfl, hB275⟩
            have S277 := S264.call hB275
            refine ⟨_, rfl, (((Hp.le.refl _)).trans S277.le), ?_⟩
            refine T_re (v' := hV (Go.Au.climb i.toNat x p (k + 1))) (congrArg (fun q => hV q) (climb_even (by omega) (Go.Au.climb_len _ hx _ _))) ?_
            refine T_nil ?_
            refine TT_step rfl ?_
            refine T_loadFS 7 S277 rfl rfl rfl rfl rfl rfl rfl rfl rfl (hVs (Go.Au.climb_len _ hy _ _)) ?_
            refine T_nil ?_
            refine TT_step rfl ?_
            refine T_callS rfl rfl g_aumbry_aumbryref07_Node rfl rfl rfl rfl ((nodeR_ok S277.le (Go.Au.climb_len _ hy _ _) hl274).mono ?_)
            rintro e w279 ⟨rfl, hB278⟩
            have S280 := S277.call hB278
            refine ⟨_, rfl, (((Hp.le.refl _)).trans S280.le), ?_⟩
            refine T_re (v' := hV (Go.Au.climb i.toNat y q (k + 1))) (congrArg (fun q => hV q) (climb_even (by omega) (Go.Au.climb_len _ hy _ _))) ?_
            refine T_nil ?_
            refine TT_step rfl ?_
            refine T_storeFS 8 S280 (fun _ h => ((Hp.le.refl _)).trans h) rfl rfl rfl rfl rfl rfl rfl rfl rfl (hVs (Go.Au.climb_len _ hx _ _)) ((hVs (Go.Au.climb_len _ hx _ _)).trans (hVs (Go.Au.climb_len _ hx _ _)).symm) (one_hA _) fun w281 S282 => ?_
            refine T_nil ?_
            refine TT_step rfl ?_
            refine T_storeFS 7 S282 (fun _ h => ((Hp.le.refl _)).trans h) rfl rfl rfl rfl rfl rfl rfl rfl rfl (hVs (Go.Au.climb_len _ hy _ _)) ((hVs (Go.Au.climb_len _ hy _ _)).trans (hVs (Go.Au.climb_len _ hy _ _)).symm) (one_hA _) fun w283 S284 => ?_
            refine T_nil ?_
            refine TT_done ?_
            refine W_region ?_
            refine T_pev rfl rfl rfl rfl ?_
            refine T_quo rfl rfl rfl rfl rfl rfl (by omega) ?_
            refine T_re (v' := .int .i64 ((i.toNat / 2 ^ (k + 1) : Nat) : Int)) (congrArg (Value.int .i64) (half_int _ _)) ?_
            refine T_pev rfl rfl rfl rfl ?_
            refine T_nil ?_
            refine W_region ?_
            refine T_ari rfl rfl rfl rfl (by omega) ?_
            refine T_pev rfl rfl rfl rfl ?_
            refine T_nil ?_
            have S285 := S284.drop 1
            have S286 := S285.drop 0
            exact ⟨p.length - (k + 1), [(1, .int .i64 ((i.toNat / 2 ^ (k + 1) : Nat) : Int)), (4, .slice aa4 p.length cc4), (5, .slice aa5 q.length cc5), (8, .pointer (some ⟨b1, 0, none⟩)), (9, .pointer (some ⟨b4, 0, none⟩)), (12, .pointer (some ⟨b7, 0, none⟩)), (18, .slice a234 (k + 1) c235), (19, .slice a258 (k + 1) c259), (62, .int .i64 ((p.length : Nat) : Int)), (63, .int .i64 ((k + 1 : Nat) : Int))], by omega, ⟨(congrArg (fun z => some (Value.int .i64 z)) (by omega)), rfl, rfl, rfl, rfl, rfl, rfl, rfl, (congrArg (fun z => some (Value.int .i64 z)) (by omega)), (congrArg (fun z => some (Value.int .i64 z)) (by omega)), trivial⟩, k + 1, a234, c235, _, a258, c259, _, G252, rfl, (by omega), rfl, (hl47.trans (hl229.trans hl253)), S286, (rs239.mono hl253), hc237, rs263, hc261⟩
          refine T_loadFS 7 S264 rfl rfl rfl rfl rfl rfl rfl rfl rfl (hVs (Go.Au.climb_len _ hy _ _)) ?_
          refine T_nil ?_
          refine TT_step rfl ?_
          refine T_callS rfl rfl g_aumbry_aumbryref07_Node rfl rfl rfl rfl ((nodeR_ok S264.le (Go.Au.climb_len _ hx _ _) hl269).mono ?_)
          rintro e w288 ⟨rfl, hB287⟩
          have S289 := S264.call hB287
          refine ⟨_, rfl, (((Hp.le.refl _)).trans S289.le), ?_⟩
          refine T_re (v' := hV (Go.Au.climb i.toNat x p (k + 1))) (congrArg (fun q => hV q) (climb_even (by omega) (Go.Au.climb_len _ hx _ _))) ?_
          refine T_nil ?_
          refine TT_step rfl ?_
          refine T_callS rfl rfl g_aumbry_aumbryref07_Node rfl rfl rfl rfl ((nodeR_ok S289.le (Go.Au.climb_len _ hy _ _) hl274).mono ?_)
          rintro e w291 ⟨rfl, hB290⟩
          have S292 := S289.call hB290
          refine ⟨_, rfl, (((Hp.le.refl _)).trans S292.le), ?_⟩
          refine T_re (v' := hV (Go.Au.climb i.toNat y q (k + 1))) (congrArg (fun q => hV q) (climb_even (by omega) (Go.Au.climb_len _ hy _ _))) ?_
          refine T_nil ?_
          refine TT_step rfl ?_
          refine T_storeFS 8 S292 (fun _ h => ((Hp.le.refl _)).trans h) rfl rfl rfl rfl rfl rfl rfl rfl rfl (hVs (Go.Au.climb_len _ hx _ _)) ((hVs (Go.Au.climb_len _ hx _ _)).trans (hVs (Go.Au.climb_len _ hx _ _)).symm) (one_hA _) fun w293 S294 => ?_
          refine T_nil ?_
          refine TT_step rfl ?_
          refine T_storeFS 7 S294 (fun _ h => ((Hp.le.refl _)).trans h) rfl rfl rfl rfl rfl rfl rfl rfl rfl (hVs (Go.Au.climb_len _ hy _ _)) ((hVs (Go.Au.climb_len _ hy _ _)).trans (hVs (Go.Au.climb_len _ hy _ _)).symm) (one_hA _) fun w295 S296 => ?_
          refine T_nil ?_
          refine TT_done ?_
          refine W_region ?_
          refine T_pev rfl rfl rfl rfl ?_
          refine T_quo rfl rfl rfl rfl rfl rfl (by omega) ?_
          refine T_re (v' := .int .i64 ((i.toNat / 2 ^ (k + 1) : Nat) : Int)) (congrArg (Value.int .i64) (half_int _ _)) ?_
          refine T_pev rfl rfl rfl rfl ?_
          refine T_nil ?_
          refine W_region ?_
          refine T_ari rfl rfl rfl rfl (by omega) ?_
          refine T_pev rfl rfl rfl rfl ?_
          refine T_nil ?_
          have S297 := S296.drop 1
          have S298 := S297.drop 0
          exact ⟨p.length - (k + 1), [(1, .int .i64 ((i.toNat / 2 ^ (k + 1) : Nat) : Int)), (4, .slice aa4 p.length cc4), (5, .slice aa5 q.length cc5), (8, .pointer (some ⟨b1, 0, none⟩)), (9, .pointer (some ⟨b4, 0, none⟩)), (12, .pointer (some ⟨b7, 0, none⟩)), (18, .slice a234 (k + 1) c235), (19, .slice a258 (k + 1) c259), (62, .int .i64 ((p.length : Nat) : Int)), (63, .int .i64 ((k + 1 : Nat) : Int))], by omega, ⟨(congrArg (fun z => some (Value.int .i64 z)) (by omega)), rfl, rfl, rfl, rfl, rfl, rfl, rfl, (congrArg (fun z => some (Value.int .i64 z)) (by omega)), (congrArg (fun z => some (Value.int .i64 z)) (by omega)), trivial⟩, k + 1, a234, c235, _, a258, c259, _, G252, rfl, (by omega), rfl, (hl47.trans (hl229.trans hl253)), S298, (rs239.mono hl253), hc237, rs263, hc261⟩
        refine T_loadFS 5 S63 rfl rfl rfl rfl rfl rfl rfl rfl rfl (hVs (Go.Au.climb_len _ hy _ _)) ?_
        refine T_nil ?_
        refine TT_step rfl ?_
        refine T_callS rfl rfl g_aumbry_aumbryref07_nodeText rfl rfl rfl rfl ((ntextR_ok S63.le (Go.Au.climb_len _ hx _ _) hl68).mono ?_)
        rintro e w304 ⟨a299, c300, hc301, rfl, ho302, hB303⟩
        have S305 := S63.own hB303 ho302
        refine ⟨_, rfl, (((Hp.le.refl _)).trans S305.le), ?_⟩
        refine T_nil ?_
        refine TT_step rfl ?_
        obtain ⟨G311, hl312, S310, r313⟩ := S305.stillRow 0 rfl
        have rs314 : Rds G311 [.slice a299 ((Go.Au.text [110, 111, 100, 101] [(Go.Au.climb i.toNat x p k), (p.getD k [])]).length) c300] [Go.Au.text [110, 111, 100, 101] [(Go.Au.climb i.toNat x p k), (p.getD k [])]] := Rds.cons (Rd.canonB r313) (Rds.nil _)
        refine T_litS [.slice a299 ((Go.Au.text [110, 111, 100, 101] [(Go.Au.climb i.toNat x p k), (p.getD k [])]).length) c300] rfl rfl rfl rfl rfl rfl rfl rfl rfl rfl rfl rfl rfl (by simp [Value.cells]; rfl) rfl fun a306 w307 hB308 ho309 => ?_
        have S315 := S310.own hB308 ho309
        refine ⟨((hl312).trans S315.le), ?_⟩
        refine T_nil ?_
        refine TT_step rfl ?_
        have hD316 : (Go.Au.wtexts i.toNat x p k ++ [Go.Au.text [110, 111, 100, 101] [(Go.Au.climb i.toNat x p k), (p.getD k [])]]) = Go.Au.wtexts i.toNat x p (k + 1) := (wts_even (by omega) (Go.Au.climb_len _ hx _ _))
        refine T_appendS 2 (k + 1) _ S315 (fun _ h => (hl312).trans h) rfl rfl rfl rfl rfl rfl rfl rfl rfl rfl rfl rfl rfl rfl (S315.rd 0 rfl) rs314.one (by first | rfl | (simp; done) | (simp; omega) | omega) rfl (by unfold maxLen; omega) (by show _ * 24 ≤ _; omega) fun a317 c318 w319 hc320 S321 => ?_
        have rs322 := Rds.append (rs52.mono hl312) rs314
        rw [hD316] at rs322
        refine T_nil ?_
        refine TT_step rfl ?_
        refine T_callS rfl rfl g_aumbry_aumbryref07_nodeText rfl rfl rfl rfl ((ntextR_ok S321.le (Go.Au.climb_len _ hy _ _) hl73).mono ?_)
        rintro e w328 ⟨a323, c324, hc325, rfl, ho326, hB327⟩
        have S329 := S321.own hB327 ho326
        refine ⟨_, rfl, ((hl312).trans S329.le), ?_⟩
        refine T_nil ?_
        refine TT_step rfl ?_
        obtain ⟨G335, hl336, S334, r337⟩ := S329.stillRow 0 rfl
        have rs338 : Rds G335 [.slice a323 ((Go.Au.text [110, 111, 100, 101] [(Go.Au.climb i.toNat y q k), (q.getD k [])]).length) c324] [Go.Au.text [110, 111, 100, 101] [(Go.Au.climb i.toNat y q k), (q.getD k [])]] := Rds.cons (Rd.canonB r337) (Rds.nil _)
        refine T_litS [.slice a323 ((Go.Au.text [110, 111, 100, 101] [(Go.Au.climb i.toNat y q k), (q.getD k [])]).length) c324] rfl rfl rfl rfl rfl rfl rfl rfl rfl rfl rfl rfl rfl (by simp [Value.cells]; rfl) rfl fun a330 w331 hB332 ho333 => ?_
        have S339 := S334.own hB332 ho333
        refine ⟨(((hl312.trans hl336)).trans S339.le), ?_⟩
        refine T_nil ?_
        refine TT_step rfl ?_
        have hD340 : (Go.Au.wtexts i.toNat y q k ++ [Go.Au.text [110, 111, 100, 101] [(Go.Au.climb i.toNat y q k), (q.getD k [])]]) = Go.Au.wtexts i.toNat y q (k + 1) := (wts_even (by omega) (Go.Au.climb_len _ hy _ _))
        refine T_appendS 2 (k + 1) _ S339 (fun _ h => ((hl312.trans hl336)).trans h) rfl rfl rfl rfl rfl rfl rfl rfl rfl rfl rfl rfl rfl rfl (S339.rd 0 rfl) rs338.one (by first | rfl | (simp; done) | (simp; omega) | omega) rfl (by unfold maxLen; omega) (by show _ * 24 ≤ _; omega) fun a341 c342 w343 hc344 S345 => ?_
        have rs346 := Rds.append (rs57.mono (hl312.trans hl336)) rs338
        rw [hD340] at rs346
        refine T_nil ?_
        refine TT_step rfl ?_
        refine T_pev rfl rfl rfl rfl ?_
        refine T_nil ?_
        refine TT_step rfl ?_
        refine T_pev rfl rfl rfl rfl ?_
        refine T_nil ?_
        refine TT_done ?_
        refine W_tree (planF Tryd.prog G335 [97]) (.step 0 (.step 1 (.step 2 (.step 3 (.step 4 (.step 7 (.step 8 (.step 9 (.step 10 (.fork 5 6 (.step 6 (.step 11 (.step 12 (.step 13 .done)))) (.step 5 (.step 11 (.step 12 (.step 13 .done)))))))))))))) rfl (by kernel_rfl) S345.le ?_
        have S347 := S345.drew
        refine TT_step rfl ?_
        refine T_loadFS 8 S347 rfl rfl rfl rfl rfl rfl rfl rfl rfl (hVs (Go.Au.climb_len _ hx _ _)) ?_
        refine T_nil ?_
        refine TT_step rfl ?_
        refine T_pev rfl rfl rfl rfl ?_
        refine T_nil ?_
        refine TT_step rfl ?_
        refine T_pev rfl rfl rfl rfl ?_
        refine T_nil ?_
        refine TT_step rfl ?_
        refine T_idxR k (hp.mono (hl47.trans (hl312.trans hl336))).2 rfl rfl rfl rfl rfl rfl rfl rfl rfl (by omega) (by omega) fun b348 o349 hc350 => ?_
        have hc351 := cells_h (hp.mono (hl47.trans (hl312.trans hl336))).1 k (by omega) hc350
        have hl352 := len_h (hp.mono (hl47.trans (hl312.trans hl336))).1 k (by omega)
        refine T_nil ?_
        refine TT_step rfl ?_
        refine T_loadGA _ S347 hc351 rfl rfl rfl rfl rfl rfl rfl rfl (hVs hl352) ?_
        refine T_nil ?_
        refine TT_step rfl ?_
        refine T_pev rfl rfl rfl rfl ?_
        refine T_nil ?_
        refine TT_step rfl ?_
        refine T_pev rfl rfl rfl rfl ?_
        refine T_nil ?_
        refine TT_step rfl ?_
        refine T_idxR k (hq.mono (hl47.trans (hl312.trans hl336))).2 rfl rfl rfl rfl rfl rfl rfl rfl rfl (by omega) (by omega) fun b353 o354 hc355 => ?_
        have hc356 := cells_h (hq.mono (hl47.trans (hl312.trans hl336))).1 k (by omega) hc355
        have hl357 := len_h (hq.mono (hl47.trans (hl312.trans hl336))).1 k (by omega)
        refine T_nil ?_
        refine TT_step rfl ?_
        refine T_loadGAP _ (fun _ h => h) hc356 rfl rfl rfl rfl rfl rfl rfl rfl (hVs hl357) ?_
        refine T_nil ?_
        refine TT_fork rfl rfl ?_ ?_
        · refine T_callS rfl rfl g_aumbry_aumbryref07_Node rfl rfl rfl rfl ((nodeR_ok S347.le (Go.Au.climb_len _ hx _ _) hl352).mono ?_)
          rintro e w359 ⟨rfl, hB358⟩
          have S360 := S347.call hB358
          refine ⟨_, rfl, (((Hp.le.refl _)).trans S360.le), ?_⟩
          refine T_re (v' := hV (Go.Au.climb i.toNat x p (k + 1))) (congrArg (fun q => hV q) (climb_even (by omega) (Go.Au.climb_len _ hx _ _))) ?_
          refine T_nil ?_
          refine TT_step rfl ?_
          refine T_loadFS 7 S360 rfl rfl rfl rfl rfl rfl rfl rfl rfl (hVs (Go.Au.climb_len _ hy _ _)) ?_
          refine T_nil ?_
          refine TT_step rfl ?_
          refine T_callS rfl rfl g_aumbry_aumbryref07_Node rfl rfl rfl rfl ((nodeR_ok S360.le (Go.Au.climb_len _ hy _ _) hl357).mono ?_)
          rintro e w362 ⟨rfl, hB361⟩
          have S363 := S360.call hB361
          refine ⟨_, rfl, (((Hp.le.refl _)).trans S363.le), ?_⟩
          refine T_re (v' := hV (Go.Au.climb i.toNat y q (k + 1))) (congrArg (fun q => hV q) (climb_even (by omega) (Go.Au.climb_len _ hy _ _))) ?_
          refine T_nil ?_
          refine TT_step rfl ?_
          refine T_storeFS 8 S363 (fun _ h => ((Hp.le.refl _)).trans h) rfl rfl rfl rfl rfl rfl rfl rfl rfl (hVs (Go.Au.climb_len _ hx _ _)) ((hVs (Go.Au.climb_len _ hx _ _)).trans (hVs (Go.Au.climb_len _ hx _ _)).symm) (one_hA _) fun w364 S365 => ?_
          refine T_nil ?_
          refine TT_step rfl ?_
          refine T_storeFS 7 S365 (fun _ h => ((Hp.le.refl _)).trans h) rfl rfl rfl rfl rfl rfl rfl rfl rfl (hVs (Go.Au.climb_len _ hy _ _)) ((hVs (Go.Au.climb_len _ hy _ _)).trans (hVs (Go.Au.climb_len _ hy _ _)).symm) (one_hA _) fun w366 S367 => ?_
          refine T_nil ?_
          refine TT_done ?_
          refine W_region ?_
          refine T_pev rfl rfl rfl rfl ?_
          refine T_quo rfl rfl rfl rfl rfl rfl (by omega) ?_
          refine T_re (v' := .int .i64 ((i.toNat / 2 ^ (k + 1) : Nat) : Int)) (congrArg (Value.int .i64) (half_int _ _)) ?_
          refine T_pev rfl rfl rfl rfl ?_
          refine T_nil ?_
          refine W_region ?_
          refine T_ari rfl rfl rfl rfl (by omega) ?_
          refine T_pev rfl rfl rfl rfl ?_
          refine T_nil ?_
          have S368 := S367.drop 1
          have S369 := S368.drop 0
          exact ⟨p.length - (k + 1), [(1, .int .i64 ((i.toNat / 2 ^ (k + 1) : Nat) : Int)), (4, .slice aa4 p.length cc4), (5, .slice aa5 q.length cc5), (8, .pointer (some ⟨b1, 0, none⟩)), (9, .pointer (some ⟨b4, 0, none⟩)), (12, .pointer (some ⟨b7, 0, none⟩)), (18, .slice a317 (k + 1) c318), (19, .slice a341 (k + 1) c342), (62, .int .i64 ((p.length : Nat) : Int)), (63, .int .i64 ((k + 1 : Nat) : Int))], by omega, ⟨(congrArg (fun z => some (Value.int .i64 z)) (by omega)), rfl, rfl, rfl, rfl, rfl, rfl, rfl, (congrArg (fun z => some (Value.int .i64 z)) (by omega)), (congrArg (fun z => some (Value.int .i64 z)) (by omega)), trivial⟩, k + 1, a317, c318, _, a341, c342, _, G335, rfl, (by omega), rfl, (hl47.trans (hl312.trans hl336)), S369, (rs322.mono hl336), hc320, rs346, hc344⟩
        refine T_loadFS 7 S347 rfl rfl rfl rfl rfl rfl rfl rfl rfl (hVs (Go.Au.climb_len _ hy _ _)) ?_
        refine T_nil ?_
        refine TT_step rfl ?_
        refine T_callS rfl rfl g_aumbry_aumbryref07_Node rfl rfl rfl rfl ((nodeR_ok S347.le (Go.Au.climb_len _ hx _ _) hl352).mono ?_)
        rintro e w371 ⟨rfl, hB370⟩
        have S372 := S347.call hB370
        refine ⟨_, rfl, (((Hp.le.refl _)).trans S372.le), ?_⟩
        refine T_re (v' := hV (Go.Au.climb i.toNat x p (k + 1))) (congrArg (fun q => hV q) (climb_even (by omega) (Go.Au.climb_len _ hx _ _))) ?_
        refine T_nil ?_
        refine TT_step rfl ?_
        refine T_callS rfl rfl g_aumbry_aumbryref07_Node rfl rfl rfl rfl ((nodeR_ok S372.le (Go.Au.climb_len _ hy _ _) hl357).mono ?_)
        rintro e w374 ⟨rfl, hB373⟩
        have S375 := S372.call hB373
        refine ⟨_, rfl, (((Hp.le.refl _)).trans S375.le), ?_⟩
        refine T_re (v' := hV (Go.Au.climb i.toNat y q (k + 1))) (congrArg (fun q => hV q) (climb_even (by omega) (Go.Au.climb_len _ hy _ _))) ?_
        refine T_nil ?_
        refine TT_step rfl ?_
        refine T_storeFS 8 S375 (fun _ h => ((Hp.le.refl _)).trans h) rfl rfl rfl rfl rfl rfl rfl rfl rfl (hVs (Go.Au.climb_len _ hx _ _)) ((hVs (Go.Au.climb_len _ hx _ _)).trans (hVs (Go.Au.climb_len _ hx _ _)).symm) (one_hA _) fun w376 S377 => ?_
        refine T_nil ?_
        refine TT_step rfl ?_
        refine T_storeFS 7 S377 (fun _ h => ((Hp.le.refl _)).trans h) rfl rfl rfl rfl rfl rfl rfl rfl rfl (hVs (Go.Au.climb_len _ hy _ _)) ((hVs (Go.Au.climb_len _ hy _ _)).trans (hVs (Go.Au.climb_len _ hy _ _)).symm) (one_hA _) fun w378 S379 => ?_
        refine T_nil ?_
        refine TT_done ?_
        refine W_region ?_
        refine T_pev rfl rfl rfl rfl ?_
        refine T_quo rfl rfl rfl rfl rfl rfl (by omega) ?_
        refine T_re (v' := .int .i64 ((i.toNat / 2 ^ (k + 1) : Nat) : Int)) (congrArg (Value.int .i64) (half_int _ _)) ?_
        refine T_pev rfl rfl rfl rfl ?_
        refine T_nil ?_
        refine W_region ?_
        refine T_ari rfl rfl rfl rfl (by omega) ?_
        refine T_pev rfl rfl rfl rfl ?_
        refine T_nil ?_
        have S380 := S379.drop 1
        have S381 := S380.drop 0
        exact ⟨p.length - (k + 1), [(1, .int .i64 ((i.toNat / 2 ^ (k + 1) : Nat) : Int)), (4, .slice aa4 p.length cc4), (5, .slice aa5 q.length cc5), (8, .pointer (some ⟨b1, 0, none⟩)), (9, .pointer (some ⟨b4, 0, none⟩)), (12, .pointer (some ⟨b7, 0, none⟩)), (18, .slice a317 (k + 1) c318), (19, .slice a341 (k + 1) c342), (62, .int .i64 ((p.length : Nat) : Int)), (63, .int .i64 ((k + 1 : Nat) : Int))], by omega, ⟨(congrArg (fun z => some (Value.int .i64 z)) (by omega)), rfl, rfl, rfl, rfl, rfl, rfl, rfl, (congrArg (fun z => some (Value.int .i64 z)) (by omega)), (congrArg (fun z => some (Value.int .i64 z)) (by omega)), trivial⟩, k + 1, a317, c318, _, a341, c342, _, G335, rfl, (by omega), rfl, (hl47.trans (hl312.trans hl336)), S381, (rs322.mono hl336), hc320, rs346, hc344⟩
      refine W_seq ?_
      refine W_tree (planF Tryd.prog G46 [112]) (.step 0 (.step 1 (.step 2 (.step 3 (.step 4 (.step 5 (.step 9 (.step 10 (.step 11 (.step 12 (.step 13 (.fork 6 14 (.fork 7 14 (.fork 8 14 (.step 14 (.step 15 (.step 16 (.step 17 (.step 18 (.step 19 .done)))))) (.step 8 (.step 15 (.step 16 (.step 17 (.step 18 (.step 19 .done))))))) (.step 7 (.step 8 (.step 15 (.step 16 (.step 17 (.step 18 (.step 19 .done)))))))) (.step 6 (.step 7 (.step 8 (.step 15 (.step 16 (.step 17 (.step 18 (.step 19 .done)))))))))))))))))))) rfl (by kernel_rfl) S59.le ?_
      have S382 := S59.drew
      refine TT_step rfl ?_
      refine T_pev rfl rfl rfl rfl ?_
      refine T_nil ?_
      refine TT_step rfl ?_
      refine T_pev rfl rfl rfl rfl ?_
      refine T_nil ?_
      refine TT_step rfl ?_
      refine T_pev rfl rfl rfl rfl ?_
      refine T_nil ?_
      refine TT_step rfl ?_
      refine T_idxR k (hp.mono hl47).2 rfl rfl rfl rfl rfl rfl rfl rfl rfl (by omega) (by omega) fun b383 o384 hc385 => ?_
      have hc386 := cells_h (hp.mono hl47).1 k (by omega) hc385
      have hl387 := len_h (hp.mono hl47).1 k (by omega)
      refine T_nil ?_
      refine TT_step rfl ?_
      refine T_loadGA _ S382 hc386 rfl rfl rfl rfl rfl rfl rfl rfl (hVs hl387) ?_
      refine T_nil ?_
      refine TT_step rfl ?_
      refine T_loadFS 6 S382 rfl rfl rfl rfl rfl rfl rfl rfl rfl (hVs (Go.Au.climb_len _ hx _ _)) ?_
      refine T_nil ?_
      refine TT_step rfl ?_
      refine T_pev rfl rfl rfl rfl ?_
      refine T_nil ?_
      refine TT_step rfl ?_
      refine T_pev rfl rfl rfl rfl ?_
      refine T_nil ?_
      refine TT_step rfl ?_
      refine T_pev rfl rfl rfl rfl ?_
      refine T_nil ?_
      refine TT_step rfl ?_
      refine T_idxR k (hq.mono hl47).2 rfl rfl rfl rfl rfl rfl rfl rfl rfl (by omega) (by omega) fun b388 o389 hc390 => ?_
      have hc391 := cells_h (hq.mono hl47).1 k (by omega) hc390
      have hl392 := len_h (hq.mono hl47).1 k (by omega)
      refine T_nil ?_
      refine TT_step rfl ?_
      refine T_loadGAP _ (fun _ h => h) hc391 rfl rfl rfl rfl rfl rfl rfl rfl (hVs hl392) ?_
      refine T_nil ?_
      refine TT_fork rfl rfl ?_ ?_
      · refine T_callS rfl rfl g_aumbry_aumbryref07_nodeText rfl rfl rfl rfl ((ntextR_ok S382.le hl387 (Go.Au.climb_len _ hx _ _)).mono ?_)
        rintro e w398 ⟨a393, c394, hc395, rfl, ho396, hB397⟩
        have S399 := S382.own hB397 ho396
        refine ⟨_, rfl, (((Hp.le.refl _)).trans S399.le), ?_⟩
        refine T_nil ?_
        refine TT_fork rfl rfl ?_ ?_
        · obtain ⟨G405, hl406, S404, r407⟩ := S399.stillRow 0 rfl
          have rs408 : Rds G405 [.slice a393 ((Go.Au.text [110, 111, 100, 101] [(p.getD k []), (Go.Au.climb i.toNat x p k)]).length) c394] [Go.Au.text [110, 111, 100, 101] [(p.getD k []), (Go.Au.climb i.toNat x p k)]] := Rds.cons (Rd.canonB r407) (Rds.nil _)
          refine T_litS [.slice a393 ((Go.Au.text [110, 111, 100, 101] [(p.getD k []), (Go.Au.climb i.toNat x p k)]).length) c394] rfl rfl rfl rfl rfl rfl rfl rfl rfl rfl rfl rfl rfl (by simp [Value.cells]; rfl) rfl fun a400 w401 hB402 ho403 => ?_
          have S409 := S404.own hB402 ho403
          refine ⟨((hl406).trans S409.le), ?_⟩
          refine T_nil ?_
          refine TT_fork rfl rfl ?_ ?_
          · have hD410 : (Go.Au.wtexts i.toNat x p k ++ [Go.Au.text [110, 111, 100, 101] [(p.getD k []), (Go.Au.climb i.toNat x p k)]]) = Go.Au.wtexts i.toNat x p (k + 1) := (wts_odd (by omega) (len_h hp.1 k (by omega)))
            refine T_appendS 2 (k + 1) _ S409 (fun _ h => (hl406).trans h) rfl rfl rfl rfl rfl rfl rfl rfl rfl rfl rfl rfl rfl rfl (S409.rd 0 rfl) rs408.one (by first | rfl | (simp; done) | (simp; omega) | omega) rfl (by unfold maxLen; omega) (by show _ * 24 ≤ _; omega) fun a411 c412 w413 hc414 S415 => ?_
            have rs416 := Rds.append (rs52.mono hl406) rs408
            rw [hD410] at rs416
            refine T_nil ?_
            refine TT_step rfl ?_
            refine T_loadFS 6 S415 rfl rfl rfl rfl rfl rfl rfl rfl rfl (hVs (Go.Au.climb_len _ hy _ _)) ?_
            refine T_nil ?_
            refine TT_step rfl ?_
            refine T_callS rfl rfl g_aumbry_aumbryref07_nodeText rfl rfl rfl rfl ((ntextR_ok S415.le hl392 (Go.Au.climb_len _ hy _ _)).mono ?_)
            rintro e w422 ⟨a417, c418, hc419, rfl, ho420, hB421⟩
            have S423 := S415.own hB421 ho420
            refine ⟨_, rfl, ((hl406).trans S423.le), ?_⟩
            refine T_nil ?_
            refine TT_step rfl ?_
            obtain ⟨G429, hl430, S428, r431⟩ := S423.stillRow 0 rfl
            have rs432 : Rds G429 [.slice a417 ((Go.Au.text [110, 111, 100, 101] [(q.getD k []), (Go.Au.climb i.toNat y q k)]).length) c418] [Go.Au.text [110, 111, 100, 101] [(q.getD k []), (Go.Au.climb i.toNat y q k)]] := Rds.cons (Rd.canonB r431) (Rds.nil _)
            refine T_litS [.slice a417 ((Go.Au.text [110, 111, 100, 101] [(q.getD k []), (Go.Au.climb i.toNat y q k)]).length) c418] rfl rfl rfl rfl rfl rfl rfl rfl rfl rfl rfl rfl rfl (by simp [Value.cells]; rfl) rfl fun a424 w425 hB426 ho427 => ?_
            have S433 := S428.own hB426 ho427
            refine ⟨(((hl406.trans hl430)).trans S433.le), ?_⟩
            refine T_nil ?_
            refine TT_step rfl ?_
            have hD434 : (Go.Au.wtexts i.toNat y q k ++ [Go.Au.text [110, 111, 100, 101] [(q.getD k []), (Go.Au.climb i.toNat y q k)]]) = Go.Au.wtexts i.toNat y q (k + 1) := (wts_odd (by omega) (len_h hq.1 k (by omega)))
            refine T_appendS 2 (k + 1) _ S433 (fun _ h => ((hl406.trans hl430)).trans h) rfl rfl rfl rfl rfl rfl rfl rfl rfl rfl rfl rfl rfl rfl (S433.rd 0 rfl) rs432.one (by first | rfl | (simp; done) | (simp; omega) | omega) rfl (by unfold maxLen; omega) (by show _ * 24 ≤ _; omega) fun a435 c436 w437 hc438 S439 => ?_
            have rs440 := Rds.append (rs57.mono (hl406.trans hl430)) rs432
            rw [hD434] at rs440
            refine T_nil ?_
            refine TT_step rfl ?_
            refine T_pev rfl rfl rfl rfl ?_
            refine T_nil ?_
            refine TT_step rfl ?_
            refine T_pev rfl rfl rfl rfl ?_
            refine T_nil ?_
            refine TT_done ?_
            refine W_tree (planF Tryd.prog G429 [126]) (.step 0 (.step 1 (.step 2 (.step 3 (.step 4 (.step 6 (.step 7 (.step 8 (.step 9 (.fork 5 10 (.step 10 (.step 11 (.step 12 (.step 13 .done)))) (.step 5 (.step 11 (.step 12 (.step 13 .done)))))))))))))) rfl (by kernel_rfl) S439.le ?_
            have S441 := S439.drew
            refine TT_step rfl ?_
            refine T_pev rfl rfl rfl rfl ?_
            refine T_nil ?_
            refine TT_step rfl ?_
            refine T_pev rfl rfl rfl rfl ?_
            refine T_nil ?_
            refine TT_step rfl ?_
            refine T_idxR k (hp.mono (hl47.trans (hl406.trans hl430))).2 rfl rfl rfl rfl rfl rfl rfl rfl rfl (by omega) (by omega) fun b442 o443 hc444 => ?_
            have hc445 := cells_h (hp.mono (hl47.trans (hl406.trans hl430))).1 k (by omega) hc444
            have hl446 := len_h (hp.mono (hl47.trans (hl406.trans hl430))).1 k (by omega)
            refine T_nil ?_
            refine TT_step rfl ?_
            refine T_loadGA _ S441 hc445 rfl rfl rfl rfl rfl rfl rfl rfl (hVs hl446) ?_
            refine T_nil ?_
            refine TT_step rfl ?_
            refine T_loadFS 8 S441 rfl rfl rfl rfl rfl rfl rfl rfl rfl (hVs (Go.Au.climb_len _ hx _ _)) ?_
            refine T_nil ?_
            refine TT_step rfl ?_
            refine T_pev rfl rfl rfl rfl ?_
            refine T_nil ?_
            refine TT_step rfl ?_
            refine T_pev rfl rfl rfl rfl ?_
            refine T_nil ?_
            refine TT_step rfl ?_
            refine T_idxR k (hq.mono (hl47.trans (hl406.trans hl430))).2 rfl rfl rfl rfl rfl rfl rfl rfl rfl (by omega) (by omega) fun b447 o448 hc449 => ?_
            have hc450 := cells_h (hq.mono (hl47.trans (hl406.trans hl430))).1 k (by omega) hc449
            have hl451 := len_h (hq.mono (hl47.trans (hl406.trans hl430))).1 k (by omega)
            refine T_nil ?_
            refine TT_step rfl ?_
            refine T_loadGAP _ (fun _ h => h) hc450 rfl rfl rfl rfl rfl rfl rfl rfl (hVs hl451) ?_
            refine T_nil ?_
            refine TT_fork rfl rfl ?_ ?_
            · refine T_callS rfl rfl g_aumbry_aumbryref07_Node rfl rfl rfl rfl ((nodeR_ok S441.le hl446 (Go.Au.climb_len _ hx _ _)).mono ?_)
              rintro e w453 ⟨rfl, hB452⟩
              have S454 := S441.call hB452
              refine ⟨_, rfl, (((Hp.le.refl _)).trans S454.le), ?_⟩
              refine T_re (v' := hV (Go.Au.climb i.toNat x p (k + 1))) (congrArg (fun q => hV q) (climb_odd (by omega) (len_h hp.1 k (by omega)))) ?_
              refine T_nil ?_
              refine TT_step rfl ?_
              refine T_loadFS 7 S454 rfl rfl rfl rfl rfl rfl rfl rfl rfl (hVs (Go.Au.climb_len _ hy _ _)) ?_
              refine T_nil ?_
              refine TT_step rfl ?_
              refine T_callS rfl rfl g_aumbry_aumbryref07_Node rfl rfl rfl rfl ((nodeR_ok S454.le hl451 (Go.Au.climb_len _ hy _ _)).mono ?_)
              rintro e w456 ⟨rfl, hB455⟩
              have S457 := S454.call hB455
              refine ⟨_, rfl, (((Hp.le.refl _)).trans S457.le), ?_⟩
              refine T_re (v' := hV (Go.Au.climb i.toNat y q (k + 1))) (congrArg (fun q => hV q) (climb_odd (by omega) (len_h hq.1 k (by omega)))) ?_
              refine T_nil ?_
              refine TT_step rfl ?_
              refine T_storeFS 8 S457 (fun _ h => ((Hp.le.refl _)).trans h) rfl rfl rfl rfl rfl rfl rfl rfl rfl (hVs (Go.Au.climb_len _ hx _ _)) ((hVs (Go.Au.climb_len _ hx _ _)).trans (hVs (Go.Au.climb_len _ hx _ _)).symm) (one_hA _) fun w458 S459 => ?_
              refine T_nil ?_
              refine TT_step rfl ?_
              refine T_storeFS 7 S459 (fun _ h => ((Hp.le.refl _)).trans h) rfl rfl rfl rfl rfl rfl rfl rfl rfl (hVs (Go.Au.climb_len _ hy _ _)) ((hVs (Go.Au.climb_len _ hy _ _)).trans (hVs (Go.Au.climb_len _ hy _ _)).symm) (one_hA _) fun w460 S461 => ?_
              refine T_nil ?_
              refine TT_done ?_
              refine W_region ?_
              refine T_pev rfl rfl rfl rfl ?_
              refine T_quo rfl rfl rfl rfl rfl rfl (by omega) ?_
              refine T_re (v' := .int .i64 ((i.toNat / 2 ^ (k + 1) : Nat) : Int)) (congrArg (Value.int .i64) (half_int _ _)) ?_
              refine T_pev rfl rfl rfl rfl ?_
              refine T_nil ?_
              refine W_region ?_
              refine T_ari rfl rfl rfl rfl (by omega) ?_
              refine T_pev rfl rfl rfl rfl ?_
              refine T_nil ?_
              have S462 := S461.drop 1
              have S463 := S462.drop 0
              exact ⟨p.length - (k + 1), [(1, .int .i64 ((i.toNat / 2 ^ (k + 1) : Nat) : Int)), (4, .slice aa4 p.length cc4), (5, .slice aa5 q.length cc5), (8, .pointer (some ⟨b1, 0, none⟩)), (9, .pointer (some ⟨b4, 0, none⟩)), (12, .pointer (some ⟨b7, 0, none⟩)), (18, .slice a411 (k + 1) c412), (19, .slice a435 (k + 1) c436), (62, .int .i64 ((p.length : Nat) : Int)), (63, .int .i64 ((k + 1 : Nat) : Int))], by omega, ⟨(congrArg (fun z => some (Value.int .i64 z)) (by omega)), rfl, rfl, rfl, rfl, rfl, rfl, rfl, (congrArg (fun z => some (Value.int .i64 z)) (by omega)), (congrArg (fun z => some (Value.int .i64 z)) (by omega)), trivial⟩, k + 1, a411, c412, _, a435, c436, _, G429, rfl, (by omega), rfl, (hl47.trans (hl406.trans hl430)), S463, (rs416.mono hl430), hc414, rs440, hc438⟩
            refine T_loadFS 7 S441 rfl rfl rfl rfl rfl rfl rfl rfl rfl (hVs (Go.Au.climb_len _ hy _ _)) ?_
            refine T_nil ?_
            refine TT_step rfl ?_
            refine T_callS rfl rfl g_aumbry_aumbryref07_Node rfl rfl rfl rfl ((nodeR_ok S441.le hl446 (Go.Au.climb_len _ hx _ _)).mono ?_)
            rintro e w465 ⟨rfl, hB464⟩
            have S466 := S441.call hB464
            refine ⟨_, rfl, (((Hp.le.refl _)).trans S466.le), ?_⟩
            refine T_re (v' := hV (Go.Au.climb i.toNat x p (k + 1))) (congrArg (fun q => hV q) (climb_odd (by omega) (len_h hp.1 k (by omega)))) ?_
            refine T_nil ?_
            refine TT_step rfl ?_
            refine T_callS rfl rfl g_aumbry_aumbryref07_Node rfl rfl rfl rfl ((nodeR_ok S466.le hl451 (Go.Au.climb_len _ hy _ _)).mono ?_)
            rintro e w468 ⟨rfl, hB467⟩
            have S469 := S466.call hB467
            refine ⟨_, rfl, (((Hp.le.refl _)).trans S469.le), ?_⟩
            refine T_re (v' := hV (Go.Au.climb i.toNat y q (k + 1))) (congrArg (fun q => hV q) (climb_odd (by omega) (len_h hq.1 k (by omega)))) ?_
            refine T_nil ?_
            refine TT_step rfl ?_
            refine T_storeFS 8 S469 (fun _ h => ((Hp.le.refl _)).trans h) rfl rfl rfl rfl rfl rfl rfl rfl rfl (hVs (Go.Au.climb_len _ hx _ _)) ((hVs (Go.Au.climb_len _ hx _ _)).trans (hVs (Go.Au.climb_len _ hx _ _)).symm) (one_hA _) fun w470 S471 => ?_
            refine T_nil ?_
            refine TT_step rfl ?_
            refine T_storeFS 7 S471 (fun _ h => ((Hp.le.refl _)).trans h) rfl rfl rfl rfl rfl rfl rfl rfl rfl (hVs (Go.Au.climb_len _ hy _ _)) ((hVs (Go.Au.climb_len _ hy _ _)).trans (hVs (Go.Au.climb_len _ hy _ _)).symm) (one_hA _) fun w472 S473 => ?_
            refine T_nil ?_
            refine TT_done ?_
            refine W_region ?_
            refine T_pev rfl rfl rfl rfl ?_
            refine T_quo rfl rfl rfl rfl rfl rfl (by omega) ?_
            refine T_re (v' := .int .i64 ((i.toNat / 2 ^ (k + 1) : Nat) : Int)) (congrArg (Value.int .i64) (half_int _ _)) ?_
            refine T_pev rfl rfl rfl rfl ?_
            refine T_nil ?_
            refine W_region ?_
            refine T_ari rfl rfl rfl rfl (by omega) ?_
            refine T_pev rfl rfl rfl rfl ?_
            refine T_nil ?_
            have S474 := S473.drop 1
            have S475 := S474.drop 0
            exact ⟨p.length - (k + 1), [(1, .int .i64 ((i.toNat / 2 ^ (k + 1) : Nat) : Int)), (4, .slice aa4 p.length cc4), (5, .slice aa5 q.length cc5), (8, .pointer (some ⟨b1, 0, none⟩)), (9, .pointer (some ⟨b4, 0, none⟩)), (12, .pointer (some ⟨b7, 0, none⟩)), (18, .slice a411 (k + 1) c412), (19, .slice a435 (k + 1) c436), (62, .int .i64 ((p.length : Nat) : Int)), (63, .int .i64 ((k + 1 : Nat) : Int))], by omega, ⟨(congrArg (fun z => some (Value.int .i64 z)) (by omega)), rfl, rfl, rfl, rfl, rfl, rfl, rfl, (congrArg (fun z => some (Value.int .i64 z)) (by omega)), (congrArg (fun z => some (Value.int .i64 z)) (by omega)), trivial⟩, k + 1, a411, c412, _, a435, c436, _, G429, rfl, (by omega), rfl, (hl47.trans (hl406.trans hl430)), S475, (rs416.mono hl430), hc414, rs440, hc438⟩
          refine T_loadFS 6 S409 rfl rfl rfl rfl rfl rfl rfl rfl rfl (hVs (Go.Au.climb_len _ hy _ _)) ?_
          refine T_nil ?_
          refine TT_step rfl ?_
          have hD476 : (Go.Au.wtexts i.toNat x p k ++ [Go.Au.text [110, 111, 100, 101] [(p.getD k []), (Go.Au.climb i.toNat x p k)]]) = Go.Au.wtexts i.toNat x p (k + 1) := (wts_odd (by omega) (len_h hp.1 k (by omega)))
          refine T_appendS 2 (k + 1) _ S409 (fun _ h => (hl406).trans h) rfl rfl rfl rfl rfl rfl rfl rfl rfl rfl rfl rfl rfl rfl (S409.rd 0 rfl) rs408.one (by first | rfl | (simp; done) | (simp; omega) | omega) rfl (by unfold maxLen; omega) (by show _ * 24 ≤ _; omega) fun a477 c478 w479 hc480 S481 => ?_
          have rs482 := Rds.append (rs52.mono hl406) rs408
          rw [hD476] at rs482
          refine T_nil ?_
          refine TT_step rfl ?_
          refine T_callS rfl rfl g_aumbry_aumbryref07_nodeText rfl rfl rfl rfl ((ntextR_ok S481.le hl392 (Go.Au.climb_len _ hy _ _)).mono ?_)
          rintro e w488 ⟨a483, c484, hc485, rfl, ho486, hB487⟩
          have S489 := S481.own hB487 ho486
          refine ⟨_, rfl, ((hl406).trans S489.le), ?_⟩
          refine T_nil ?_
          refine TT_step rfl ?_
          obtain ⟨G495, hl496, S494, r497⟩ := S489.stillRow 0 rfl
          have rs498 : Rds G495 [.slice a483 ((Go.Au.text [110, 111, 100, 101] [(q.getD k []), (Go.Au.climb i.toNat y q k)]).length) c484] [Go.Au.text [110, 111, 100, 101] [(q.getD k []), (Go.Au.climb i.toNat y q k)]] := Rds.cons (Rd.canonB r497) (Rds.nil _)
          refine T_litS [.slice a483 ((Go.Au.text [110, 111, 100, 101] [(q.getD k []), (Go.Au.climb i.toNat y q k)]).length) c484] rfl rfl rfl rfl rfl rfl rfl rfl rfl rfl rfl rfl rfl (by simp [Value.cells]; rfl) rfl fun a490 w491 hB492 ho493 => ?_
          have S499 := S494.own hB492 ho493
          refine ⟨(((hl406.trans hl496)).trans S499.le), ?_⟩
          refine T_nil ?_
          refine TT_step rfl ?_
          have hD500 : (Go.Au.wtexts i.toNat y q k ++ [Go.Au.text [110, 111, 100, 101] [(q.getD k []), (Go.Au.climb i.toNat y q k)]]) = Go.Au.wtexts i.toNat y q (k + 1) := (wts_odd (by omega) (len_h hq.1 k (by omega)))
          refine T_appendS 2 (k + 1) _ S499 (fun _ h => ((hl406.trans hl496)).trans h) rfl rfl rfl rfl rfl rfl rfl rfl rfl rfl rfl rfl rfl rfl (S499.rd 0 rfl) rs498.one (by first | rfl | (simp; done) | (simp; omega) | omega) rfl (by unfold maxLen; omega) (by show _ * 24 ≤ _; omega) fun a501 c502 w503 hc504 S505 => ?_
          have rs506 := Rds.append (rs57.mono (hl406.trans hl496)) rs498
          rw [hD500] at rs506
          refine T_nil ?_
          refine TT_step rfl ?_
          refine T_pev rfl rfl rfl rfl ?_
          refine T_nil ?_
          refine TT_step rfl ?_
          refine T_pev rfl rfl rfl rfl ?_
          refine T_nil ?_
          refine TT_done ?_
          refine W_tree (planF Tryd.prog G495 [126]) (.step 0 (.step 1 (.step 2 (.step 3 (.step 4 (.step 6 (.step 7 (.step 8 (.step 9 (.fork 5 10 (.step 10 (.step 11 (.step 12 (.step 13 .done)))) (.step 5 (.step 11 (.step 12 (.step 13 .done)))))))))))))) rfl (by kernel_rfl) S505.le ?_
          have S507 := S505.drew
          refine TT_step rfl ?_
          refine T_pev rfl rfl rfl rfl ?_
          refine T_nil ?_
          refine TT_step rfl ?_
          refine T_pev rfl rfl rfl rfl ?_
          refine T_nil ?_
          refine TT_step rfl ?_
          refine T_idxR k (hp.mono (hl47.trans (hl406.trans hl496))).2 rfl rfl rfl rfl rfl rfl rfl rfl rfl (by omega) (by omega) fun b508 o509 hc510 => ?_
          have hc511 := cells_h (hp.mono (hl47.trans (hl406.trans hl496))).1 k (by omega) hc510
          have hl512 := len_h (hp.mono (hl47.trans (hl406.trans hl496))).1 k (by omega)
          refine T_nil ?_
          refine TT_step rfl ?_
          refine T_loadGA _ S507 hc511 rfl rfl rfl rfl rfl rfl rfl rfl (hVs hl512) ?_
          refine T_nil ?_
          refine TT_step rfl ?_
          refine T_loadFS 8 S507 rfl rfl rfl rfl rfl rfl rfl rfl rfl (hVs (Go.Au.climb_len _ hx _ _)) ?_
          refine T_nil ?_
          refine TT_step rfl ?_
          refine T_pev rfl rfl rfl rfl ?_
          refine T_nil ?_
          refine TT_step rfl ?_
          refine T_pev rfl rfl rfl rfl ?_
          refine T_nil ?_
          refine TT_step rfl ?_
          refine T_idxR k (hq.mono (hl47.trans (hl406.trans hl496))).2 rfl rfl rfl rfl rfl rfl rfl rfl rfl (by omega) (by omega) fun b513 o514 hc515 => ?_
          have hc516 := cells_h (hq.mono (hl47.trans (hl406.trans hl496))).1 k (by omega) hc515
          have hl517 := len_h (hq.mono (hl47.trans (hl406.trans hl496))).1 k (by omega)
          refine T_nil ?_
          refine TT_step rfl ?_
          refine T_loadGAP _ (fun _ h => h) hc516 rfl rfl rfl rfl rfl rfl rfl rfl (hVs hl517) ?_
          refine T_nil ?_
          refine TT_fork rfl rfl ?_ ?_
          · refine T_callS rfl rfl g_aumbry_aumbryref07_Node rfl rfl rfl rfl ((nodeR_ok S507.le hl512 (Go.Au.climb_len _ hx _ _)).mono ?_)
            rintro e w519 ⟨rfl, hB518⟩
            have S520 := S507.call hB518
            refine ⟨_, rfl, (((Hp.le.refl _)).trans S520.le), ?_⟩
            refine T_re (v' := hV (Go.Au.climb i.toNat x p (k + 1))) (congrArg (fun q => hV q) (climb_odd (by omega) (len_h hp.1 k (by omega)))) ?_
            refine T_nil ?_
            refine TT_step rfl ?_
            refine T_loadFS 7 S520 rfl rfl rfl rfl rfl rfl rfl rfl rfl (hVs (Go.Au.climb_len _ hy _ _)) ?_
            refine T_nil ?_
            refine TT_step rfl ?_
            refine T_callS rfl rfl g_aumbry_aumbryref07_Node rfl rfl rfl rfl ((nodeR_ok S520.le hl517 (Go.Au.climb_len _ hy _ _)).mono ?_)
            rintro e w522 ⟨rfl, hB521⟩
            have S523 := S520.call hB521
            refine ⟨_, rfl, (((Hp.le.refl _)).trans S523.le), ?_⟩
            refine T_re (v' := hV (Go.Au.climb i.toNat y q (k + 1))) (congrArg (fun q => hV q) (climb_odd (by omega) (len_h hq.1 k (by omega)))) ?_
            refine T_nil ?_
            refine TT_step rfl ?_
            refine T_storeFS 8 S523 (fun _ h => ((Hp.le.refl _)).trans h) rfl rfl rfl rfl rfl rfl rfl rfl rfl (hVs (Go.Au.climb_len _ hx _ _)) ((hVs (Go.Au.climb_len _ hx _ _)).trans (hVs (Go.Au.climb_len _ hx _ _)).symm) (one_hA _) fun w524 S525 => ?_
            refine T_nil ?_
            refine TT_step rfl ?_
            refine T_storeFS 7 S525 (fun _ h => ((Hp.le.refl _)).trans h) rfl rfl rfl rfl rfl rfl rfl rfl rfl (hVs (Go.Au.climb_len _ hy _ _)) ((hVs (Go.Au.climb_len _ hy _ _)).trans (hVs (Go.Au.climb_len _ hy _ _)).symm) (one_hA _) fun w526 S527 => ?_
            refine T_nil ?_
            refine TT_done ?_
            refine W_region ?_
            refine T_pev rfl rfl rfl rfl ?_
            refine T_quo rfl rfl rfl rfl rfl rfl (by omega) ?_
            refine T_re (v' := .int .i64 ((i.toNat / 2 ^ (k + 1) : Nat) : Int)) (congrArg (Value.int .i64) (half_int _ _)) ?_
            refine T_pev rfl rfl rfl rfl ?_
            refine T_nil ?_
            refine W_region ?_
            refine T_ari rfl rfl rfl rfl (by omega) ?_
            refine T_pev rfl rfl rfl rfl ?_
            refine T_nil ?_
            have S528 := S527.drop 1
            have S529 := S528.drop 0
            exact ⟨p.length - (k + 1), [(1, .int .i64 ((i.toNat / 2 ^ (k + 1) : Nat) : Int)), (4, .slice aa4 p.length cc4), (5, .slice aa5 q.length cc5), (8, .pointer (some ⟨b1, 0, none⟩)), (9, .pointer (some ⟨b4, 0, none⟩)), (12, .pointer (some ⟨b7, 0, none⟩)), (18, .slice a477 (k + 1) c478), (19, .slice a501 (k + 1) c502), (62, .int .i64 ((p.length : Nat) : Int)), (63, .int .i64 ((k + 1 : Nat) : Int))], by omega, ⟨(congrArg (fun z => some (Value.int .i64 z)) (by omega)), rfl, rfl, rfl, rfl, rfl, rfl, rfl, (congrArg (fun z => some (Value.int .i64 z)) (by omega)), (congrArg (fun z => some (Value.int .i64 z)) (by omega)), trivial⟩, k + 1, a477, c478, _, a501, c502, _, G495, rfl, (by omega), rfl, (hl47.trans (hl406.trans hl496)), S529, (rs482.mono hl496), hc480, rs506, hc504⟩
          refine T_loadFS 7 S507 rfl rfl rfl rfl rfl rfl rfl rfl rfl (hVs (Go.Au.climb_len _ hy _ _)) ?_
          refine T_nil ?_
          refine TT_step rfl ?_
          refine T_callS rfl rfl g_aumbry_aumbryref07_Node rfl rfl rfl rfl ((nodeR_ok S507.le hl512 (Go.Au.climb_len _ hx _ _)).mono ?_)
          rintro e w531 ⟨rfl, hB530⟩
          have S532 := S507.call hB530
          refine ⟨_, rfl, (((Hp.le.refl _)).trans S532.le), ?_⟩
          refine T_re (v' := hV (Go.Au.climb i.toNat x p (k + 1))) (congrArg (fun q => hV q) (climb_odd (by omega) (len_h hp.1 k (by omega)))) ?_
          refine T_nil ?_
          refine TT_step rfl ?_
          refine T_callS rfl rfl g_aumbry_aumbryref07_Node rfl rfl rfl rfl ((nodeR_ok S532.le hl517 (Go.Au.climb_len _ hy _ _)).mono ?_)
          rintro e w534 ⟨rfl, hB533⟩
          have S535 := S532.call hB533
          refine ⟨_, rfl, (((Hp.le.refl _)).trans S535.le), ?_⟩
          refine T_re (v' := hV (Go.Au.climb i.toNat y q (k + 1))) (congrArg (fun q => hV q) (climb_odd (by omega) (len_h hq.1 k (by omega)))) ?_
          refine T_nil ?_
          refine TT_step rfl ?_
          refine T_storeFS 8 S535 (fun _ h => ((Hp.le.refl _)).trans h) rfl rfl rfl rfl rfl rfl rfl rfl rfl (hVs (Go.Au.climb_len _ hx _ _)) ((hVs (Go.Au.climb_len _ hx _ _)).trans (hVs (Go.Au.climb_len _ hx _ _)).symm) (one_hA _) fun w536 S537 => ?_
          refine T_nil ?_
          refine TT_step rfl ?_
          refine T_storeFS 7 S537 (fun _ h => ((Hp.le.refl _)).trans h) rfl rfl rfl rfl rfl rfl rfl rfl rfl (hVs (Go.Au.climb_len _ hy _ _)) ((hVs (Go.Au.climb_len _ hy _ _)).trans (hVs (Go.Au.climb_len _ hy _ _)).symm) (one_hA _) fun w538 S539 => ?_
          refine T_nil ?_
          refine TT_done ?_
          refine W_region ?_
          refine T_pev rfl rfl rfl rfl ?_
          refine T_quo rfl rfl rfl rfl rfl rfl (by omega) ?_
          refine T_re (v' := .int .i64 ((i.toNat / 2 ^ (k + 1) : Nat) : Int)) (congrArg (Value.int .i64) (half_int _ _)) ?_
          refine T_pev rfl rfl rfl rfl ?_
          refine T_nil ?_
          refine W_region ?_
          refine T_ari rfl rfl rfl rfl (by omega) ?_
          refine T_pev rfl rfl rfl rfl ?_
          refine T_nil ?_
          have S540 := S539.drop 1
          have S541 := S540.drop 0
          exact ⟨p.length - (k + 1), [(1, .int .i64 ((i.toNat / 2 ^ (k + 1) : Nat) : Int)), (4, .slice aa4 p.length cc4), (5, .slice aa5 q.length cc5), (8, .pointer (some ⟨b1, 0, none⟩)), (9, .pointer (some ⟨b4, 0, none⟩)), (12, .pointer (some ⟨b7, 0, none⟩)), (18, .slice a477 (k + 1) c478), (19, .slice a501 (k + 1) c502), (62, .int .i64 ((p.length : Nat) : Int)), (63, .int .i64 ((k + 1 : Nat) : Int))], by omega, ⟨(congrArg (fun z => some (Value.int .i64 z)) (by omega)), rfl, rfl, rfl, rfl, rfl, rfl, rfl, (congrArg (fun z => some (Value.int .i64 z)) (by omega)), (congrArg (fun z => some (Value.int .i64 z)) (by omega)), trivial⟩, k + 1, a477, c478, _, a501, c502, _, G495, rfl, (by omega), rfl, (hl47.trans (hl406.trans hl496)), S541, (rs482.mono hl496), hc480, rs506, hc504⟩
        refine T_loadFS 6 S399 rfl rfl rfl rfl rfl rfl rfl rfl rfl (hVs (Go.Au.climb_len _ hy _ _)) ?_
        refine T_nil ?_
        refine TT_step rfl ?_
        obtain ⟨G547, hl548, S546, r549⟩ := S399.stillRow 0 rfl
        have rs550 : Rds G547 [.slice a393 ((Go.Au.text [110, 111, 100, 101] [(p.getD k []), (Go.Au.climb i.toNat x p k)]).length) c394] [Go.Au.text [110, 111, 100, 101] [(p.getD k []), (Go.Au.climb i.toNat x p k)]] := Rds.cons (Rd.canonB r549) (Rds.nil _)
        refine T_litS [.slice a393 ((Go.Au.text [110, 111, 100, 101] [(p.getD k []), (Go.Au.climb i.toNat x p k)]).length) c394] rfl rfl rfl rfl rfl rfl rfl rfl rfl rfl rfl rfl rfl (by simp [Value.cells]; rfl) rfl fun a542 w543 hB544 ho545 => ?_
        have S551 := S546.own hB544 ho545
        refine ⟨((hl548).trans S551.le), ?_⟩
        refine T_nil ?_
        refine TT_step rfl ?_
        have hD552 : (Go.Au.wtexts i.toNat x p k ++ [Go.Au.text [110, 111, 100, 101] [(p.getD k []), (Go.Au.climb i.toNat x p k)]]) = Go.Au.wtexts i.toNat x p (k + 1) := (wts_odd (by omega) (len_h hp.1 k (by omega)))
        refine T_appendS 2 (k + 1) _ S551 (fun _ h => (hl548).trans h) rfl rfl rfl rfl rfl rfl rfl rfl rfl rfl rfl rfl rfl rfl (S551.rd 0 rfl) rs550.one (by first | rfl | (simp; done) | (simp; omega) | omega) rfl (by unfold maxLen; omega) (by show _ * 24 ≤ _; omega) fun a553 c554 w555 hc556 S557 => ?_
        have rs558 := Rds.append (rs52.mono hl548) rs550
        rw [hD552] at rs558
        refine T_nil ?_
        refine TT_step rfl ?_
        refine T_callS rfl rfl g_aumbry_aumbryref07_nodeText rfl rfl rfl rfl ((ntextR_ok S557.le hl392 (Go.Au.climb_len _ hy _ _)).mono ?_)
        rintro e w564 ⟨a559, c560, hc561, rfl, ho562, hB563⟩
        have S565 := S557.own hB563 ho562
        refine ⟨_, rfl, ((hl548).trans S565.le), ?_⟩
        refine T_nil ?_
        refine TT_step rfl ?_
        obtain ⟨G571, hl572, S570, r573⟩ := S565.stillRow 0 rfl
        have rs574 : Rds G571 [.slice a559 ((Go.Au.text [110, 111, 100, 101] [(q.getD k []), (Go.Au.climb i.toNat y q k)]).length) c560] [Go.Au.text [110, 111, 100, 101] [(q.getD k []), (Go.Au.climb i.toNat y q k)]] := Rds.cons (Rd.canonB r573) (Rds.nil _)
        refine T_litS [.slice a559 ((Go.Au.text [110, 111, 100, 101] [(q.getD k []), (Go.Au.climb i.toNat y q k)]).length) c560] rfl rfl rfl rfl rfl rfl rfl rfl rfl rfl rfl rfl rfl (by simp [Value.cells]; rfl) rfl fun a566 w567 hB568 ho569 => ?_
        have S575 := S570.own hB568 ho569
        refine ⟨(((hl548.trans hl572)).trans S575.le), ?_⟩
        refine T_nil ?_
        refine TT_step rfl ?_
        have hD576 : (Go.Au.wtexts i.toNat y q k ++ [Go.Au.text [110, 111, 100, 101] [(q.getD k []), (Go.Au.climb i.toNat y q k)]]) = Go.Au.wtexts i.toNat y q (k + 1) := (wts_odd (by omega) (len_h hq.1 k (by omega)))
        refine T_appendS 2 (k + 1) _ S575 (fun _ h => ((hl548.trans hl572)).trans h) rfl rfl rfl rfl rfl rfl rfl rfl rfl rfl rfl rfl rfl rfl (S575.rd 0 rfl) rs574.one (by first | rfl | (simp; done) | (simp; omega) | omega) rfl (by unfold maxLen; omega) (by show _ * 24 ≤ _; omega) fun a577 c578 w579 hc580 S581 => ?_
        have rs582 := Rds.append (rs57.mono (hl548.trans hl572)) rs574
        rw [hD576] at rs582
        refine T_nil ?_
        refine TT_step rfl ?_
        refine T_pev rfl rfl rfl rfl ?_
        refine T_nil ?_
        refine TT_step rfl ?_
        refine T_pev rfl rfl rfl rfl ?_
        refine T_nil ?_
        refine TT_done ?_
        refine W_tree (planF Tryd.prog G571 [126]) (.step 0 (.step 1 (.step 2 (.step 3 (.step 4 (.step 6 (.step 7 (.step 8 (.step 9 (.fork 5 10 (.step 10 (.step 11 (.step 12 (.step 13 .done)))) (.step 5 (.step 11 (.step 12 (.step 13 .done)))))))))))))) rfl (by kernel_rfl) S581.le ?_
        have S583 := S581.drew
        refine TT_step rfl ?_
        refine T_pev rfl rfl rfl rfl ?_
        refine T_nil ?_
        refine TT_step rfl ?_
        refine T_pev rfl rfl rfl rfl ?_
        refine T_nil ?_
        refine TT_step rfl ?_
        refine T_idxR k (hp.mono (hl47.trans (hl548.trans hl572))).2 rfl rfl rfl rfl rfl rfl rfl rfl rfl (by omega) (by omega) fun b584 o585 hc586 => ?_
        have hc587 := cells_h (hp.mono (hl47.trans (hl548.trans hl572))).1 k (by omega) hc586
        have hl588 := len_h (hp.mono (hl47.trans (hl548.trans hl572))).1 k (by omega)
        refine T_nil ?_
        refine TT_step rfl ?_
        refine T_loadGA _ S583 hc587 rfl rfl rfl rfl rfl rfl rfl rfl (hVs hl588) ?_
        refine T_nil ?_
        refine TT_step rfl ?_
        refine T_loadFS 8 S583 rfl rfl rfl rfl rfl rfl rfl rfl rfl (hVs (Go.Au.climb_len _ hx _ _)) ?_
        refine T_nil ?_
        refine TT_step rfl ?_
        refine T_pev rfl rfl rfl rfl ?_
        refine T_nil ?_
        refine TT_step rfl ?_
        refine T_pev rfl rfl rfl rfl ?_
        refine T_nil ?_
        refine TT_step rfl ?_
        refine T_idxR k (hq.mono (hl47.trans (hl548.trans hl572))).2 rfl rfl rfl rfl rfl rfl rfl rfl rfl (by omega) (by omega) fun b589 o590 hc591 => ?_
        have hc592 := cells_h (hq.mono (hl47.trans (hl548.trans hl572))).1 k (by omega) hc591
        have hl593 := len_h (hq.mono (hl47.trans (hl548.trans hl572))).1 k (by omega)
        refine T_nil ?_
        refine TT_step rfl ?_
        refine T_loadGAP _ (fun _ h => h) hc592 rfl rfl rfl rfl rfl rfl rfl rfl (hVs hl593) ?_
        refine T_nil ?_
        refine TT_fork rfl rfl ?_ ?_
        · refine T_callS rfl rfl g_aumbry_aumbryref07_Node rfl rfl rfl rfl ((nodeR_ok S583.le hl588 (Go.Au.climb_len _ hx _ _)).mono ?_)
          rintro e w595 ⟨rfl, hB594⟩
          have S596 := S583.call hB594
          refine ⟨_, rfl, (((Hp.le.refl _)).trans S596.le), ?_⟩
          refine T_re (v' := hV (Go.Au.climb i.toNat x p (k + 1))) (congrArg (fun q => hV q) (climb_odd (by omega) (len_h hp.1 k (by omega)))) ?_
          refine T_nil ?_
          refine TT_step rfl ?_
          refine T_loadFS 7 S596 rfl rfl rfl rfl rfl rfl rfl rfl rfl (hVs (Go.Au.climb_len _ hy _ _)) ?_
          refine T_nil ?_
          refine TT_step rfl ?_
          refine T_callS rfl rfl g_aumbry_aumbryref07_Node rfl rfl rfl rfl ((nodeR_ok S596.le hl593 (Go.Au.climb_len _ hy _ _)).mono ?_)
          rintro e w598 ⟨rfl, hB597⟩
          have S599 := S596.call hB597
          refine ⟨_, rfl, (((Hp.le.refl _)).trans S599.le), ?_⟩
          refine T_re (v' := hV (Go.Au.climb i.toNat y q (k + 1))) (congrArg (fun q => hV q) (climb_odd (by omega) (len_h hq.1 k (by omega)))) ?_
          refine T_nil ?_
          refine TT_step rfl ?_
          refine T_storeFS 8 S599 (fun _ h => ((Hp.le.refl _)).trans h) rfl rfl rfl rfl rfl rfl rfl rfl rfl (hVs (Go.Au.climb_len _ hx _ _)) ((hVs (Go.Au.climb_len _ hx _ _)).trans (hVs (Go.Au.climb_len _ hx _ _)).symm) (one_hA _) fun w600 S601 => ?_
          refine T_nil ?_
          refine TT_step rfl ?_
          refine T_storeFS 7 S601 (fun _ h => ((Hp.le.refl _)).trans h) rfl rfl rfl rfl rfl rfl rfl rfl rfl (hVs (Go.Au.climb_len _ hy _ _)) ((hVs (Go.Au.climb_len _ hy _ _)).trans (hVs (Go.Au.climb_len _ hy _ _)).symm) (one_hA _) fun w602 S603 => ?_
          refine T_nil ?_
          refine TT_done ?_
          refine W_region ?_
          refine T_pev rfl rfl rfl rfl ?_
          refine T_quo rfl rfl rfl rfl rfl rfl (by omega) ?_
          refine T_re (v' := .int .i64 ((i.toNat / 2 ^ (k + 1) : Nat) : Int)) (congrArg (Value.int .i64) (half_int _ _)) ?_
          refine T_pev rfl rfl rfl rfl ?_
          refine T_nil ?_
          refine W_region ?_
          refine T_ari rfl rfl rfl rfl (by omega) ?_
          refine T_pev rfl rfl rfl rfl ?_
          refine T_nil ?_
          have S604 := S603.drop 1
          have S605 := S604.drop 0
          exact ⟨p.length - (k + 1), [(1, .int .i64 ((i.toNat / 2 ^ (k + 1) : Nat) : Int)), (4, .slice aa4 p.length cc4), (5, .slice aa5 q.length cc5), (8, .pointer (some ⟨b1, 0, none⟩)), (9, .pointer (some ⟨b4, 0, none⟩)), (12, .pointer (some ⟨b7, 0, none⟩)), (18, .slice a553 (k + 1) c554), (19, .slice a577 (k + 1) c578), (62, .int .i64 ((p.length : Nat) : Int)), (63, .int .i64 ((k + 1 : Nat) : Int))], by omega, ⟨(congrArg (fun z => some (Value.int .i64 z)) (by omega)), rfl, rfl, rfl, rfl, rfl, rfl, rfl, (congrArg (fun z => some (Value.int .i64 z)) (by omega)), (congrArg (fun z => some (Value.int .i64 z)) (by omega)), trivial⟩, k + 1, a553, c554, _, a577, c578, _, G571, rfl, (by omega), rfl, (hl47.trans (hl548.trans hl572)), S605, (rs558.mono hl572), hc556, rs582, hc580⟩
        refine T_loadFS 7 S583 rfl rfl rfl rfl rfl rfl rfl rfl rfl (hVs (Go.Au.climb_len _ hy _ _)) ?_
        refine T_nil ?_
        refine TT_step rfl ?_
        refine T_callS rfl rfl g_aumbry_aumbryref07_Node rfl rfl rfl rfl ((nodeR_ok S583.le hl588 (Go.Au.climb_len _ hx _ _)).mono ?_)
        rintro e w607 ⟨rfl, hB606⟩
        have S608 := S583.call hB606
        refine ⟨_, rfl, (((Hp.le.refl _)).trans S608.le), ?_⟩
        refine T_re (v' := hV (Go.Au.climb i.toNat x p (k + 1))) (congrArg (fun q => hV q) (climb_odd (by omega) (len_h hp.1 k (by omega)))) ?_
        refine T_nil ?_
        refine TT_step rfl ?_
        refine T_callS rfl rfl g_aumbry_aumbryref07_Node rfl rfl rfl rfl ((nodeR_ok S608.le hl593 (Go.Au.climb_len _ hy _ _)).mono ?_)
        rintro e w610 ⟨rfl, hB609⟩
        have S611 := S608.call hB609
        refine ⟨_, rfl, (((Hp.le.refl _)).trans S611.le), ?_⟩
        refine T_re (v' := hV (Go.Au.climb i.toNat y q (k + 1))) (congrArg (fun q => hV q) (climb_odd (by omega) (len_h hq.1 k (by omega)))) ?_
        refine T_nil ?_
        refine TT_step rfl ?_
        refine T_storeFS 8 S611 (fun _ h => ((Hp.le.refl _)).trans h) rfl rfl rfl rfl rfl rfl rfl rfl rfl (hVs (Go.Au.climb_len _ hx _ _)) ((hVs (Go.Au.climb_len _ hx _ _)).trans (hVs (Go.Au.climb_len _ hx _ _)).symm) (one_hA _) fun w612 S613 => ?_
        refine T_nil ?_
        refine TT_step rfl ?_
        refine T_storeFS 7 S613 (fun _ h => ((Hp.le.refl _)).trans h) rfl rfl rfl rfl rfl rfl rfl rfl rfl (hVs (Go.Au.climb_len _ hy _ _)) ((hVs (Go.Au.climb_len _ hy _ _)).trans (hVs (Go.Au.climb_len _ hy _ _)).symm) (one_hA _) fun w614 S615 => ?_
        refine T_nil ?_
        refine TT_done ?_
        refine W_region ?_
        refine T_pev rfl rfl rfl rfl ?_
        refine T_quo rfl rfl rfl rfl rfl rfl (by omega) ?_
        refine T_re (v' := .int .i64 ((i.toNat / 2 ^ (k + 1) : Nat) : Int)) (congrArg (Value.int .i64) (half_int _ _)) ?_
        refine T_pev rfl rfl rfl rfl ?_
        refine T_nil ?_
        refine W_region ?_
        refine T_ari rfl rfl rfl rfl (by omega) ?_
        refine T_pev rfl rfl rfl rfl ?_
        refine T_nil ?_
        have S616 := S615.drop 1
        have S617 := S616.drop 0
        exact ⟨p.length - (k + 1), [(1, .int .i64 ((i.toNat / 2 ^ (k + 1) : Nat) : Int)), (4, .slice aa4 p.length cc4), (5, .slice aa5 q.length cc5), (8, .pointer (some ⟨b1, 0, none⟩)), (9, .pointer (some ⟨b4, 0, none⟩)), (12, .pointer (some ⟨b7, 0, none⟩)), (18, .slice a553 (k + 1) c554), (19, .slice a577 (k + 1) c578), (62, .int .i64 ((p.length : Nat) : Int)), (63, .int .i64 ((k + 1 : Nat) : Int))], by omega, ⟨(congrArg (fun z => some (Value.int .i64 z)) (by omega)), rfl, rfl, rfl, rfl, rfl, rfl, rfl, (congrArg (fun z => some (Value.int .i64 z)) (by omega)), (congrArg (fun z => some (Value.int .i64 z)) (by omega)), trivial⟩, k + 1, a553, c554, _, a577, c578, _, G571, rfl, (by omega), rfl, (hl47.trans (hl548.trans hl572)), S617, (rs558.mono hl572), hc556, rs582, hc580⟩
      refine T_loadFS 5 S382 rfl rfl rfl rfl rfl rfl rfl rfl rfl (hVs (Go.Au.climb_len _ hy _ _)) ?_
      refine T_nil ?_
      refine TT_step rfl ?_
      refine T_callS rfl rfl g_aumbry_aumbryref07_nodeText rfl rfl rfl rfl ((ntextR_ok S382.le hl387 (Go.Au.climb_len _ hx _ _)).mono ?_)
      rintro e w623 ⟨a618, c619, hc620, rfl, ho621, hB622⟩
      have S624 := S382.own hB622 ho621
      refine ⟨_, rfl, (((Hp.le.refl _)).trans S624.le), ?_⟩
      refine T_nil ?_
      refine TT_step rfl ?_
      obtain ⟨G630, hl631, S629, r632⟩ := S624.stillRow 0 rfl
      have rs633 : Rds G630 [.slice a618 ((Go.Au.text [110, 111, 100, 101] [(p.getD k []), (Go.Au.climb i.toNat x p k)]).length) c619] [Go.Au.text [110, 111, 100, 101] [(p.getD k []), (Go.Au.climb i.toNat x p k)]] := Rds.cons (Rd.canonB r632) (Rds.nil _)
      refine T_litS [.slice a618 ((Go.Au.text [110, 111, 100, 101] [(p.getD k []), (Go.Au.climb i.toNat x p k)]).length) c619] rfl rfl rfl rfl rfl rfl rfl rfl rfl rfl rfl rfl rfl (by simp [Value.cells]; rfl) rfl fun a625 w626 hB627 ho628 => ?_
      have S634 := S629.own hB627 ho628
      refine ⟨((hl631).trans S634.le), ?_⟩
      refine T_nil ?_
      refine TT_step rfl ?_
      have hD635 : (Go.Au.wtexts i.toNat x p k ++ [Go.Au.text [110, 111, 100, 101] [(p.getD k []), (Go.Au.climb i.toNat x p k)]]) = Go.Au.wtexts i.toNat x p (k + 1) := (wts_odd (by omega) (len_h hp.1 k (by omega)))
      refine T_appendS 2 (k + 1) _ S634 (fun _ h => (hl631).trans h) rfl rfl rfl rfl rfl rfl rfl rfl rfl rfl rfl rfl rfl rfl (S634.rd 0 rfl) rs633.one (by first | rfl | (simp; done) | (simp; omega) | omega) rfl (by unfold maxLen; omega) (by show _ * 24 ≤ _; omega) fun a636 c637 w638 hc639 S640 => ?_
      have rs641 := Rds.append (rs52.mono hl631) rs633
      rw [hD635] at rs641
      refine T_nil ?_
      refine TT_step rfl ?_
      refine T_callS rfl rfl g_aumbry_aumbryref07_nodeText rfl rfl rfl rfl ((ntextR_ok S640.le hl392 (Go.Au.climb_len _ hy _ _)).mono ?_)
      rintro e w647 ⟨a642, c643, hc644, rfl, ho645, hB646⟩
      have S648 := S640.own hB646 ho645
      refine ⟨_, rfl, ((hl631).trans S648.le), ?_⟩
      refine T_nil ?_
      refine TT_step rfl ?_
      obtain ⟨G654, hl655, S653, r656⟩ := S648.stillRow 0 rfl
      have rs657 : Rds G654 [.slice a642 ((Go.Au.text [110, 111, 100, 101] [(q.getD k []), (Go.Au.climb i.toNat y q k)]).length) c643] [Go.Au.text [110, 111, 100, 101] [(q.getD k []), (Go.Au.climb i.toNat y q k)]] := Rds.cons (Rd.canonB r656) (Rds.nil _)
      refine T_litS [.slice a642 ((Go.Au.text [110, 111, 100, 101] [(q.getD k []), (Go.Au.climb i.toNat y q k)]).length) c643] rfl rfl rfl rfl rfl rfl rfl rfl rfl rfl rfl rfl rfl (by simp [Value.cells]; rfl) rfl fun a649 w650 hB651 ho652 => ?_
      have S658 := S653.own hB651 ho652
      refine ⟨(((hl631.trans hl655)).trans S658.le), ?_⟩
      refine T_nil ?_
      refine TT_step rfl ?_
      have hD659 : (Go.Au.wtexts i.toNat y q k ++ [Go.Au.text [110, 111, 100, 101] [(q.getD k []), (Go.Au.climb i.toNat y q k)]]) = Go.Au.wtexts i.toNat y q (k + 1) := (wts_odd (by omega) (len_h hq.1 k (by omega)))
      refine T_appendS 2 (k + 1) _ S658 (fun _ h => ((hl631.trans hl655)).trans h) rfl rfl rfl rfl rfl rfl rfl rfl rfl rfl rfl rfl rfl rfl (S658.rd 0 rfl) rs657.one (by first | rfl | (simp; done) | (simp; omega) | omega) rfl (by unfold maxLen; omega) (by show _ * 24 ≤ _; omega) fun a660 c661 w662 hc663 S664 => ?_
      have rs665 := Rds.append (rs57.mono (hl631.trans hl655)) rs657
      rw [hD659] at rs665
      refine T_nil ?_
      refine TT_step rfl ?_
      refine T_pev rfl rfl rfl rfl ?_
      refine T_nil ?_
      refine TT_step rfl ?_
      refine T_pev rfl rfl rfl rfl ?_
      refine T_nil ?_
      refine TT_done ?_
      refine W_tree (planF Tryd.prog G654 [126]) (.step 0 (.step 1 (.step 2 (.step 3 (.step 4 (.step 6 (.step 7 (.step 8 (.step 9 (.fork 5 10 (.step 10 (.step 11 (.step 12 (.step 13 .done)))) (.step 5 (.step 11 (.step 12 (.step 13 .done)))))))))))))) rfl (by kernel_rfl) S664.le ?_
      have S666 := S664.drew
      refine TT_step rfl ?_
      refine T_pev rfl rfl rfl rfl ?_
      refine T_nil ?_
      refine TT_step rfl ?_
      refine T_pev rfl rfl rfl rfl ?_
      refine T_nil ?_
      refine TT_step rfl ?_
      refine T_idxR k (hp.mono (hl47.trans (hl631.trans hl655))).2 rfl rfl rfl rfl rfl rfl rfl rfl rfl (by omega) (by omega) fun b667 o668 hc669 => ?_
      have hc670 := cells_h (hp.mono (hl47.trans (hl631.trans hl655))).1 k (by omega) hc669
      have hl671 := len_h (hp.mono (hl47.trans (hl631.trans hl655))).1 k (by omega)
      refine T_nil ?_
      refine TT_step rfl ?_
      refine T_loadGA _ S666 hc670 rfl rfl rfl rfl rfl rfl rfl rfl (hVs hl671) ?_
      refine T_nil ?_
      refine TT_step rfl ?_
      refine T_loadFS 8 S666 rfl rfl rfl rfl rfl rfl rfl rfl rfl (hVs (Go.Au.climb_len _ hx _ _)) ?_
      refine T_nil ?_
      refine TT_step rfl ?_
      refine T_pev rfl rfl rfl rfl ?_
      refine T_nil ?_
      refine TT_step rfl ?_
      refine T_pev rfl rfl rfl rfl ?_
      refine T_nil ?_
      refine TT_step rfl ?_
      refine T_idxR k (hq.mono (hl47.trans (hl631.trans hl655))).2 rfl rfl rfl rfl rfl rfl rfl rfl rfl (by omega) (by omega) fun b672 o673 hc674 => ?_
      have hc675 := cells_h (hq.mono (hl47.trans (hl631.trans hl655))).1 k (by omega) hc674
      have hl676 := len_h (hq.mono (hl47.trans (hl631.trans hl655))).1 k (by omega)
      refine T_nil ?_
      refine TT_step rfl ?_
      refine T_loadGAP _ (fun _ h => h) hc675 rfl rfl rfl rfl rfl rfl rfl rfl (hVs hl676) ?_
      refine T_nil ?_
      refine TT_fork rfl rfl ?_ ?_
      · refine T_callS rfl rfl g_aumbry_aumbryref07_Node rfl rfl rfl rfl ((nodeR_ok S666.le hl671 (Go.Au.climb_len _ hx _ _)).mono ?_)
        rintro e w678 ⟨rfl, hB677⟩
        have S679 := S666.call hB677
        refine ⟨_, rfl, (((Hp.le.refl _)).trans S679.le), ?_⟩
        refine T_re (v' := hV (Go.Au.climb i.toNat x p (k + 1))) (congrArg (fun q => hV q) (climb_odd (by omega) (len_h hp.1 k (by omega)))) ?_
        refine T_nil ?_
        refine TT_step rfl ?_
        refine T_loadFS 7 S679 rfl rfl rfl rfl rfl rfl rfl rfl rfl (hVs (Go.Au.climb_len _ hy _ _)) ?_
        refine T_nil ?_
        refine TT_step rfl ?_
        refine T_callS rfl rfl g_aumbry_aumbryref07_Node rfl rfl rfl rfl ((nodeR_ok S679.le hl676 (Go.Au.climb_len _ hy _ _)).mono ?_)
        rintro e w681 ⟨rfl, hB680⟩
        have S682 := S679.call hB680
        refine ⟨_, rfl, (((Hp.le.refl _)).trans S682.le), ?_⟩
        refine T_re (v' := hV (Go.Au.climb i.toNat y q (k + 1))) (congrArg (fun q => hV q) (climb_odd (by omega) (len_h hq.1 k (by omega)))) ?_
        refine T_nil ?_
        refine TT_step rfl ?_
        refine T_storeFS 8 S682 (fun _ h => ((Hp.le.refl _)).trans h) rfl rfl rfl rfl rfl rfl rfl rfl rfl (hVs (Go.Au.climb_len _ hx _ _)) ((hVs (Go.Au.climb_len _ hx _ _)).trans (hVs (Go.Au.climb_len _ hx _ _)).symm) (one_hA _) fun w683 S684 => ?_
        refine T_nil ?_
        refine TT_step rfl ?_
        refine T_storeFS 7 S684 (fun _ h => ((Hp.le.refl _)).trans h) rfl rfl rfl rfl rfl rfl rfl rfl rfl (hVs (Go.Au.climb_len _ hy _ _)) ((hVs (Go.Au.climb_len _ hy _ _)).trans (hVs (Go.Au.climb_len _ hy _ _)).symm) (one_hA _) fun w685 S686 => ?_
        refine T_nil ?_
        refine TT_done ?_
        refine W_region ?_
        refine T_pev rfl rfl rfl rfl ?_
        refine T_quo rfl rfl rfl rfl rfl rfl (by omega) ?_
        refine T_re (v' := .int .i64 ((i.toNat / 2 ^ (k + 1) : Nat) : Int)) (congrArg (Value.int .i64) (half_int _ _)) ?_
        refine T_pev rfl rfl rfl rfl ?_
        refine T_nil ?_
        refine W_region ?_
        refine T_ari rfl rfl rfl rfl (by omega) ?_
        refine T_pev rfl rfl rfl rfl ?_
        refine T_nil ?_
        have S687 := S686.drop 1
        have S688 := S687.drop 0
        exact ⟨p.length - (k + 1), [(1, .int .i64 ((i.toNat / 2 ^ (k + 1) : Nat) : Int)), (4, .slice aa4 p.length cc4), (5, .slice aa5 q.length cc5), (8, .pointer (some ⟨b1, 0, none⟩)), (9, .pointer (some ⟨b4, 0, none⟩)), (12, .pointer (some ⟨b7, 0, none⟩)), (18, .slice a636 (k + 1) c637), (19, .slice a660 (k + 1) c661), (62, .int .i64 ((p.length : Nat) : Int)), (63, .int .i64 ((k + 1 : Nat) : Int))], by omega, ⟨(congrArg (fun z => some (Value.int .i64 z)) (by omega)), rfl, rfl, rfl, rfl, rfl, rfl, rfl, (congrArg (fun z => some (Value.int .i64 z)) (by omega)), (congrArg (fun z => some (Value.int .i64 z)) (by omega)), trivial⟩, k + 1, a636, c637, _, a660, c661, _, G654, rfl, (by omega), rfl, (hl47.trans (hl631.trans hl655)), S688, (rs641.mono hl655), hc639, rs665, hc663⟩
      refine T_loadFS 7 S666 rfl rfl rfl rfl rfl rfl rfl rfl rfl (hVs (Go.Au.climb_len _ hy _ _)) ?_
      refine T_nil ?_
      refine TT_step rfl ?_
      refine T_callS rfl rfl g_aumbry_aumbryref07_Node rfl rfl rfl rfl ((nodeR_ok S666.le hl671 (Go.Au.climb_len _ hx _ _)).mono ?_)
      rintro e w690 ⟨rfl, hB689⟩
      have S691 := S666.call hB689
      refine ⟨_, rfl, (((Hp.le.refl _)).trans S691.le), ?_⟩
      refine T_re (v' := hV (Go.Au.climb i.toNat x p (k + 1))) (congrArg (fun q => hV q) (climb_odd (by omega) (len_h hp.1 k (by omega)))) ?_
      refine T_nil ?_
      refine TT_step rfl ?_
      refine T_callS rfl rfl g_aumbry_aumbryref07_Node rfl rfl rfl rfl ((nodeR_ok S691.le hl676 (Go.Au.climb_len _ hy _ _)).mono ?_)
      rintro e w693 ⟨rfl, hB692⟩
      have S694 := S691.call hB692
      refine ⟨_, rfl, (((Hp.le.refl _)).trans S694.le), ?_⟩
      refine T_re (v' := hV (Go.Au.climb i.toNat y q (k + 1))) (congrArg (fun q => hV q) (climb_odd (by omega) (len_h hq.1 k (by omega)))) ?_
      refine T_nil ?_
      refine TT_step rfl ?_
      refine T_storeFS 8 S694 (fun _ h => ((Hp.le.refl _)).trans h) rfl rfl rfl rfl rfl rfl rfl rfl rfl (hVs (Go.Au.climb_len _ hx _ _)) ((hVs (Go.Au.climb_len _ hx _ _)).trans (hVs (Go.Au.climb_len _ hx _ _)).symm) (one_hA _) fun w695 S696 => ?_
      refine T_nil ?_
      refine TT_step rfl ?_
      refine T_storeFS 7 S696 (fun _ h => ((Hp.le.refl _)).trans h) rfl rfl rfl rfl rfl rfl rfl rfl rfl (hVs (Go.Au.climb_len _ hy _ _)) ((hVs (Go.Au.climb_len _ hy _ _)).trans (hVs (Go.Au.climb_len _ hy _ _)).symm) (one_hA _) fun w697 S698 => ?_
      refine T_nil ?_
      refine TT_done ?_
      refine W_region ?_
      refine T_pev rfl rfl rfl rfl ?_
      refine T_quo rfl rfl rfl rfl rfl rfl (by omega) ?_
      refine T_re (v' := .int .i64 ((i.toNat / 2 ^ (k + 1) : Nat) : Int)) (congrArg (Value.int .i64) (half_int _ _)) ?_
      refine T_pev rfl rfl rfl rfl ?_
      refine T_nil ?_
      refine W_region ?_
      refine T_ari rfl rfl rfl rfl (by omega) ?_
      refine T_pev rfl rfl rfl rfl ?_
      refine T_nil ?_
      have S699 := S698.drop 1
      have S700 := S699.drop 0
      exact ⟨p.length - (k + 1), [(1, .int .i64 ((i.toNat / 2 ^ (k + 1) : Nat) : Int)), (4, .slice aa4 p.length cc4), (5, .slice aa5 q.length cc5), (8, .pointer (some ⟨b1, 0, none⟩)), (9, .pointer (some ⟨b4, 0, none⟩)), (12, .pointer (some ⟨b7, 0, none⟩)), (18, .slice a636 (k + 1) c637), (19, .slice a660 (k + 1) c661), (62, .int .i64 ((p.length : Nat) : Int)), (63, .int .i64 ((k + 1 : Nat) : Int))], by omega, ⟨(congrArg (fun z => some (Value.int .i64 z)) (by omega)), rfl, rfl, rfl, rfl, rfl, rfl, rfl, (congrArg (fun z => some (Value.int .i64 z)) (by omega)), (congrArg (fun z => some (Value.int .i64 z)) (by omega)), trivial⟩, k + 1, a636, c637, _, a660, c661, _, G654, rfl, (by omega), rfl, (hl47.trans (hl631.trans hl655)), S700, (rs641.mono hl655), hc639, rs665, hc663⟩
    refine W_exit ?_
    refine W_seq ?_
    refine W_seq ?_
    refine W_region ?_
    obtain rfl : k = p.length := by omega
    refine T_pev rfl rfl rfl rfl ?_
    refine T_pev rfl rfl rfl rfl ?_
    refine T_ari rfl rfl rfl rfl (by omega) ?_
    refine T_pev rfl rfl rfl rfl ?_
    refine T_nil ?_
    refine W_block ?_
    obtain ⟨G702, hl703, S701, r704⟩ := S59.stillRow 1 rfl
    have r705 := RdL.mk r704 (rs52.mono hl703)
    obtain ⟨G707, hl708, S706, r709⟩ := S701.stillRow 0 rfl
    have r710 := RdL.mk r709 (rs57.mono (hl703.trans hl708))
    refine W_loop (fun M ρ w' => ∃ (k : Nat) (G711 : Hp), M = 1 + k ∧ k ≤ p.length ∧ Go.Au.lastNe (Go.Au.waysH n i x p) (Go.Au.waysH n i y q) p.length = Go.Au.lastNe (Go.Au.waysH n i x p) (Go.Au.waysH n i y q) k ∧ ρ = [(12, .pointer (some ⟨b7, 0, none⟩)), (18, .slice a48 p.length c49), (19, .slice a53 p.length c54), (21, .int .i64 (((k : Nat) : Int) - 1))] ∧ G707.le G711 ∧ St w H G711 [.blk b21 (hV (Go.Au.climbH n i y q) : Value).cells 27, .blk b13 (hV (Go.Au.climbH n i x p) : Value).cells 27, .blk b7 (.agg #[.slice none 0 0, .slice none 0 0] : Value).cells 45, .blk b4 (hV (Go.Au.climb i.toNat y q p.length) : Value).cells 27, .blk b1 (hV (Go.Au.climb i.toNat x p p.length) : Value).cells 27] w')
      (1 + p.length) [(12, .pointer (some ⟨b7, 0, none⟩)), (18, .slice a48 p.length c49), (19, .slice a53 p.length c54), (21, .int .i64 (((p.length : Nat) : Int) - 1))] ⟨rfl, rfl, rfl, (congrArg (fun z => some (Value.int .i64 z)) (by omega)), trivial⟩ ⟨p.length, G707, rfl, (by omega), (by rfl), rfl, Hp.le.refl _, S706⟩ ?_
    rintro M ρ w713 ⟨k, G711, rfl, hp715, hinv, rfl, hl712, S714⟩
    refine W_seq ?_
    refine W_seq ?_
    refine W_region ?_
    refine T_pev rfl rfl rfl rfl ?_
    refine T_pev rfl rfl rfl rfl ?_
    refine T_nil ?_
    refine W_cond_dec rfl (fun h717 => ?_) (fun h717 => ?_)
    · refine W_skip ?_
      refine W_seq ?_
      refine W_block ?_
      refine W_seq ?_
      refine W_plan (planF Tryd.prog G711 [142, 146]) rfl (by kernel_rfl) S714.le ?_
      have S718 := S714.drew
      obtain ⟨j, rfl⟩ : ∃ j, k = j + 1 := ⟨k - 1, by omega⟩
      have hj1 : j < p.length := by omega
      have hwx := Go.Au.wtexts_len i.toNat x p p.length
      have hwy := Go.Au.wtexts_len i.toNat y q p.length
      refine T_pev rfl rfl rfl rfl ?_
      refine T_pev rfl rfl rfl rfl ?_
      obtain ⟨hs722, r723, r724⟩ := (r705.mono (hl708.trans hl712))
      refine T_idxR j r723 rfl rfl rfl rfl rfl rfl rfl rfl rfl (by omega) (by omega) fun b719 o720 hc721 => ?_
      obtain ⟨a727, c728, hc730, hv726, r729⟩ := r724.at j (by omega)
      have hc731 := hc721 0 (.slice a727 ((Go.Au.wtexts i.toNat x p p.length).getD j []).length c728) (by simpa using hv726)
      simp only [Nat.add_zero] at hc731
      refine T_loadGP (fun _ h => h) hc731 rfl rfl rfl rfl rfl rfl rfl ?_
      refine T_pev rfl rfl rfl rfl ?_
      refine T_pev rfl rfl rfl rfl ?_
      obtain ⟨hs735, r736, r737⟩ := (r710.mono hl712)
      refine T_idxR j r736 rfl rfl rfl rfl rfl rfl rfl rfl rfl (by omega) (by omega) fun b732 o733 hc734 => ?_
      obtain ⟨a740, c741, hc743, hv739, r742⟩ := r737.at j (by omega)
      have hc744 := hc734 0 (.slice a740 ((Go.Au.wtexts i.toNat y q p.length).getD j []).length c741) (by simpa using hv739)
      simp only [Nat.add_zero] at hc744
      refine T_loadGP (fun _ h => h) hc744 rfl rfl rfl rfl rfl rfl rfl ?_
      refine T_buildS (cells := #[.slice a727 ((Go.Au.wtexts i.toNat x p p.length).getD j []).length c728, .slice a740 ((Go.Au.wtexts i.toNat y q p.length).getD j []).length c741]) rfl rfl rfl rfl rfl rfl rfl rfl rfl rfl ?_
      refine T_allocS S718 (fun _ h => ((Hp.le.refl _)).trans h) rfl rfl rfl rfl rfl rfl rfl fun b745 w746 S747 => ?_
      refine T_storeFS 0 S747 (fun _ h => ((Hp.le.refl _)).trans h) rfl rfl rfl rfl rfl rfl rfl rfl rfl (by first | rfl | simp [hVs, *]) (by first | rfl | simp [hVs, *]) (one_all rfl) fun w748 S749 => ?_
      refine T_nil ?_
      refine W_seq ?_
      refine W_region ?_
      refine T_loadFS 0 S749 rfl rfl rfl rfl rfl rfl rfl rfl rfl (by first | rfl | simp [hVs, *]) ?_
      refine T_callS rfl rfl g_aumbry_aumbryref01_Same rfl rfl rfl rfl ((isbrR_ok S749.le r729 r742 (textsj_bd hx hp.1 (by omega) hj1) (textsj_bd hy hq.1 (by omega) hj1)).mono ?_)
      rintro e w751 ⟨rfl, hB750⟩
      have S752 := S749.call hB750
      refine ⟨_, rfl, trivial, ?_⟩
      refine T_nil ?_
      refine W_cond rfl (fun h753 => ?_) (fun h753 => ?_)
      · refine W_seq ?_
        refine W_region ?_
        refine T_loadFS 0 S752 rfl rfl rfl rfl rfl rfl rfl rfl rfl (by first | rfl | simp [hVs, *]) ?_
        refine T_storeFS 3 S752 (fun _ _ => trivial) rfl rfl rfl rfl rfl rfl rfl rfl rfl (by first | rfl | simp [hVs, *]) (by first | rfl | simp [hVs, *]) (one_all rfl) fun w754 S755 => ?_
        refine T_pev rfl rfl rfl rfl ?_
        refine T_nil ?_
        refine W_ret ?_
        refine ⟨_, ⟨_, _, _, rfl, rfl, run_loadVarA rfl rfl (by first | rfl | simp [hVs, *]) (S755.cells 3 rfl), ⟨_, _, rfl, rfl, rfl⟩⟩, ?_⟩
        have hh : (!decide (((Go.Au.wtexts i.toNat x p p.length).getD j []) = ((Go.Au.wtexts i.toNat y q p.length).getD j [])) && decide (Go.Sha.sha ((Go.Au.wtexts i.toNat x p p.length).getD j []) = Go.Sha.sha ((Go.Au.wtexts i.toNat y q p.length).getD j []))) = true := h753
        have hst := brk_texts hok1 hok2 hj1 hh
        have hyes : (Go.Au.brk n i x y p q) = some (((Go.Au.wtexts i.toNat x p p.length).getD j []), ((Go.Au.wtexts i.toNat y q p.length).getD j [])) := (Go.Au.brk_eq (a := x) (b := y) hok1 hok2 hcl (hinv.trans (Go.Au.lastNe_at hst.1))).trans (by rw [hst.2.1, hst.2.2]; rfl)
        exact br_end hyes r729 r742 S755.fin S755.below
      refine W_skip ?_
      refine W_region ?_
      refine T_pev rfl rfl rfl rfl ?_
      refine T_ari rfl rfl rfl rfl (by omega) ?_
      refine T_pev rfl rfl rfl rfl ?_
      refine T_nil ?_
      have HEQ := hinv.trans (Go.Au.lastNe_eq (brk_stepT hx hy hp.1 hq.1 hok1 hok2 hcl hj1 hinv h753))
      have S756 := S752.drop 0
      exact ⟨1 + j, [(12, .pointer (some ⟨b7, 0, none⟩)), (18, .slice a48 p.length c49), (19, .slice a53 p.length c54), (21, .int .i64 (((j : Nat) : Int) - 1))], by omega, ⟨rfl, rfl, rfl, (congrArg (fun z => some (Value.int .i64 z)) (by omega)), trivial⟩, j, G711, rfl, (by omega), (by exact HEQ), rfl, hl712, S756⟩
    refine W_exit ?_
    refine W_seq ?_
    refine W_region ?_
    refine T_buildS (cells := #[.slice none 0 0, .slice none 0 0]) rfl rfl rfl rfl rfl rfl rfl rfl rfl rfl ?_
    refine T_storeFS 2 S714 (fun _ _ => trivial) rfl rfl rfl rfl rfl rfl rfl rfl rfl (by first | rfl | simp [hVs, *]) (by first | rfl | simp [hVs, *]) (one_all rfl) fun w757 S758 => ?_
    refine T_pev rfl rfl rfl rfl ?_
    refine T_nil ?_
    refine W_ret ?_
    refine ⟨_, ⟨_, _, _, rfl, rfl, run_loadVarA rfl rfl (by first | rfl | simp [hVs, *]) (S758.cells 2 rfl), ⟨_, _, rfl, rfl, rfl⟩⟩, ?_⟩
    obtain rfl : k = 0 := by omega
    have hno : (Go.Au.brk n i x y p q) = none := Go.Au.brk_eq hok1 hok2 hcl hinv
    rw [hno]
    exact ⟨none, 0, none, 0, rfl, nilB _, nilB _, S758.below⟩
  have h35 := of_decide_eq_false h35'
  refine T_no rfl rfl rfl rfl rfl rfl ?_
  refine T_no rfl rfl rfl rfl rfl rfl ?_
  refine T_no rfl rfl rfl rfl rfl rfl ?_
  refine T_yes rfl rfl rfl ?_ rfl
  refine T_pev rfl rfl rfl rfl ?_
  refine T_pev rfl rfl rfl rfl ?_
  refine T_nil ?_
  refine W_cond_false rfl ?_
  refine W_skip ?_
  refine W_seq ?_
  have hok1 : Go.Au.okW n i p.length = true := by simpa using h26
  have hok2 : Go.Au.okW n i q.length = true := by simpa using h29
  have hcl : Go.Au.climbH n i x p = Go.Au.climbH n i y q := by simpa using h32
  have hXl := Go.Au.waysH_len (x := x) hok1
  have hYl := Go.Au.waysH_len (x := y) hok2
  have hO1 := Go.Au.okW_of hok1
  have hO2 := Go.Au.okW_of hok2
  have hlg := Go.Au.lg_le (n := n.toNat) (m := 8) (by omega)
  refine W_region ?_
  refine T_pev rfl rfl rfl rfl ?_
  refine T_pev rfl rfl rfl rfl ?_
  refine T_nil ?_
  refine W_seq ?_
  refine W_seq ?_
  refine W_region ?_
  refine T_pev rfl rfl rfl rfl ?_
  refine T_pev rfl rfl rfl rfl ?_
  refine T_pev rfl rfl rfl rfl ?_
  refine T_nil ?_
  refine W_block ?_
  have S759 := S25.nilRow 22 1
  have rs760 := Rds.nil H
  have S761 := S759.nilRow 22 1
  have rs762 := Rds.nil H
  refine W_loop (fun M ρ w' => ∃ (k : Nat) (a765 : Option Addr) (c766 : Nat) (hs768 : List Value) (a770 : Option Addr) (c771 : Nat) (hs773 : List Value) (G763 : Hp), M = p.length - k ∧ k ≤ p.length ∧ ρ = [(1, .int .i64 ((i.toNat / 2 ^ k : Nat) : Int)), (4, .slice aa4 p.length cc4), (5, .slice aa5 q.length cc5), (8, .pointer (some ⟨b1, 0, none⟩)), (9, .pointer (some ⟨b4, 0, none⟩)), (12, .pointer (some ⟨b7, 0, none⟩)), (18, .slice a765 k c766), (19, .slice a770 k c771), (62, .int .i64 ((p.length : Nat) : Int)), (63, .int .i64 (k : Int))] ∧ H.le G763 ∧ St w H G763 [.row 22 1 (.slice a770 k c771) k hs773, .row 22 1 (.slice a765 k c766) k hs768, .blk b21 (hV (Go.Au.climbH n i y q) : Value).cells 27, .blk b13 (hV (Go.Au.climbH n i x p) : Value).cells 27, .blk b7 (.agg #[.slice none 0 0, .slice none 0 0] : Value).cells 45, .blk b4 (hV (Go.Au.climb i.toNat y q k) : Value).cells 27, .blk b1 (hV (Go.Au.climb i.toNat x p k) : Value).cells 27] w' ∧ Rds G763 hs768 (Go.Au.wtexts i.toNat x p k) ∧ k ≤ c766 ∧ Rds G763 hs773 (Go.Au.wtexts i.toNat y q k) ∧ k ≤ c771)
    (p.length - 0) [(1, .int .i64 ((i.toNat / 2 ^ 0 : Nat) : Int)), (4, .slice aa4 p.length cc4), (5, .slice aa5 q.length cc5), (8, .pointer (some ⟨b1, 0, none⟩)), (9, .pointer (some ⟨b4, 0, none⟩)), (12, .pointer (some ⟨b7, 0, none⟩)), (18, .slice none 0 0), (19, .slice none 0 0), (62, .int .i64 ((p.length : Nat) : Int)), (63, .int .i64 ((0 : Nat) : Int))] ⟨(congrArg (fun z => some (Value.int .i64 z)) (by omega)), rfl, rfl, rfl, rfl, rfl, rfl, rfl, (congrArg (fun z => some (Value.int .i64 z)) (by omega)), (congrArg (fun z => some (Value.int .i64 z)) (by omega)), trivial⟩ ⟨0, none, 0, _, none, 0, _, H, rfl, (by omega), rfl, Hp.le.refl _, S761, rs760, (Nat.le_refl _), rs762, (Nat.le_refl _)⟩ ?_
  rintro M ρ w775 ⟨k, a765, c766, hs768, a770, c771, hs773, G763, rfl, hp777, rfl, hl764, S776, rs769, hc767, rs774, hc772⟩
  refine W_seq ?_
  refine W_region ?_
  refine T_pev rfl rfl rfl rfl ?_
  refine T_nil ?_
  refine W_seq ?_
  refine W_cond_dec rfl (fun h778 => ?_) (fun h778 => ?_)
  · refine W_skip ?_
    refine W_seq ?_
    refine W_block ?_
    refine W_seq ?_
    refine W_region ?_
    refine T_pev rfl rfl rfl rfl ?_
    refine T_pev rfl rfl rfl rfl ?_
    refine T_nil ?_
    refine W_seq ?_
    refine W_seq ?_
    refine W_region ?_
    have hnn := Int.natCast_nonneg (i.toNat / 2 ^ k)
    have hdl := Nat.div_le_self i.toNat (2 ^ k)
    refine T_pev rfl rfl rfl rfl ?_
    refine T_rem rfl rfl rfl rfl rfl rfl (by omega) ?_
    refine T_pev rfl rfl rfl rfl ?_
    refine T_nil ?_
    refine W_cond_dec rfl (fun h779 => ?_) (fun h779 => ?_)
    · refine W_seq ?_
      refine W_tree (planF Tryd.prog G763 [83]) (.step 0 (.step 1 (.step 2 (.step 3 (.step 4 (.step 5 (.step 9 (.step 11 (.step 12 (.step 13 (.step 14 (.fork 6 10 (.fork 7 10 (.fork 8 10 (.step 10 (.step 15 (.step 16 (.step 17 (.step 18 (.step 19 .done)))))) (.step 8 (.step 15 (.step 16 (.step 17 (.step 18 (.step 19 .done))))))) (.step 7 (.step 8 (.step 15 (.step 16 (.step 17 (.step 18 (.step 19 .done)))))))) (.step 6 (.step 7 (.step 8 (.step 15 (.step 16 (.step 17 (.step 18 (.step 19 .done)))))))))))))))))))) rfl (by kernel_rfl) S776.le ?_
      have S780 := S776.drew
      refine TT_step rfl ?_
      have hnn := Int.natCast_nonneg (i.toNat / 2 ^ k)
      have hdl := Nat.div_le_self i.toNat (2 ^ k)
      refine T_pev rfl rfl rfl rfl ?_
      refine T_nil ?_
      refine TT_step rfl ?_
      refine T_loadFS 6 S780 rfl rfl rfl rfl rfl rfl rfl rfl rfl (hVs (Go.Au.climb_len _ hx _ _)) ?_
      refine T_nil ?_
      refine TT_step rfl ?_
      refine T_pev rfl rfl rfl rfl ?_
      refine T_nil ?_
      refine TT_step rfl ?_
      refine T_pev rfl rfl rfl rfl ?_
      refine T_nil ?_
      refine TT_step rfl ?_
      refine T_idxR k (hp.mono hl764).2 rfl rfl rfl rfl rfl rfl rfl rfl rfl (by omega) (by omega) fun b781 o782 hc783 => ?_
      have hc784 := cells_h (hp.mono hl764).1 k (by omega) hc783
      have hl785 := len_h (hp.mono hl764).1 k (by omega)
      refine T_nil ?_
      refine TT_step rfl ?_
      refine T_loadGA _ S780 hc784 rfl rfl rfl rfl rfl rfl rfl rfl (hVs hl785) ?_
      refine T_nil ?_
      refine TT_step rfl ?_
      refine T_pev rfl rfl rfl rfl ?_
      refine T_nil ?_
      refine TT_step rfl ?_
      refine T_pev rfl rfl rfl rfl ?_
      refine T_nil ?_
      refine TT_step rfl ?_
      refine T_pev rfl rfl rfl rfl ?_
      refine T_nil ?_
      refine TT_step rfl ?_
      refine T_idxR k (hq.mono hl764).2 rfl rfl rfl rfl rfl rfl rfl rfl rfl (by omega) (by omega) fun b786 o787 hc788 => ?_
      have hc789 := cells_h (hq.mono hl764).1 k (by omega) hc788
      have hl790 := len_h (hq.mono hl764).1 k (by omega)
      refine T_nil ?_
      refine TT_step rfl ?_
      refine T_loadGAP _ (fun _ h => h) hc789 rfl rfl rfl rfl rfl rfl rfl rfl (hVs hl790) ?_
      refine T_nil ?_
      refine TT_fork rfl rfl ?_ ?_
      · refine T_callS rfl rfl g_aumbry_aumbryref07_nodeText rfl rfl rfl rfl ((ntextR_ok S780.le (Go.Au.climb_len _ hx _ _) hl785).mono ?_)
        rintro e w796 ⟨a791, c792, hc793, rfl, ho794, hB795⟩
        have S797 := S780.own hB795 ho794
        refine ⟨_, rfl, (((Hp.le.refl _)).trans S797.le), ?_⟩
        refine T_nil ?_
        refine TT_fork rfl rfl ?_ ?_
        · obtain ⟨G803, hl804, S802, r805⟩ := S797.stillRow 0 rfl
          have rs806 : Rds G803 [.slice a791 ((Go.Au.text [110, 111, 100, 101] [(Go.Au.climb i.toNat x p k), (p.getD k [])]).length) c792] [Go.Au.text [110, 111, 100, 101] [(Go.Au.climb i.toNat x p k), (p.getD k [])]] := Rds.cons (Rd.canonB r805) (Rds.nil _)
          refine T_litS [.slice a791 ((Go.Au.text [110, 111, 100, 101] [(Go.Au.climb i.toNat x p k), (p.getD k [])]).length) c792] rfl rfl rfl rfl rfl rfl rfl rfl rfl rfl rfl rfl rfl (by simp [Value.cells]; rfl) rfl fun a798 w799 hB800 ho801 => ?_
          have S807 := S802.own hB800 ho801
          refine ⟨((hl804).trans S807.le), ?_⟩
          refine T_nil ?_
          refine TT_fork rfl rfl ?_ ?_
          · have hD808 : (Go.Au.wtexts i.toNat x p k ++ [Go.Au.text [110, 111, 100, 101] [(Go.Au.climb i.toNat x p k), (p.getD k [])]]) = Go.Au.wtexts i.toNat x p (k + 1) := (wts_even (by omega) (Go.Au.climb_len _ hx _ _))
            refine T_appendS 2 (k + 1) _ S807 (fun _ h => (hl804).trans h) rfl rfl rfl rfl rfl rfl rfl rfl rfl rfl rfl rfl rfl rfl (S807.rd 0 rfl) rs806.one (by first | rfl | (simp; done) | (simp; omega) | omega) rfl (by unfold maxLen; omega) (by show _ * 24 ≤ _; omega) fun a809 c810 w811 hc812 S813 => ?_
            have rs814 := Rds.append (rs769.mono hl804) rs806
            rw [hD808] at rs814
            refine T_nil ?_
            refine TT_step rfl ?_
            refine T_loadFS 6 S813 rfl rfl rfl rfl rfl rfl rfl rfl rfl (hVs (Go.Au.climb_len _ hy _ _)) ?_
            refine T_nil ?_
            refine TT_step rfl ?_
            refine T_callS rfl rfl g_aumbry_aumbryref07_nodeText rfl rfl rfl rfl ((ntextR_ok S813.le (Go.Au.climb_len _ hy _ _) hl790).mono ?_)
            rintro e w820 ⟨a815, c816, hc817, rfl, ho818, hB819⟩
            have S821 := S813.own hB819 ho818
            refine ⟨_, rfl, ((hl804).trans S821.le), ?_⟩
            refine T_nil ?_
            refine TT_step rfl ?_
            obtain ⟨G827, hl828, S826, r829⟩ := S821.stillRow 0 rfl
            have rs830 : Rds G827 [.slice a815 ((Go.Au.text [110, 111, 100, 101] [(Go.Au.climb i.toNat y q k), (q.getD k [])]).length) c816] [Go.Au.text [110, 111, 100, 101] [(Go.Au.climb i.toNat y q k), (q.getD k [])]] := Rds.cons (Rd.canonB r829) (Rds.nil _)
            refine T_litS [.slice a815 ((Go.Au.text [110, 111, 100, 101] [(Go.Au.climb i.toNat y q k), (q.getD k [])]).length) c816] rfl rfl rfl rfl rfl rfl rfl rfl rfl rfl rfl rfl rfl (by simp [Value.cells]; rfl) rfl fun a822 w823 hB824 ho825 => ?_
            have S831 := S826.own hB824 ho825
            refine ⟨(((hl804.trans hl828)).trans S831.le), ?_⟩
            refine T_nil ?_
            refine TT_step rfl ?_
            have hD832 : (Go.Au.wtexts i.toNat y q k ++ [Go.Au.text [110, 111, 100, 101] [(Go.Au.climb i.toNat y q k), (q.getD k [])]]) = Go.Au.wtexts i.toNat y q (k + 1) := (wts_even (by omega) (Go.Au.climb_len _ hy _ _))
            refine T_appendS 2 (k + 1) _ S831 (fun _ h => ((hl804.trans hl828)).trans h) rfl rfl rfl rfl rfl rfl rfl rfl rfl rfl rfl rfl rfl rfl (S831.rd 0 rfl) rs830.one (by first | rfl | (simp; done) | (simp; omega) | omega) rfl (by unfold maxLen; omega) (by show _ * 24 ≤ _; omega) fun a833 c834 w835 hc836 S837 => ?_
            have rs838 := Rds.append (rs774.mono (hl804.trans hl828)) rs830
            rw [hD832] at rs838
            refine T_nil ?_
            refine TT_step rfl ?_
            refine T_pev rfl rfl rfl rfl ?_
            refine T_nil ?_
            refine TT_step rfl ?_
            refine T_pev rfl rfl rfl rfl ?_
            refine T_nil ?_
            refine TT_done ?_
            refine W_tree (planF Tryd.prog G827 [97]) (.step 0 (.step 1 (.step 2 (.step 3 (.step 4 (.step 7 (.step 8 (.step 9 (.step 10 (.fork 5 6 (.step 6 (.step 11 (.step 12 (.step 13 .done)))) (.step 5 (.step 11 (.step 12 (.step 13 .done)))))))))))))) rfl (by kernel_rfl) S837.le ?_
            have S839 := S837.drew
            refine TT_step rfl ?_
            refine T_loadFS 8 S839 rfl rfl rfl rfl rfl rfl rfl rfl rfl (hVs (Go.Au.climb_len _ hx _ _)) ?_
            refine T_nil ?_
            refine TT_step rfl ?_
            refine T_pev rfl rfl rfl rfl ?_
            refine T_nil ?_
            refine TT_step rfl ?_
            refine T_pev rfl rfl rfl rfl ?_
            refine T_nil ?_
            refine TT_step rfl ?_
            refine T_idxR k (hp.mono (hl764.trans (hl804.trans hl828))).2 rfl rfl rfl rfl rfl rfl rfl rfl rfl (by omega) (by omega) fun b840 o841 hc842 => ?_
            have hc843 := cells_h (hp.mono (hl764.trans (hl804.trans hl828))).1 k (by omega) hc842
            have hl844 := len_h (hp.mono (hl764.trans (hl804.trans hl828))).1 k (by omega)
            refine T_nil ?_
            refine TT_step rfl ?_
            refine T_loadGA _ S839 hc843 rfl rfl rfl rfl rfl rfl rfl rfl (hVs hl844) ?_
            refine T_nil ?_
            refine TT_step rfl ?_
            refine T_pev rfl rfl rfl rfl ?_
            refine T_nil ?_
            refine TT_step rfl ?_
            refine T_pev rfl rfl rfl rfl ?_
            refine T_nil ?_
            refine TT_step rfl ?_
            refine T_idxR k (hq.mono (hl764.trans (hl804.trans hl828))).2 rfl rfl rfl rfl rfl rfl rfl rfl rfl (by omega) (by omega) fun b845 o846 hc847 => ?_
            have hc848 := cells_h (hq.mono (hl764.trans (hl804.trans hl828))).1 k (by omega) hc847
            have hl849 := len_h (hq.mono (hl764.trans (hl804.trans hl828))).1 k (by omega)
            refine T_nil ?_
            refine TT_step rfl ?_
            refine T_loadGAP _ (fun _ h => h) hc848 rfl rfl rfl rfl rfl rfl rfl rfl (hVs hl849) ?_
            refine T_nil ?_
            refine TT_fork rfl rfl ?_ ?_
            · refine T_callS rfl rfl g_aumbry_aumbryref07_Node rfl rfl rfl rfl ((nodeR_ok S839.le (Go.Au.climb_len _ hx _ _) hl844).mono ?_)
              rintro e w851 ⟨rfl, hB850⟩
              have S852 := S839.call hB850
              refine ⟨_, rfl, (((Hp.le.refl _)).trans S852.le), ?_⟩
              refine T_re (v' := hV (Go.Au.climb i.toNat x p (k + 1))) (congrArg (fun q => hV q) (climb_even (by omega) (Go.Au.climb_len _ hx _ _))) ?_
              refine T_nil ?_
              refine TT_step rfl ?_
              refine T_loadFS 7 S852 rfl rfl rfl rfl rfl rfl rfl rfl rfl (hVs (Go.Au.climb_len _ hy _ _)) ?_
              refine T_nil ?_
              refine TT_step rfl ?_
              refine T_callS rfl rfl g_aumbry_aumbryref07_Node rfl rfl rfl rfl ((nodeR_ok S852.le (Go.Au.climb_len _ hy _ _) hl849).mono ?_)
              rintro e w854 ⟨rfl, hB853⟩
              have S855 := S852.call hB853
              refine ⟨_, rfl, (((Hp.le.refl _)).trans S855.le), ?_⟩
              refine T_re (v' := hV (Go.Au.climb i.toNat y q (k + 1))) (congrArg (fun q => hV q) (climb_even (by omega) (Go.Au.climb_len _ hy _ _))) ?_
              refine T_nil ?_
              refine TT_step rfl ?_
              refine T_storeFS 8 S855 (fun _ h => ((Hp.le.refl _)).trans h) rfl rfl rfl rfl rfl rfl rfl rfl rfl (hVs (Go.Au.climb_len _ hx _ _)) ((hVs (Go.Au.climb_len _ hx _ _)).trans (hVs (Go.Au.climb_len _ hx _ _)).symm) (one_hA _) fun w856 S857 => ?_
              refine T_nil ?_
              refine TT_step rfl ?_
              refine T_storeFS 7 S857 (fun _ h => ((Hp.le.refl _)).trans h) rfl rfl rfl rfl rfl rfl rfl rfl rfl (hVs (Go.Au.climb_len _ hy _ _)) ((hVs (Go.Au.climb_len _ hy _ _)).trans (hVs (Go.Au.climb_len _ hy _ _)).symm) (one_hA _) fun w858 S859 => ?_
              refine T_nil ?_
              refine TT_done ?_
              refine W_region ?_
              refine T_pev rfl rfl rfl rfl ?_
              refine T_quo rfl rfl rfl rfl rfl rfl (by omega) ?_
              refine T_re (v' := .int .i64 ((i.toNat / 2 ^ (k + 1) : Nat) : Int)) (congrArg (Value.int .i64) (half_int _ _)) ?_
              refine T_pev rfl rfl rfl rfl ?_
              refine T_nil ?_
              refine W_region ?_
              refine T_ari rfl rfl rfl rfl (by omega) ?_
              refine T_pev rfl rfl rfl rfl ?_
              refine T_nil ?_
              have S860 := S859.drop 1
              have S861 := S860.drop 0
              exact ⟨p.length - (k + 1), [(1, .int .i64 ((i.toNat / 2 ^ (k + 1) : Nat) : Int)), (4, .slice aa4 p.length cc4), (5, .slice aa5 q.length cc5), (8, .pointer (some ⟨b1, 0, none⟩)), (9, .pointer (some ⟨b4, 0, none⟩)), (12, .pointer (some ⟨b7, 0, none⟩)), (18, .slice a809 (k + 1) c810), (19, .slice a833 (k + 1) c834), (62, .int .i64 ((p.length : Nat) : Int)), (63, .int .i64 ((k + 1 : Nat) : Int))], by omega, ⟨(congrArg (fun z => some (Value.int .i64 z)) (by omega)), rfl, rfl, rfl, rfl, rfl, rfl, rfl, (congrArg (fun z => some (Value.int .i64 z)) (by omega)), (congrArg (fun z => some (Value.int .i64 z)) (by omega)), trivial⟩, k + 1, a809, c810, _, a833, c834, _, G827, rfl, (by omega), rfl, (hl764.trans (hl804.trans hl828)), S861, (rs814.mono hl828), hc812, rs838, hc836⟩
            refine T_loadFS 7 S839 rfl rfl rfl rfl rfl rfl rfl rfl rfl (hVs (Go.Au.climb_len _ hy _ _)) ?_
            refine T_nil ?_
            refine TT_step rfl ?_
            refine T_callS rfl rfl g_aumbry_aumbryref07_Node rfl rfl rfl rfl ((nodeR_ok S839.le (Go.Au.climb_len _ hx _ _) hl844).mono ?_)
            rintro e w863 ⟨rfl, hB862⟩
            have S864 := S839.call hB862
            refine ⟨_, rfl, (((Hp.le.refl _)).trans S864.le), ?_⟩
            refine T_re (v' := hV (Go.Au.climb i.toNat x p (k + 1))) (congrArg (fun q => hV q) (climb_even (by omega) (Go.Au.climb_len _ hx _ _))) ?_
            refine T_nil ?_
            refine TT_step rfl ?_
            refine T_callS rfl rfl g_aumbry_aumbryref07_Node rfl rfl rfl rfl ((nodeR_ok S864.le (Go.Au.climb_len _ hy _ _) hl849).mono ?_)
            rintro e w866 ⟨rfl, hB865⟩
            have S867 := S864.call hB865
            refine ⟨_, rfl, (((Hp.le.refl _)).trans S867.le), ?_⟩
            refine T_re (v' := hV (Go.Au.climb i.toNat y q (k + 1))) (congrArg (fun q => hV q) (climb_even (by omega) (Go.Au.climb_len _ hy _ _))) ?_
            refine T_nil ?_
            refine TT_step rfl ?_
            refine T_storeFS 8 S867 (fun _ h => ((Hp.le.refl _)).trans h) rfl rfl rfl rfl rfl rfl rfl rfl rfl (hVs (Go.Au.climb_len _ hx _ _)) ((hVs (Go.Au.climb_len _ hx _ _)).trans (hVs (Go.Au.climb_len _ hx _ _)).symm) (one_hA _) fun w868 S869 => ?_
            refine T_nil ?_
            refine TT_step rfl ?_
            refine T_storeFS 7 S869 (fun _ h => ((Hp.le.refl _)).trans h) rfl rfl rfl rfl rfl rfl rfl rfl rfl (hVs (Go.Au.climb_len _ hy _ _)) ((hVs (Go.Au.climb_len _ hy _ _)).trans (hVs (Go.Au.climb_len _ hy _ _)).symm) (one_hA _) fun w870 S871 => ?_
            refine T_nil ?_
            refine TT_done ?_
            refine W_region ?_
            refine T_pev rfl rfl rfl rfl ?_
            refine T_quo rfl rfl rfl rfl rfl rfl (by omega) ?_
            refine T_re (v' := .int .i64 ((i.toNat / 2 ^ (k + 1) : Nat) : Int)) (congrArg (Value.int .i64) (half_int _ _)) ?_
            refine T_pev rfl rfl rfl rfl ?_
            refine T_nil ?_
            refine W_region ?_
            refine T_ari rfl rfl rfl rfl (by omega) ?_
            refine T_pev rfl rfl rfl rfl ?_
            refine T_nil ?_
            have S872 := S871.drop 1
            have S873 := S872.drop 0
            exact ⟨p.length - (k + 1), [(1, .int .i64 ((i.toNat / 2 ^ (k + 1) : Nat) : Int)), (4, .slice aa4 p.length cc4), (5, .slice aa5 q.length cc5), (8, .pointer (some ⟨b1, 0, none⟩)), (9, .pointer (some ⟨b4, 0, none⟩)), (12, .pointer (some ⟨b7, 0, none⟩)), (18, .slice a809 (k + 1) c810), (19, .slice a833 (k + 1) c834), (62, .int .i64 ((p.length : Nat) : Int)), (63, .int .i64 ((k + 1 : Nat) : Int))], by omega, ⟨(congrArg (fun z => some (Value.int .i64 z)) (by omega)), rfl, rfl, rfl, rfl, rfl, rfl, rfl, (congrArg (fun z => some (Value.int .i64 z)) (by omega)), (congrArg (fun z => some (Value.int .i64 z)) (by omega)), trivial⟩, k + 1, a809, c810, _, a833, c834, _, G827, rfl, (by omega), rfl, (hl764.trans (hl804.trans hl828)), S873, (rs814.mono hl828), hc812, rs838, hc836⟩
          refine T_loadFS 6 S807 rfl rfl rfl rfl rfl rfl rfl rfl rfl (hVs (Go.Au.climb_len _ hy _ _)) ?_
          refine T_nil ?_
          refine TT_step rfl ?_
          have hD874 : (Go.Au.wtexts i.toNat x p k ++ [Go.Au.text [110, 111, 100, 101] [(Go.Au.climb i.toNat x p k), (p.getD k [])]]) = Go.Au.wtexts i.toNat x p (k + 1) := (wts_even (by omega) (Go.Au.climb_len _ hx _ _))
          refine T_appendS 2 (k + 1) _ S807 (fun _ h => (hl804).trans h) rfl rfl rfl rfl rfl rfl rfl rfl rfl rfl rfl rfl rfl rfl (S807.rd 0 rfl) rs806.one (by first | rfl | (simp; done) | (simp; omega) | omega) rfl (by unfold maxLen; omega) (by show _ * 24 ≤ _; omega) fun a875 c876 w877 hc878 S879 => ?_
          have rs880 := Rds.append (rs769.mono hl804) rs806
          rw [hD874] at rs880
          refine T_nil ?_
          refine TT_step rfl ?_
          refine T_callS rfl rfl g_aumbry_aumbryref07_nodeText rfl rfl rfl rfl ((ntextR_ok S879.le (Go.Au.climb_len _ hy _ _) hl790).mono ?_)
          rintro e w886 ⟨a881, c882, hc883, rfl, ho884, hB885⟩
          have S887 := S879.own hB885 ho884
          refine ⟨_, rfl, ((hl804).trans S887.le), ?_⟩
          refine T_nil ?_
          refine TT_step rfl ?_
          obtain ⟨G893, hl894, S892, r895⟩ := S887.stillRow 0 rfl
          have rs896 : Rds G893 [.slice a881 ((Go.Au.text [110, 111, 100, 101] [(Go.Au.climb i.toNat y q k), (q.getD k [])]).length) c882] [Go.Au.text [110, 111, 100, 101] [(Go.Au.climb i.toNat y q k), (q.getD k [])]] := Rds.cons (Rd.canonB r895) (Rds.nil _)
          refine T_litS [.slice a881 ((Go.Au.text [110, 111, 100, 101] [(Go.Au.climb i.toNat y q k), (q.getD k [])]).length) c882] rfl rfl rfl rfl rfl rfl rfl rfl rfl rfl rfl rfl rfl (by simp [Value.cells]; rfl) rfl fun a888 w889 hB890 ho891 => ?_
          have S897 := S892.own hB890 ho891
          refine ⟨(((hl804.trans hl894)).trans S897.le), ?_⟩
          refine T_nil ?_
          refine TT_step rfl ?_
          have hD898 : (Go.Au.wtexts i.toNat y q k ++ [Go.Au.text [110, 111, 100, 101] [(Go.Au.climb i.toNat y q k), (q.getD k [])]]) = Go.Au.wtexts i.toNat y q (k + 1) := (wts_even (by omega) (Go.Au.climb_len _ hy _ _))
          refine T_appendS 2 (k + 1) _ S897 (fun _ h => ((hl804.trans hl894)).trans h) rfl rfl rfl rfl rfl rfl rfl rfl rfl rfl rfl rfl rfl rfl (S897.rd 0 rfl) rs896.one (by first | rfl | (simp; done) | (simp; omega) | omega) rfl (by unfold maxLen; omega) (by show _ * 24 ≤ _; omega) fun a899 c900 w901 hc902 S903 => ?_
          have rs904 := Rds.append (rs774.mono (hl804.trans hl894)) rs896
          rw [hD898] at rs904
          refine T_nil ?_
          refine TT_step rfl ?_
          refine T_pev rfl rfl rfl rfl ?_
          refine T_nil ?_
          refine TT_step rfl ?_
          refine T_pev rfl rfl rfl rfl ?_
          refine T_nil ?_
          refine TT_done ?_
          refine W_tree (planF Tryd.prog G893 [97]) (.step 0 (.step 1 (.step 2 (.step 3 (.step 4 (.step 7 (.step 8 (.step 9 (.step 10 (.fork 5 6 (.step 6 (.step 11 (.step 12 (.step 13 .done)))) (.step 5 (.step 11 (.step 12 (.step 13 .done)))))))))))))) rfl (by kernel_rfl) S903.le ?_
          have S905 := S903.drew
          refine TT_step rfl ?_
          refine T_loadFS 8 S905 rfl rfl rfl rfl rfl rfl rfl rfl rfl (hVs (Go.Au.climb_len _ hx _ _)) ?_
          refine T_nil ?_
          refine TT_step rfl ?_
          refine T_pev rfl rfl rfl rfl ?_
          refine T_nil ?_
          refine TT_step rfl ?_
          refine T_pev rfl rfl rfl rfl ?_
          refine T_nil ?_
          refine TT_step rfl ?_
          refine T_idxR k (hp.mono (hl764.trans (hl804.trans hl894))).2 rfl rfl rfl rfl rfl rfl rfl rfl rfl (by omega) (by omega) fun b906 o907 hc908 => ?_
          have hc909 := cells_h (hp.mono (hl764.trans (hl804.trans hl894))).1 k (by omega) hc908
          have hl910 := len_h (hp.mono (hl764.trans (hl804.trans hl894))).1 k (by omega)
          refine T_nil ?_
          refine TT_step rfl ?_
          refine T_loadGA _ S905 hc909 rfl rfl rfl rfl rfl rfl rfl rfl (hVs hl910) ?_
          refine T_nil ?_
          refine TT_step rfl ?_
          refine T_pev rfl rfl rfl rfl ?_
          refine T_nil ?_
          refine TT_step rfl ?_
          refine T_pev rfl rfl rfl rfl ?_
          refine T_nil ?_
          refine TT_step rfl ?_
          refine T_idxR k (hq.mono (hl764.trans (hl804.trans hl894))).2 rfl rfl rfl rfl rfl rfl rfl rfl rfl (by omega) (by omega) fun b911 o912 hc913 => ?_
          have hc914 := cells_h (hq.mono (hl764.trans (hl804.trans hl894))).1 k (by omega) hc913
          have hl915 := len_h (hq.mono (hl764.trans (hl804.trans hl894))).1 k (by omega)
          refine T_nil ?_
          refine TT_step rfl ?_
          refine T_loadGAP _ (fun _ h => h) hc914 rfl rfl rfl rfl rfl rfl rfl rfl (hVs hl915) ?_
          refine T_nil ?_
          refine TT_fork rfl rfl ?_ ?_
          · refine T_callS rfl rfl g_aumbry_aumbryref07_Node rfl rfl rfl rfl ((nodeR_ok S905.le (Go.Au.climb_len _ hx _ _) hl910).mono ?_)
            rintro e w917 ⟨rfl, hB916⟩
            have S918 := S905.call hB916
            refine ⟨_, rfl, (((Hp.le.refl _)).trans S918.le), ?_⟩
            refine T_re (v' := hV (Go.Au.climb i.toNat x p (k + 1))) (congrArg (fun q => hV q) (climb_even (by omega) (Go.Au.climb_len _ hx _ _))) ?_
            refine T_nil ?_
            refine TT_step rfl ?_
            refine T_loadFS 7 S918 rfl rfl rfl rfl rfl rfl rfl rfl rfl (hVs (Go.Au.climb_len _ hy _ _)) ?_
            refine T_nil ?_
            refine TT_step rfl ?_
            refine T_callS rfl rfl g_aumbry_aumbryref07_Node rfl rfl rfl rfl ((nodeR_ok S918.le (Go.Au.climb_len _ hy _ _) hl915).mono ?_)
            rintro e w920 ⟨rfl, hB919⟩
            have S921 := S918.call hB919
            refine ⟨_, rfl, (((Hp.le.refl _)).trans S921.le), ?_⟩
            refine T_re (v' := hV (Go.Au.climb i.toNat y q (k + 1))) (congrArg (fun q => hV q) (climb_even (by omega) (Go.Au.climb_len _ hy _ _))) ?_
            refine T_nil ?_
            refine TT_step rfl ?_
            refine T_storeFS 8 S921 (fun _ h => ((Hp.le.refl _)).trans h) rfl rfl rfl rfl rfl rfl rfl rfl rfl (hVs (Go.Au.climb_len _ hx _ _)) ((hVs (Go.Au.climb_len _ hx _ _)).trans (hVs (Go.Au.climb_len _ hx _ _)).symm) (one_hA _) fun w922 S923 => ?_
            refine T_nil ?_
            refine TT_step rfl ?_
            refine T_storeFS 7 S923 (fun _ h => ((Hp.le.refl _)).trans h) rfl rfl rfl rfl rfl rfl rfl rfl rfl (hVs (Go.Au.climb_len _ hy _ _)) ((hVs (Go.Au.climb_len _ hy _ _)).trans (hVs (Go.Au.climb_len _ hy _ _)).symm) (one_hA _) fun w924 S925 => ?_
            refine T_nil ?_
            refine TT_done ?_
            refine W_region ?_
            refine T_pev rfl rfl rfl rfl ?_
            refine T_quo rfl rfl rfl rfl rfl rfl (by omega) ?_
            refine T_re (v' := .int .i64 ((i.toNat / 2 ^ (k + 1) : Nat) : Int)) (congrArg (Value.int .i64) (half_int _ _)) ?_
            refine T_pev rfl rfl rfl rfl ?_
            refine T_nil ?_
            refine W_region ?_
            refine T_ari rfl rfl rfl rfl (by omega) ?_
            refine T_pev rfl rfl rfl rfl ?_
            refine T_nil ?_
            have S926 := S925.drop 1
            have S927 := S926.drop 0
            exact ⟨p.length - (k + 1), [(1, .int .i64 ((i.toNat / 2 ^ (k + 1) : Nat) : Int)), (4, .slice aa4 p.length cc4), (5, .slice aa5 q.length cc5), (8, .pointer (some ⟨b1, 0, none⟩)), (9, .pointer (some ⟨b4, 0, none⟩)), (12, .pointer (some ⟨b7, 0, none⟩)), (18, .slice a875 (k + 1) c876), (19, .slice a899 (k + 1) c900), (62, .int .i64 ((p.length : Nat) : Int)), (63, .int .i64 ((k + 1 : Nat) : Int))], by omega, ⟨(congrArg (fun z => some (Value.int .i64 z)) (by omega)), rfl, rfl, rfl, rfl, rfl, rfl, rfl, (congrArg (fun z => some (Value.int .i64 z)) (by omega)), (congrArg (fun z => some (Value.int .i64 z)) (by omega)), trivial⟩, k + 1, a875, c876, _, a899, c900, _, G893, rfl, (by omega), rfl, (hl764.trans (hl804.trans hl894)), S927, (rs880.mono hl894), hc878, rs904, hc902⟩
          refine T_loadFS 7 S905 rfl rfl rfl rfl rfl rfl rfl rfl rfl (hVs (Go.Au.climb_len _ hy _ _)) ?_
          refine T_nil ?_
          refine TT_step rfl ?_
          refine T_callS rfl rfl g_aumbry_aumbryref07_Node rfl rfl rfl rfl ((nodeR_ok S905.le (Go.Au.climb_len _ hx _ _) hl910).mono ?_)
          rintro e w929 ⟨rfl, hB928⟩
          have S930 := S905.call hB928
          refine ⟨_, rfl, (((Hp.le.refl _)).trans S930.le), ?_⟩
          refine T_re (v' := hV (Go.Au.climb i.toNat x p (k + 1))) (congrArg (fun q => hV q) (climb_even (by omega) (Go.Au.climb_len _ hx _ _))) ?_
          refine T_nil ?_
          refine TT_step rfl ?_
          refine T_callS rfl rfl g_aumbry_aumbryref07_Node rfl rfl rfl rfl ((nodeR_ok S930.le (Go.Au.climb_len _ hy _ _) hl915).mono ?_)
          rintro e w932 ⟨rfl, hB931⟩
          have S933 := S930.call hB931
          refine ⟨_, rfl, (((Hp.le.refl _)).trans S933.le), ?_⟩
          refine T_re (v' := hV (Go.Au.climb i.toNat y q (k + 1))) (congrArg (fun q => hV q) (climb_even (by omega) (Go.Au.climb_len _ hy _ _))) ?_
          refine T_nil ?_
          refine TT_step rfl ?_
          refine T_storeFS 8 S933 (fun _ h => ((Hp.le.refl _)).trans h) rfl rfl rfl rfl rfl rfl rfl rfl rfl (hVs (Go.Au.climb_len _ hx _ _)) ((hVs (Go.Au.climb_len _ hx _ _)).trans (hVs (Go.Au.climb_len _ hx _ _)).symm) (one_hA _) fun w934 S935 => ?_
          refine T_nil ?_
          refine TT_step rfl ?_
          refine T_storeFS 7 S935 (fun _ h => ((Hp.le.refl _)).trans h) rfl rfl rfl rfl rfl rfl rfl rfl rfl (hVs (Go.Au.climb_len _ hy _ _)) ((hVs (Go.Au.climb_len _ hy _ _)).trans (hVs (Go.Au.climb_len _ hy _ _)).symm) (one_hA _) fun w936 S937 => ?_
          refine T_nil ?_
          refine TT_done ?_
          refine W_region ?_
          refine T_pev rfl rfl rfl rfl ?_
          refine T_quo rfl rfl rfl rfl rfl rfl (by omega) ?_
          refine T_re (v' := .int .i64 ((i.toNat / 2 ^ (k + 1) : Nat) : Int)) (congrArg (Value.int .i64) (half_int _ _)) ?_
          refine T_pev rfl rfl rfl rfl ?_
          refine T_nil ?_
          refine W_region ?_
          refine T_ari rfl rfl rfl rfl (by omega) ?_
          refine T_pev rfl rfl rfl rfl ?_
          refine T_nil ?_
          have S938 := S937.drop 1
          have S939 := S938.drop 0
          exact ⟨p.length - (k + 1), [(1, .int .i64 ((i.toNat / 2 ^ (k + 1) : Nat) : Int)), (4, .slice aa4 p.length cc4), (5, .slice aa5 q.length cc5), (8, .pointer (some ⟨b1, 0, none⟩)), (9, .pointer (some ⟨b4, 0, none⟩)), (12, .pointer (some ⟨b7, 0, none⟩)), (18, .slice a875 (k + 1) c876), (19, .slice a899 (k + 1) c900), (62, .int .i64 ((p.length : Nat) : Int)), (63, .int .i64 ((k + 1 : Nat) : Int))], by omega, ⟨(congrArg (fun z => some (Value.int .i64 z)) (by omega)), rfl, rfl, rfl, rfl, rfl, rfl, rfl, (congrArg (fun z => some (Value.int .i64 z)) (by omega)), (congrArg (fun z => some (Value.int .i64 z)) (by omega)), trivial⟩, k + 1, a875, c876, _, a899, c900, _, G893, rfl, (by omega), rfl, (hl764.trans (hl804.trans hl894)), S939, (rs880.mono hl894), hc878, rs904, hc902⟩
        refine T_loadFS 6 S797 rfl rfl rfl rfl rfl rfl rfl rfl rfl (hVs (Go.Au.climb_len _ hy _ _)) ?_
        refine T_nil ?_
        refine TT_step rfl ?_
        obtain ⟨G945, hl946, S944, r947⟩ := S797.stillRow 0 rfl
        have rs948 : Rds G945 [.slice a791 ((Go.Au.text [110, 111, 100, 101] [(Go.Au.climb i.toNat x p k), (p.getD k [])]).length) c792] [Go.Au.text [110, 111, 100, 101] [(Go.Au.climb i.toNat x p k), (p.getD k [])]] := Rds.cons (Rd.canonB r947) (Rds.nil _)
        refine T_litS [.slice a791 ((Go.Au.text [110, 111, 100, 101] [(Go.Au.climb i.toNat x p k), (p.getD k [])]).length) c792] rfl rfl rfl rfl rfl rfl rfl rfl rfl rfl rfl rfl rfl (by simp [Value.cells]; rfl) rfl fun a940 w941 hB942 ho943 => ?_
        have S949 := S944.own hB942 ho943
        refine ⟨((hl946).trans S949.le), ?_⟩
        refine T_nil ?_
        refine TT_step rfl ?_
        have hD950 : (Go.Au.wtexts i.toNat x p k ++ [Go.Au.text [110, 111, 100, 101] [(Go.Au.climb i.toNat x p k), (p.getD k [])]]) = Go.Au.wtexts i.toNat x p (k + 1) := (wts_even (by omega) (Go.Au.climb_len _ hx _ _))
        refine T_appendS 2 (k + 1) _ S949 (fun _ h => (hl946).trans h) rfl rfl rfl rfl rfl rfl rfl rfl rfl rfl rfl rfl rfl rfl (S949.rd 0 rfl) rs948.one (by first | rfl | (simp; done) | (simp; omega) | omega) rfl (by unfold maxLen; omega) (by show _ * 24 ≤ _; omega) fun a951 c952 w953 hc954 S955 => ?_
        have rs956 := Rds.append (rs769.mono hl946) rs948
        rw [hD950] at rs956
        refine T_nil ?_
        refine TT_step rfl ?_
        refine T_callS rfl rfl g_aumbry_aumbryref07_nodeText rfl rfl rfl rfl ((ntextR_ok S955.le (Go.Au.climb_len _ hy _ _) hl790).mono ?_)
        rintro e w962 ⟨a957, c958, hc959, rfl, ho960, hB961⟩
        have S963 := S955.own hB961 ho960
        refine ⟨_, rfl, ((hl946).trans S963.le), ?_⟩
        refine T_nil ?_
        refine TT_step rfl ?_
        obtain ⟨G969, hl970, S968, r971⟩ := S963.stillRow 0 rfl
        have rs972 : Rds G969 [.slice a957 ((Go.Au.text [110, 111, 100, 101] [(Go.Au.climb i.toNat y q k), (q.getD k [])]).length) c958] [Go.Au.text [110, 111, 100, 101] [(Go.Au.climb i.toNat y q k), (q.getD k [])]] := Rds.cons (Rd.canonB r971) (Rds.nil _)
        refine T_litS [.slice a957 ((Go.Au.text [110, 111, 100, 101] [(Go.Au.climb i.toNat y q k), (q.getD k [])]).length) c958] rfl rfl rfl rfl rfl rfl rfl rfl rfl rfl rfl rfl rfl (by simp [Value.cells]; rfl) rfl fun a964 w965 hB966 ho967 => ?_
        have S973 := S968.own hB966 ho967
        refine ⟨(((hl946.trans hl970)).trans S973.le), ?_⟩
        refine T_nil ?_
        refine TT_step rfl ?_
        have hD974 : (Go.Au.wtexts i.toNat y q k ++ [Go.Au.text [110, 111, 100, 101] [(Go.Au.climb i.toNat y q k), (q.getD k [])]]) = Go.Au.wtexts i.toNat y q (k + 1) := (wts_even (by omega) (Go.Au.climb_len _ hy _ _))
        refine T_appendS 2 (k + 1) _ S973 (fun _ h => ((hl946.trans hl970)).trans h) rfl rfl rfl rfl rfl rfl rfl rfl rfl rfl rfl rfl rfl rfl (S973.rd 0 rfl) rs972.one (by first | rfl | (simp; done) | (simp; omega) | omega) rfl (by unfold maxLen; omega) (by show _ * 24 ≤ _; omega) fun a975 c976 w977 hc978 S979 => ?_
        have rs980 := Rds.append (rs774.mono (hl946.trans hl970)) rs972
        rw [hD974] at rs980
        refine T_nil ?_
        refine TT_step rfl ?_
        refine T_pev rfl rfl rfl rfl ?_
        refine T_nil ?_
        refine TT_step rfl ?_
        refine T_pev rfl rfl rfl rfl ?_
        refine T_nil ?_
        refine TT_done ?_
        refine W_tree (planF Tryd.prog G969 [97]) (.step 0 (.step 1 (.step 2 (.step 3 (.step 4 (.step 7 (.step 8 (.step 9 (.step 10 (.fork 5 6 (.step 6 (.step 11 (.step 12 (.step 13 .done)))) (.step 5 (.step 11 (.step 12 (.step 13 .done)))))))))))))) rfl (by kernel_rfl) S979.le ?_
        have S981 := S979.drew
        refine TT_step rfl ?_
        refine T_loadFS 8 S981 rfl rfl rfl rfl rfl rfl rfl rfl rfl (hVs (Go.Au.climb_len _ hx _ _)) ?_
        refine T_nil ?_
        refine TT_step rfl ?_
        refine T_pev rfl rfl rfl rfl ?_
        refine T_nil ?_
        refine TT_step rfl ?_
        refine T_pev rfl rfl rfl rfl ?_
        refine T_nil ?_
        refine TT_step rfl ?_
        refine T_idxR k (hp.mono (hl764.trans (hl946.trans hl970))).2 rfl rfl rfl rfl rfl rfl rfl rfl rfl (by omega) (by omega) fun b982 o983 hc984 => ?_
        have hc985 := cells_h (hp.mono (hl764.trans (hl946.trans hl970))).1 k (by omega) hc984
        have hl986 := len_h (hp.mono (hl764.trans (hl946.trans hl970))).1 k (by omega)
        refine T_nil ?_
        refine TT_step rfl ?_
        refine T_loadGA _ S981 hc985 rfl rfl rfl rfl rfl rfl rfl rfl (hVs hl986) ?_
        refine T_nil ?_
        refine TT_step rfl ?_
        refine T_pev rfl rfl rfl rfl ?_
        refine T_nil ?_
        refine TT_step rfl ?_
        refine T_pev rfl rfl rfl rfl ?_
        refine T_nil ?_
        refine TT_step rfl ?_
        refine T_idxR k (hq.mono (hl764.trans (hl946.trans hl970))).2 rfl rfl rfl rfl rfl rfl rfl rfl rfl (by omega) (by omega) fun b987 o988 hc989 => ?_
        have hc990 := cells_h (hq.mono (hl764.trans (hl946.trans hl970))).1 k (by omega) hc989
        have hl991 := len_h (hq.mono (hl764.trans (hl946.trans hl970))).1 k (by omega)
        refine T_nil ?_
        refine TT_step rfl ?_
        refine T_loadGAP _ (fun _ h => h) hc990 rfl rfl rfl rfl rfl rfl rfl rfl (hVs hl991) ?_
        refine T_nil ?_
        refine TT_fork rfl rfl ?_ ?_
        · refine T_callS rfl rfl g_aumbry_aumbryref07_Node rfl rfl rfl rfl ((nodeR_ok S981.le (Go.Au.climb_len _ hx _ _) hl986).mono ?_)
          rintro e w993 ⟨rfl, hB992⟩
          have S994 := S981.call hB992
          refine ⟨_, rfl, (((Hp.le.refl _)).trans S994.le), ?_⟩
          refine T_re (v' := hV (Go.Au.climb i.toNat x p (k + 1))) (congrArg (fun q => hV q) (climb_even (by omega) (Go.Au.climb_len _ hx _ _))) ?_
          refine T_nil ?_
          refine TT_step rfl ?_
          refine T_loadFS 7 S994 rfl rfl rfl rfl rfl rfl rfl rfl rfl (hVs (Go.Au.climb_len _ hy _ _)) ?_
          refine T_nil ?_
          refine TT_step rfl ?_
          refine T_callS rfl rfl g_aumbry_aumbryref07_Node rfl rfl rfl rfl ((nodeR_ok S994.le (Go.Au.climb_len _ hy _ _) hl991).mono ?_)
          rintro e w996 ⟨rfl, hB995⟩
          have S997 := S994.call hB995
          refine ⟨_, rfl, (((Hp.le.refl _)).trans S997.le), ?_⟩
          refine T_re (v' := hV (Go.Au.climb i.toNat y q (k + 1))) (congrArg (fun q => hV q) (climb_even (by omega) (Go.Au.climb_len _ hy _ _))) ?_
          refine T_nil ?_
          refine TT_step rfl ?_
          refine T_storeFS 8 S997 (fun _ h => ((Hp.le.refl _)).trans h) rfl rfl rfl rfl rfl rfl rfl rfl rfl (hVs (Go.Au.climb_len _ hx _ _)) ((hVs (Go.Au.climb_len _ hx _ _)).trans (hVs (Go.Au.climb_len _ hx _ _)).symm) (one_hA _) fun w998 S999 => ?_
          refine T_nil ?_
          refine TT_step rfl ?_
          refine T_storeFS 7 S999 (fun _ h => ((Hp.le.refl _)).trans h) rfl rfl rfl rfl rfl rfl rfl rfl rfl (hVs (Go.Au.climb_len _ hy _ _)) ((hVs (Go.Au.climb_len _ hy _ _)).trans (hVs (Go.Au.climb_len _ hy _ _)).symm) (one_hA _) fun w1000 S1001 => ?_
          refine T_nil ?_
          refine TT_done ?_
          refine W_region ?_
          refine T_pev rfl rfl rfl rfl ?_
          refine T_quo rfl rfl rfl rfl rfl rfl (by omega) ?_
          refine T_re (v' := .int .i64 ((i.toNat / 2 ^ (k + 1) : Nat) : Int)) (congrArg (Value.int .i64) (half_int _ _)) ?_
          refine T_pev rfl rfl rfl rfl ?_
          refine T_nil ?_
          refine W_region ?_
          refine T_ari rfl rfl rfl rfl (by omega) ?_
          refine T_pev rfl rfl rfl rfl ?_
          refine T_nil ?_
          have S1002 := S1001.drop 1
          have S1003 := S1002.drop 0
          exact ⟨p.length - (k + 1), [(1, .int .i64 ((i.toNat / 2 ^ (k + 1) : Nat) : Int)), (4, .slice aa4 p.length cc4), (5, .slice aa5 q.length cc5), (8, .pointer (some ⟨b1, 0, none⟩)), (9, .pointer (some ⟨b4, 0, none⟩)), (12, .pointer (some ⟨b7, 0, none⟩)), (18, .slice a951 (k + 1) c952), (19, .slice a975 (k + 1) c976), (62, .int .i64 ((p.length : Nat) : Int)), (63, .int .i64 ((k + 1 : Nat) : Int))], by omega, ⟨(congrArg (fun z => some (Value.int .i64 z)) (by omega)), rfl, rfl, rfl, rfl, rfl, rfl, rfl, (congrArg (fun z => some (Value.int .i64 z)) (by omega)), (congrArg (fun z => some (Value.int .i64 z)) (by omega)), trivial⟩, k + 1, a951, c952, _, a975, c976, _, G969, rfl, (by omega), rfl, (hl764.trans (hl946.trans hl970)), S1003, (rs956.mono hl970), hc954, rs980, hc978⟩
        refine T_loadFS 7 S981 rfl rfl rfl rfl rfl rfl rfl rfl rfl (hVs (Go.Au.climb_len _ hy _ _)) ?_
        refine T_nil ?_
        refine TT_step rfl ?_
        refine T_callS rfl rfl g_aumbry_aumbryref07_Node rfl rfl rfl rfl ((nodeR_ok S981.le (Go.Au.climb_len _ hx _ _) hl986).mono ?_)
        rintro e w1005 ⟨rfl, hB1004⟩
        have S1006 := S981.call hB1004
        refine ⟨_, rfl, (((Hp.le.refl _)).trans S1006.le), ?_⟩
        refine T_re (v' := hV (Go.Au.climb i.toNat x p (k + 1))) (congrArg (fun q => hV q) (climb_even (by omega) (Go.Au.climb_len _ hx _ _))) ?_
        refine T_nil ?_
        refine TT_step rfl ?_
        refine T_callS rfl rfl g_aumbry_aumbryref07_Node rfl rfl rfl rfl ((nodeR_ok S1006.le (Go.Au.climb_len _ hy _ _) hl991).mono ?_)
        rintro e w1008 ⟨rfl, hB1007⟩
        have S1009 := S1006.call hB1007
        refine ⟨_, rfl, (((Hp.le.refl _)).trans S1009.le), ?_⟩
        refine T_re (v' := hV (Go.Au.climb i.toNat y q (k + 1))) (congrArg (fun q => hV q) (climb_even (by omega) (Go.Au.climb_len _ hy _ _))) ?_
        refine T_nil ?_
        refine TT_step rfl ?_
        refine T_storeFS 8 S1009 (fun _ h => ((Hp.le.refl _)).trans h) rfl rfl rfl rfl rfl rfl rfl rfl rfl (hVs (Go.Au.climb_len _ hx _ _)) ((hVs (Go.Au.climb_len _ hx _ _)).trans (hVs (Go.Au.climb_len _ hx _ _)).symm) (one_hA _) fun w1010 S1011 => ?_
        refine T_nil ?_
        refine TT_step rfl ?_
        refine T_storeFS 7 S1011 (fun _ h => ((Hp.le.refl _)).trans h) rfl rfl rfl rfl rfl rfl rfl rfl rfl (hVs (Go.Au.climb_len _ hy _ _)) ((hVs (Go.Au.climb_len _ hy _ _)).trans (hVs (Go.Au.climb_len _ hy _ _)).symm) (one_hA _) fun w1012 S1013 => ?_
        refine T_nil ?_
        refine TT_done ?_
        refine W_region ?_
        refine T_pev rfl rfl rfl rfl ?_
        refine T_quo rfl rfl rfl rfl rfl rfl (by omega) ?_
        refine T_re (v' := .int .i64 ((i.toNat / 2 ^ (k + 1) : Nat) : Int)) (congrArg (Value.int .i64) (half_int _ _)) ?_
        refine T_pev rfl rfl rfl rfl ?_
        refine T_nil ?_
        refine W_region ?_
        refine T_ari rfl rfl rfl rfl (by omega) ?_
        refine T_pev rfl rfl rfl rfl ?_
        refine T_nil ?_
        have S1014 := S1013.drop 1
        have S1015 := S1014.drop 0
        exact ⟨p.length - (k + 1), [(1, .int .i64 ((i.toNat / 2 ^ (k + 1) : Nat) : Int)), (4, .slice aa4 p.length cc4), (5, .slice aa5 q.length cc5), (8, .pointer (some ⟨b1, 0, none⟩)), (9, .pointer (some ⟨b4, 0, none⟩)), (12, .pointer (some ⟨b7, 0, none⟩)), (18, .slice a951 (k + 1) c952), (19, .slice a975 (k + 1) c976), (62, .int .i64 ((p.length : Nat) : Int)), (63, .int .i64 ((k + 1 : Nat) : Int))], by omega, ⟨(congrArg (fun z => some (Value.int .i64 z)) (by omega)), rfl, rfl, rfl, rfl, rfl, rfl, rfl, (congrArg (fun z => some (Value.int .i64 z)) (by omega)), (congrArg (fun z => some (Value.int .i64 z)) (by omega)), trivial⟩, k + 1, a951, c952, _, a975, c976, _, G969, rfl, (by omega), rfl, (hl764.trans (hl946.trans hl970)), S1015, (rs956.mono hl970), hc954, rs980, hc978⟩
      refine T_loadFS 5 S780 rfl rfl rfl rfl rfl rfl rfl rfl rfl (hVs (Go.Au.climb_len _ hy _ _)) ?_
      refine T_nil ?_
      refine TT_step rfl ?_
      refine T_callS rfl rfl g_aumbry_aumbryref07_nodeText rfl rfl rfl rfl ((ntextR_ok S780.le (Go.Au.climb_len _ hx _ _) hl785).mono ?_)
      rintro e w1021 ⟨a1016, c1017, hc1018, rfl, ho1019, hB1020⟩
      have S1022 := S780.own hB1020 ho1019
      refine ⟨_, rfl, (((Hp.le.refl _)).trans S1022.le), ?_⟩
      refine T_nil ?_
      refine TT_step rfl ?_
      obtain ⟨G1028, hl1029, S1027, r1030⟩ := S1022.stillRow 0 rfl
      have rs1031 : Rds G1028 [.slice a1016 ((Go.Au.text [110, 111, 100, 101] [(Go.Au.climb i.toNat x p k), (p.getD k [])]).length) c1017] [Go.Au.text [110, 111, 100, 101] [(Go.Au.climb i.toNat x p k), (p.getD k [])]] := Rds.cons (Rd.canonB r1030) (Rds.nil _)
      refine T_litS [.slice a1016 ((Go.Au.text [110, 111, 100, 101] [(Go.Au.climb i.toNat x p k), (p.getD k [])]).length) c1017] rfl rfl rfl rfl rfl rfl rfl rfl rfl rfl rfl rfl rfl (by simp [Value.cells]; rfl) rfl fun a1023 w1024 hB1025 ho1026 => ?_
      have S1032 := S1027.own hB1025 ho1026
      refine ⟨((hl1029).trans S1032.le), ?_⟩
      refine T_nil ?_
      refine TT_step rfl ?_
      have hD1033 : (Go.Au.wtexts i.toNat x p k ++ [Go.Au.text [110, 111, 100, 101] [(Go.Au.climb i.toNat x p k), (p.getD k [])]]) = Go.Au.wtexts i.toNat x p (k + 1) := (wts_even (by omega) (Go.Au.climb_len _ hx _ _))
      refine T_appendS 2 (k + 1) _ S1032 (fun _ h => (hl1029).trans h) rfl rfl rfl rfl rfl rfl rfl rfl rfl rfl rfl rfl rfl rfl (S1032.rd 0 rfl) rs1031.one (by first | rfl | (simp; done) | (simp; omega) | omega) rfl (by unfold maxLen; omega) (by show _ * 24 ≤ _; omega) fun a1034 c1035 w1036 hc1037 S1038 => ?_
      have rs1039 := Rds.append (rs769.mono hl1029) rs1031
      rw [hD1033] at rs1039
      refine T_nil ?_
      refine TT_step rfl ?_
      refine T_callS rfl rfl g_aumbry_aumbryref07_nodeText rfl rfl rfl rfl ((ntextR_ok S1038.le (Go.Au.climb_len _ hy _ _) hl790).mono ?_)
      rintro e w1045 ⟨a1040, c1041, hc1042, rfl, ho1043, hB1044⟩
      have S1046 := S1038.own hB1044 ho1043
      refine ⟨_, rfl, ((hl1029).trans S1046.le), ?_⟩
      refine T_nil ?_
      refine TT_step rfl ?_
      obtain ⟨G1052, hl1053, S1051, r1054⟩ := S1046.stillRow 0 rfl
      have rs1055 : Rds G1052 [.slice a1040 ((Go.Au.text [110, 111, 100, 101] [(Go.Au.climb i.toNat y q k), (q.getD k [])]).length) c1041] [Go.Au.text [110, 111, 100, 101] [(Go.Au.climb i.toNat y q k), (q.getD k [])]] := Rds.cons (Rd.canonB r1054) (Rds.nil _)
      refine T_litS [.slice a1040 ((Go.Au.text [110, 111, 100, 101] [(Go.Au.climb i.toNat y q k), (q.getD k [])]).length) c1041] rfl rfl rfl rfl rfl rfl rfl rfl rfl rfl rfl rfl rfl (by simp [Value.cells]; rfl) rfl fun a1047 w1048 hB1049 ho1050 => ?_
      have S1056 := S1051.own hB1049 ho1050
      refine ⟨(((hl1029.trans hl1053)).trans S1056.le), ?_⟩
      refine T_nil ?_
      refine TT_step rfl ?_
      have hD1057 : (Go.Au.wtexts i.toNat y q k ++ [Go.Au.text [110, 111, 100, 101] [(Go.Au.climb i.toNat y q k), (q.getD k [])]]) = Go.Au.wtexts i.toNat y q (k + 1) := (wts_even (by omega) (Go.Au.climb_len _ hy _ _))
      refine T_appendS 2 (k + 1) _ S1056 (fun _ h => ((hl1029.trans hl1053)).trans h) rfl rfl rfl rfl rfl rfl rfl rfl rfl rfl rfl rfl rfl rfl (S1056.rd 0 rfl) rs1055.one (by first | rfl | (simp; done) | (simp; omega) | omega) rfl (by unfold maxLen; omega) (by show _ * 24 ≤ _; omega) fun a1058 c1059 w1060 hc1061 S1062 => ?_
      have rs1063 := Rds.append (rs774.mono (hl1029.trans hl1053)) rs1055
      rw [hD1057] at rs1063
      refine T_nil ?_
      refine TT_step rfl ?_
      refine T_pev rfl rfl rfl rfl ?_
      refine T_nil ?_
      refine TT_step rfl ?_
      refine T_pev rfl rfl rfl rfl ?_
      refine T_nil ?_
      refine TT_done ?_
      refine W_tree (planF Tryd.prog G1052 [97]) (.step 0 (.step 1 (.step 2 (.step 3 (.step 4 (.step 7 (.step 8 (.step 9 (.step 10 (.fork 5 6 (.step 6 (.step 11 (.step 12 (.step 13 .done)))) (.step 5 (.step 11 (.step 12 (.step 13 .done)))))))))))))) rfl (by kernel_rfl) S1062.le ?_
      have S1064 := S1062.drew
      refine TT_step rfl ?_
      refine T_loadFS 8 S1064 rfl rfl rfl rfl rfl rfl rfl rfl rfl (hVs (Go.Au.climb_len _ hx _ _)) ?_
      refine T_nil ?_
      refine TT_step rfl ?_
      refine T_pev rfl rfl rfl rfl ?_
      refine T_nil ?_
      refine TT_step rfl ?_
      refine T_pev rfl rfl rfl rfl ?_
      refine T_nil ?_
      refine TT_step rfl ?_
      refine T_idxR k (hp.mono (hl764.trans (hl1029.trans hl1053))).2 rfl rfl rfl rfl rfl rfl rfl rfl rfl (by omega) (by omega) fun b1065 o1066 hc1067 => ?_
      have hc1068 := cells_h (hp.mono (hl764.trans (hl1029.trans hl1053))).1 k (by omega) hc1067
      have hl1069 := len_h (hp.mono (hl764.trans (hl1029.trans hl1053))).1 k (by omega)
      refine T_nil ?_
      refine TT_step rfl ?_
      refine T_loadGA _ S1064 hc1068 rfl rfl rfl rfl rfl rfl rfl rfl (hVs hl1069) ?_
      refine T_nil ?_
      refine TT_step rfl ?_
      refine T_pev rfl rfl rfl rfl ?_
      refine T_nil ?_
      refine TT_step rfl ?_
      refine T_pev rfl rfl rfl rfl ?_
      refine T_nil ?_
      refine TT_step rfl ?_
      refine T_idxR k (hq.mono (hl764.trans (hl1029.trans hl1053))).2 rfl rfl rfl rfl rfl rfl rfl rfl rfl (by omega) (by omega) fun b1070 o1071 hc1072 => ?_
      have hc1073 := cells_h (hq.mono (hl764.trans (hl1029.trans hl1053))).1 k (by omega) hc1072
      have hl1074 := len_h (hq.mono (hl764.trans (hl1029.trans hl1053))).1 k (by omega)
      refine T_nil ?_
      refine TT_step rfl ?_
      refine T_loadGAP _ (fun _ h => h) hc1073 rfl rfl rfl rfl rfl rfl rfl rfl (hVs hl1074) ?_
      refine T_nil ?_
      refine TT_fork rfl rfl ?_ ?_
      · refine T_callS rfl rfl g_aumbry_aumbryref07_Node rfl rfl rfl rfl ((nodeR_ok S1064.le (Go.Au.climb_len _ hx _ _) hl1069).mono ?_)
        rintro e w1076 ⟨rfl, hB1075⟩
        have S1077 := S1064.call hB1075
        refine ⟨_, rfl, (((Hp.le.refl _)).trans S1077.le), ?_⟩
        refine T_re (v' := hV (Go.Au.climb i.toNat x p (k + 1))) (congrArg (fun q => hV q) (climb_even (by omega) (Go.Au.climb_len _ hx _ _))) ?_
        refine T_nil ?_
        refine TT_step rfl ?_
        refine T_loadFS 7 S1077 rfl rfl rfl rfl rfl rfl rfl rfl rfl (hVs (Go.Au.climb_len _ hy _ _)) ?_
        refine T_nil ?_
        refine TT_step rfl ?_
        refine T_callS rfl rfl g_aumbry_aumbryref07_Node rfl rfl rfl rfl ((nodeR_ok S1077.le (Go.Au.climb_len _ hy _ _) hl1074).mono ?_)
        rintro e w1079 ⟨rfl, hB1078⟩
        have S1080 := S1077.call hB1078
        refine ⟨_, rfl, (((Hp.le.refl _)).trans S1080.le), ?_⟩
        refine T_re (v' := hV (Go.Au.climb i.toNat y q (k + 1))) (congrArg (fun q => hV q) (climb_even (by omega) (Go.Au.climb_len _ hy _ _))) ?_
        refine T_nil ?_
        refine TT_step rfl ?_
        refine T_storeFS 8 S1080 (fun _ h => ((Hp.le.refl _)).trans h) rfl rfl rfl rfl rfl rfl rfl rfl rfl (hVs (Go.Au.climb_len _ hx _ _)) ((hVs (Go.Au.climb_len _ hx _ _)).trans (hVs (Go.Au.climb_len _ hx _ _)).symm) (one_hA _) fun w1081 S1082 => ?_
        refine T_nil ?_
        refine TT_step rfl ?_
        refine T_storeFS 7 S1082 (fun _ h => ((Hp.le.refl _)).trans h) rfl rfl rfl rfl rfl rfl rfl rfl rfl (hVs (Go.Au.climb_len _ hy _ _)) ((hVs (Go.Au.climb_len _ hy _ _)).trans (hVs (Go.Au.climb_len _ hy _ _)).symm) (one_hA _) fun w1083 S1084 => ?_
        refine T_nil ?_
        refine TT_done ?_
        refine W_region ?_
        refine T_pev rfl rfl rfl rfl ?_
        refine T_quo rfl rfl rfl rfl rfl rfl (by omega) ?_
        refine T_re (v' := .int .i64 ((i.toNat / 2 ^ (k + 1) : Nat) : Int)) (congrArg (Value.int .i64) (half_int _ _)) ?_
        refine T_pev rfl rfl rfl rfl ?_
        refine T_nil ?_
        refine W_region ?_
        refine T_ari rfl rfl rfl rfl (by omega) ?_
        refine T_pev rfl rfl rfl rfl ?_
        refine T_nil ?_
        have S1085 := S1084.drop 1
        have S1086 := S1085.drop 0
        exact ⟨p.length - (k + 1), [(1, .int .i64 ((i.toNat / 2 ^ (k + 1) : Nat) : Int)), (4, .slice aa4 p.length cc4), (5, .slice aa5 q.length cc5), (8, .pointer (some ⟨b1, 0, none⟩)), (9, .pointer (some ⟨b4, 0, none⟩)), (12, .pointer (some ⟨b7, 0, none⟩)), (18, .slice a1034 (k + 1) c1035), (19, .slice a1058 (k + 1) c1059), (62, .int .i64 ((p.length : Nat) : Int)), (63, .int .i64 ((k + 1 : Nat) : Int))], by omega, ⟨(congrArg (fun z => some (Value.int .i64 z)) (by omega)), rfl, rfl, rfl, rfl, rfl, rfl, rfl, (congrArg (fun z => some (Value.int .i64 z)) (by omega)), (congrArg (fun z => some (Value.int .i64 z)) (by omega)), trivial⟩, k + 1, a1034, c1035, _, a1058, c1059, _, G1052, rfl, (by omega), rfl, (hl764.trans (hl1029.trans hl1053)), S1086, (rs1039.mono hl1053), hc1037, rs1063, hc1061⟩
      refine T_loadFS 7 S1064 rfl rfl rfl rfl rfl rfl rfl rfl rfl (hVs (Go.Au.climb_len _ hy _ _)) ?_
      refine T_nil ?_
      refine TT_step rfl ?_
      refine T_callS rfl rfl g_aumbry_aumbryref07_Node rfl rfl rfl rfl ((nodeR_ok S1064.le (Go.Au.climb_len _ hx _ _) hl1069).mono ?_)
      rintro e w1088 ⟨rfl, hB1087⟩
      have S1089 := S1064.call hB1087
      refine ⟨_, rfl, (((Hp.le.refl _)).trans S1089.le), ?_⟩
      refine T_re (v' := hV (Go.Au.climb i.toNat x p (k + 1))) (congrArg (fun q => hV q) (climb_even (by omega) (Go.Au.climb_len _ hx _ _))) ?_
      refine T_nil ?_
      refine TT_step rfl ?_
      refine T_callS rfl rfl g_aumbry_aumbryref07_Node rfl rfl rfl rfl ((nodeR_ok S1089.le (Go.Au.climb_len _ hy _ _) hl1074).mono ?_)
      rintro e w1091 ⟨rfl, hB1090⟩
      have S1092 := S1089.call hB1090
      refine ⟨_, rfl, (((Hp.le.refl _)).trans S1092.le), ?_⟩
      refine T_re (v' := hV (Go.Au.climb i.toNat y q (k + 1))) (congrArg (fun q => hV q) (climb_even (by omega) (Go.Au.climb_len _ hy _ _))) ?_
      refine T_nil ?_
      refine TT_step rfl ?_
      refine T_storeFS 8 S1092 (fun _ h => ((Hp.le.refl _)).trans h) rfl rfl rfl rfl rfl rfl rfl rfl rfl (hVs (Go.Au.climb_len _ hx _ _)) ((hVs (Go.Au.climb_len _ hx _ _)).trans (hVs (Go.Au.climb_len _ hx _ _)).symm) (one_hA _) fun w1093 S1094 => ?_
      refine T_nil ?_
      refine TT_step rfl ?_
      refine T_storeFS 7 S1094 (fun _ h => ((Hp.le.refl _)).trans h) rfl rfl rfl rfl rfl rfl rfl rfl rfl (hVs (Go.Au.climb_len _ hy _ _)) ((hVs (Go.Au.climb_len _ hy _ _)).trans (hVs (Go.Au.climb_len _ hy _ _)).symm) (one_hA _) fun w1095 S1096 => ?_
      refine T_nil ?_
      refine TT_done ?_
      refine W_region ?_
      refine T_pev rfl rfl rfl rfl ?_
      refine T_quo rfl rfl rfl rfl rfl rfl (by omega) ?_
      refine T_re (v' := .int .i64 ((i.toNat / 2 ^ (k + 1) : Nat) : Int)) (congrArg (Value.int .i64) (half_int _ _)) ?_
      refine T_pev rfl rfl rfl rfl ?_
      refine T_nil ?_
      refine W_region ?_
      refine T_ari rfl rfl rfl rfl (by omega) ?_
      refine T_pev rfl rfl rfl rfl ?_
      refine T_nil ?_
      have S1097 := S1096.drop 1
      have S1098 := S1097.drop 0
      exact ⟨p.length - (k + 1), [(1, .int .i64 ((i.toNat / 2 ^ (k + 1) : Nat) : Int)), (4, .slice aa4 p.length cc4), (5, .slice aa5 q.length cc5), (8, .pointer (some ⟨b1, 0, none⟩)), (9, .pointer (some ⟨b4, 0, none⟩)), (12, .pointer (some ⟨b7, 0, none⟩)), (18, .slice a1034 (k + 1) c1035), (19, .slice a1058 (k + 1) c1059), (62, .int .i64 ((p.length : Nat) : Int)), (63, .int .i64 ((k + 1 : Nat) : Int))], by omega, ⟨(congrArg (fun z => some (Value.int .i64 z)) (by omega)), rfl, rfl, rfl, rfl, rfl, rfl, rfl, (congrArg (fun z => some (Value.int .i64 z)) (by omega)), (congrArg (fun z => some (Value.int .i64 z)) (by omega)), trivial⟩, k + 1, a1034, c1035, _, a1058, c1059, _, G1052, rfl, (by omega), rfl, (hl764.trans (hl1029.trans hl1053)), S1098, (rs1039.mono hl1053), hc1037, rs1063, hc1061⟩
    refine W_seq ?_
    refine W_tree (planF Tryd.prog G763 [112]) (.step 0 (.step 1 (.step 2 (.step 3 (.step 4 (.step 5 (.step 9 (.step 10 (.step 11 (.step 12 (.step 13 (.fork 6 14 (.fork 7 14 (.fork 8 14 (.step 14 (.step 15 (.step 16 (.step 17 (.step 18 (.step 19 .done)))))) (.step 8 (.step 15 (.step 16 (.step 17 (.step 18 (.step 19 .done))))))) (.step 7 (.step 8 (.step 15 (.step 16 (.step 17 (.step 18 (.step 19 .done)))))))) (.step 6 (.step 7 (.step 8 (.step 15 (.step 16 (.step 17 (.step 18 (.step 19 .done)))))))))))))))))))) rfl (by kernel_rfl) S776.le ?_
    have S1099 := S776.drew
    refine TT_step rfl ?_
    refine T_pev rfl rfl rfl rfl ?_
    refine T_nil ?_
    refine TT_step rfl ?_
    refine T_pev rfl rfl rfl rfl ?_
    refine T_nil ?_
    refine TT_step rfl ?_
    refine T_pev rfl rfl rfl rfl ?_
    refine T_nil ?_
    refine TT_step rfl ?_
    refine T_idxR k (hp.mono hl764).2 rfl rfl rfl rfl rfl rfl rfl rfl rfl (by omega) (by omega) fun b1100 o1101 hc1102 => ?_
    have hc1103 := cells_h (hp.mono hl764).1 k (by omega) hc1102
    have hl1104 := len_h (hp.mono hl764).1 k (by omega)
    refine T_nil ?_
    refine TT_step rfl ?_
    refine T_loadGA _ S1099 hc1103 rfl rfl rfl rfl rfl rfl rfl rfl (hVs hl1104) ?_
    refine T_nil ?_
    refine TT_step rfl ?_
    refine T_loadFS 6 S1099 rfl rfl rfl rfl rfl rfl rfl rfl rfl (hVs (Go.Au.climb_len _ hx _ _)) ?_
    refine T_nil ?_
    refine TT_step rfl ?_
    refine T_pev rfl rfl rfl rfl ?_
    refine T_nil ?_
    refine TT_step rfl ?_
    refine T_pev rfl rfl rfl rfl ?_
    refine T_nil ?_
    refine TT_step rfl ?_
    refine T_pev rfl rfl rfl rfl ?_
    refine T_nil ?_
    refine TT_step rfl ?_
    refine T_idxR k (hq.mono hl764).2 rfl rfl rfl rfl rfl rfl rfl rfl rfl (by omega) (by omega) fun b1105 o1106 hc1107 => ?_
    have hc1108 := cells_h (hq.mono hl764).1 k (by omega) hc1107
    have hl1109 := len_h (hq.mono hl764).1 k (by omega)
    refine T_nil ?_
    refine TT_step rfl ?_
    refine T_loadGAP _ (fun _ h => h) hc1108 rfl rfl rfl rfl rfl rfl rfl rfl (hVs hl1109) ?_
    refine T_nil ?_
    refine TT_fork rfl rfl ?_ ?_
    · refine T_callS rfl rfl g_aumbry_aumbryref07_nodeText rfl rfl rfl rfl ((ntextR_ok S1099.le hl1104 (Go.Au.climb_len _ hx _ _)).mono ?_)
      rintro e w1115 ⟨a1110, c1111, hc1112, rfl, ho1113, hB1114⟩
      have S1116 := S1099.own hB1114 ho1113
      refine ⟨_, rfl, (((Hp.le.refl _)).trans S1116.le), ?_⟩
      refine T_nil ?_
      refine TT_fork rfl rfl ?_ ?_
      · obtain ⟨G1122, hl1123, S1121, r1124⟩ := S1116.stillRow 0 rfl
        have rs1125 : Rds G1122 [.slice a1110 ((Go.Au.text [110, 111, 100, 101] [(p.getD k []), (Go.Au.climb i.toNat x p k)]).length) c1111] [Go.Au.text [110, 111, 100, 101] [(p.getD k []), (Go.Au.climb i.toNat x p k)]] := Rds.cons (Rd.canonB r1124) (Rds.nil _)
        refine T_litS [.slice a1110 ((Go.Au.text [110, 111, 100, 101] [(p.getD k []), (Go.Au.climb i.toNat x p k)]).length) c1111] rfl rfl rfl rfl rfl rfl rfl rfl rfl rfl rfl rfl rfl (by simp [Value.cells]; rfl) rfl fun a1117 w1118 hB1119 ho1120 => ?_
        have S1126 := S1121.own hB1119 ho1120
        refine ⟨((hl1123).trans S1126.le), ?_⟩
        refine T_nil ?_
        refine TT_fork rfl rfl ?_ ?_
        · have hD1127 : (Go.Au.wtexts i.toNat x p k ++ [Go.Au.text [110, 111, 100, 101] [(p.getD k []), (Go.Au.climb i.toNat x p k)]]) = Go.Au.wtexts i.toNat x p (k + 1) := (wts_odd (by omega) (len_h hp.1 k (by omega)))
          refine T_appendS 2 (k + 1) _ S1126 (fun _ h => (hl1123).trans h) rfl rfl rfl rfl rfl rfl rfl rfl rfl rfl rfl rfl rfl rfl (S1126.rd 0 rfl) rs1125.one (by first | rfl | (simp; done) | (simp; omega) | omega) rfl (by unfold maxLen; omega) (by show _ * 24 ≤ _; omega) fun a1128 c1129 w1130 hc1131 S1132 => ?_
          have rs1133 := Rds.append (rs769.mono hl1123) rs1125
          rw [hD1127] at rs1133
          refine T_nil ?_
          refine TT_step rfl ?_
          refine T_loadFS 6 S1132 rfl rfl rfl rfl rfl rfl rfl rfl rfl (hVs (Go.Au.climb_len _ hy _ _)) ?_
          refine T_nil ?_
          refine TT_step rfl ?_
          refine T_callS rfl rfl g_aumbry_aumbryref07_nodeText rfl rfl rfl rfl ((ntextR_ok S1132.le hl1109 (Go.Au.climb_len _ hy _ _)).mono ?_)
          rintro e w1139 ⟨a1134, c1135, hc1136, rfl, ho1137, hB1138⟩
          have S1140 := S1132.own hB1138 ho1137
          refine ⟨_, rfl, ((hl1123).trans S1140.le), ?_⟩
          refine T_nil ?_
          refine TT_step rfl ?_
          obtain ⟨G1146, hl1147, S1145, r1148⟩ := S1140.stillRow 0 rfl
          have rs1149 : Rds G1146 [.slice a1134 ((Go.Au.text [110, 111, 100, 101] [(q.getD k []), (Go.Au.climb i.toNat y q k)]).length) c1135] [Go.Au.text [110, 111, 100, 101] [(q.getD k []), (Go.Au.climb i.toNat y q k)]] := Rds.cons (Rd.canonB r1148) (Rds.nil _)
          refine T_litS [.slice a1134 ((Go.Au.text [110, 111, 100, 101] [(q.getD k []), (Go.Au.climb i.toNat y q k)]).length) c1135] rfl rfl rfl rfl rfl rfl rfl rfl rfl rfl rfl rfl rfl (by simp [Value.cells]; rfl) rfl fun a1141 w1142 hB1143 ho1144 => ?_
          have S1150 := S1145.own hB1143 ho1144
          refine ⟨(((hl1123.trans hl1147)).trans S1150.le), ?_⟩
          refine T_nil ?_
          refine TT_step rfl ?_
          have hD1151 : (Go.Au.wtexts i.toNat y q k ++ [Go.Au.text [110, 111, 100, 101] [(q.getD k []), (Go.Au.climb i.toNat y q k)]]) = Go.Au.wtexts i.toNat y q (k + 1) := (wts_odd (by omega) (len_h hq.1 k (by omega)))
          refine T_appendS 2 (k + 1) _ S1150 (fun _ h => ((hl1123.trans hl1147)).trans h) rfl rfl rfl rfl rfl rfl rfl rfl rfl rfl rfl rfl rfl rfl (S1150.rd 0 rfl) rs1149.one (by first | rfl | (simp; done) | (simp; omega) | omega) rfl (by unfold maxLen; omega) (by show _ * 24 ≤ _; omega) fun a1152 c1153 w1154 hc1155 S1156 => ?_
          have rs1157 := Rds.append (rs774.mono (hl1123.trans hl1147)) rs1149
          rw [hD1151] at rs1157
          refine T_nil ?_
          refine TT_step rfl ?_
          refine T_pev rfl rfl rfl rfl ?_
          refine T_nil ?_
          refine TT_step rfl ?_
          refine T_pev rfl rfl rfl rfl ?_
          refine T_nil ?_
          refine TT_done ?_
          refine W_tree (planF Tryd.prog G1146 [126]) (.step 0 (.step 1 (.step 2 (.step 3 (.step 4 (.step 6 (.step 7 (.step 8 (.step 9 (.fork 5 10 (.step 10 (.step 11 (.step 12 (.step 13 .done)))) (.step 5 (.step 11 (.step 12 (.step 13 .done)))))))))))))) rfl (by kernel_rfl) S1156.le ?_
          have S1158 := S1156.drew
          refine TT_step rfl ?_
          refine T_pev rfl rfl rfl rfl ?_
          refine T_nil ?_
          refine TT_step rfl ?_
          refine T_pev rfl rfl rfl rfl ?_
          refine T_nil ?_
          refine TT_step rfl ?_
          refine T_idxR k (hp.mono (hl764.trans (hl1123.trans hl1147))).2 rfl rfl rfl rfl rfl rfl rfl rfl rfl (by omega) (by omega) fun b1159 o1160 hc1161 => ?_
          have hc1162 := cells_h (hp.mono (hl764.trans (hl1123.trans hl1147))).1 k (by omega) hc1161
          have hl1163 := len_h (hp.mono (hl764.trans (hl1123.trans hl1147))).1 k (by omega)
          refine T_nil ?_
          refine TT_step rfl ?_
          refine T_loadGA _ S1158 hc1162 rfl rfl rfl rfl rfl rfl rfl rfl (hVs hl1163) ?_
          refine T_nil ?_
          refine TT_step rfl ?_
          refine T_loadFS 8 S1158 rfl rfl rfl rfl rfl rfl rfl rfl rfl (hVs (Go.Au.climb_len _ hx _ _)) ?_
          refine T_nil ?_
          refine TT_step rfl ?_
          refine T_pev rfl rfl rfl rfl ?_
          refine T_nil ?_
          refine TT_step rfl ?_
          refine T_pev rfl rfl rfl rfl ?_
          refine T_nil ?_
          refine TT_step rfl ?_
          refine T_idxR k (hq.mono (hl764.trans (hl1123.trans hl1147))).2 rfl rfl rfl rfl rfl rfl rfl rfl rfl (by omega) (by omega) fun b1164 o1165 hc1166 => ?_
          have hc1167 := cells_h (hq.mono (hl764.trans (hl1123.trans hl1147))).1 k (by omega) hc1166
          have hl1168 := len_h (hq.mono (hl764.trans (hl1123.trans hl1147))).1 k (by omega)
          refine T_nil ?_
          refine TT_step rfl ?_
          refine T_loadGAP _ (fun _ h => h) hc1167 rfl rfl rfl rfl rfl rfl rfl rfl (hVs hl1168) ?_
          refine T_nil ?_
          refine TT_fork rfl rfl ?_ ?_
          · refine T_callS rfl rfl g_aumbry_aumbryref07_Node rfl rfl rfl rfl ((nodeR_ok S1158.le hl1163 (Go.Au.climb_len _ hx _ _)).mono ?_)
            rintro e w1170 ⟨rfl, hB1169⟩
            have S1171 := S1158.call hB1169
            refine ⟨_, rfl, (((Hp.le.refl _)).trans S1171.le), ?_⟩
            refine T_re (v' := hV (Go.Au.climb i.toNat x p (k + 1))) (congrArg (fun q => hV q) (climb_odd (by omega) (len_h hp.1 k (by omega)))) ?_
            refine T_nil ?_
            refine TT_step rfl ?_
            refine T_loadFS 7 S1171 rfl rfl rfl rfl rfl rfl rfl rfl rfl (hVs (Go.Au.climb_len _ hy _ _)) ?_
            refine T_nil ?_
            refine TT_step rfl ?_
            refine T_callS rfl rfl g_aumbry_aumbryref07_Node rfl rfl rfl rfl ((nodeR_ok S1171.le hl1168 (Go.Au.climb_len _ hy _ _)).mono ?_)
            rintro e w1173 ⟨rfl, hB1172⟩
            have S1174 := S1171.call hB1172
            refine ⟨_, rfl, (((Hp.le.refl _)).trans S1174.le), ?_⟩
            refine T_re (v' := hV (Go.Au.climb i.toNat y q (k + 1))) (congrArg (fun q => hV q) (climb_odd (by omega) (len_h hq.1 k (by omega)))) ?_
            refine T_nil ?_
            refine TT_step rfl ?_
            refine T_storeFS 8 S1174 (fun _ h => ((Hp.le.refl _)).trans h) rfl rfl rfl rfl rfl rfl rfl rfl rfl (hVs (Go.Au.climb_len _ hx _ _)) ((hVs (Go.Au.climb_len _ hx _ _)).trans (hVs (Go.Au.climb_len _ hx _ _)).symm) (one_hA _) fun w1175 S1176 => ?_
            refine T_nil ?_
            refine TT_step rfl ?_
            refine T_storeFS 7 S1176 (fun _ h => ((Hp.le.refl _)).trans h) rfl rfl rfl rfl rfl rfl rfl rfl rfl (hVs (Go.Au.climb_len _ hy _ _)) ((hVs (Go.Au.climb_len _ hy _ _)).trans (hVs (Go.Au.climb_len _ hy _ _)).symm) (one_hA _) fun w1177 S1178 => ?_
            refine T_nil ?_
            refine TT_done ?_
            refine W_region ?_
            refine T_pev rfl rfl rfl rfl ?_
            refine T_quo rfl rfl rfl rfl rfl rfl (by omega) ?_
            refine T_re (v' := .int .i64 ((i.toNat / 2 ^ (k + 1) : Nat) : Int)) (congrArg (Value.int .i64) (half_int _ _)) ?_
            refine T_pev rfl rfl rfl rfl ?_
            refine T_nil ?_
            refine W_region ?_
            refine T_ari rfl rfl rfl rfl (by omega) ?_
            refine T_pev rfl rfl rfl rfl ?_
            refine T_nil ?_
            have S1179 := S1178.drop 1
            have S1180 := S1179.drop 0
            exact ⟨p.length - (k + 1), [(1, .int .i64 ((i.toNat / 2 ^ (k + 1) : Nat) : Int)), (4, .slice aa4 p.length cc4), (5, .slice aa5 q.length cc5), (8, .pointer (some ⟨b1, 0, none⟩)), (9, .pointer (some ⟨b4, 0, none⟩)), (12, .pointer (some ⟨b7, 0, none⟩)), (18, .slice a1128 (k + 1) c1129), (19, .slice a1152 (k + 1) c1153), (62, .int .i64 ((p.length : Nat) : Int)), (63, .int .i64 ((k + 1 : Nat) : Int))], by omega, ⟨(congrArg (fun z => some (Value.int .i64 z)) (by omega)), rfl, rfl, rfl, rfl, rfl, rfl, rfl, (congrArg (fun z => some (Value.int .i64 z)) (by omega)), (congrArg (fun z => some (Value.int .i64 z)) (by omega)), trivial⟩, k + 1, a1128, c1129, _, a1152, c1153, _, G1146, rfl, (by omega), rfl, (hl764.trans (hl1123.trans hl1147)), S1180, (rs1133.mono hl1147), hc1131, rs1157, hc1155⟩
          refine T_loadFS 7 S1158 rfl rfl rfl rfl rfl rfl rfl rfl rfl (hVs (Go.Au.climb_len _ hy _ _)) ?_
          refine T_nil ?_
          refine TT_step rfl ?_
          refine T_callS rfl rfl g_aumbry_aumbryref07_Node rfl rfl rfl rfl ((nodeR_ok S1158.le hl1163 (Go.Au.climb_len _ hx _ _)).mono ?_)
          rintro e w1182 ⟨rfl, hB1181⟩
          have S1183 := S1158.call hB1181
          refine ⟨_, rfl, (((Hp.le.refl _)).trans S1183.le), ?_⟩
          refine T_re (v' := hV (Go.Au.climb i.toNat x p (k + 1))) (congrArg (fun q => hV q) (climb_odd (by omega) (len_h hp.1 k (by omega)))) ?_
          refine T_nil ?_
          refine TT_step rfl ?_
          refine T_callS rfl rfl g_aumbry_aumbryref07_Node rfl rfl rfl rfl ((nodeR_ok S1183.le hl1168 (Go.Au.climb_len _ hy _ _)).mono ?_)
          rintro e w1185 ⟨rfl, hB1184⟩
          have S1186 := S1183.call hB1184
          refine ⟨_, rfl, (((Hp.le.refl _)).trans S1186.le), ?_⟩
          refine T_re (v' := hV (Go.Au.climb i.toNat y q (k + 1))) (congrArg (fun q => hV q) (climb_odd (by omega) (len_h hq.1 k (by omega)))) ?_
          refine T_nil ?_
          refine TT_step rfl ?_
          refine T_storeFS 8 S1186 (fun _ h => ((Hp.le.refl _)).trans h) rfl rfl rfl rfl rfl rfl rfl rfl rfl (hVs (Go.Au.climb_len _ hx _ _)) ((hVs (Go.Au.climb_len _ hx _ _)).trans (hVs (Go.Au.climb_len _ hx _ _)).symm) (one_hA _) fun w1187 S1188 => ?_
          refine T_nil ?_
          refine TT_step rfl ?_
          refine T_storeFS 7 S1188 (fun _ h => ((Hp.le.refl _)).trans h) rfl rfl rfl rfl rfl rfl rfl rfl rfl (hVs (Go.Au.climb_len _ hy _ _)) ((hVs (Go.Au.climb_len _ hy _ _)).trans (hVs (Go.Au.climb_len _ hy _ _)).symm) (one_hA _) fun w1189 S1190 => ?_
          refine T_nil ?_
          refine TT_done ?_
          refine W_region ?_
          refine T_pev rfl rfl rfl rfl ?_
          refine T_quo rfl rfl rfl rfl rfl rfl (by omega) ?_
          refine T_re (v' := .int .i64 ((i.toNat / 2 ^ (k + 1) : Nat) : Int)) (congrArg (Value.int .i64) (half_int _ _)) ?_
          refine T_pev rfl rfl rfl rfl ?_
          refine T_nil ?_
          refine W_region ?_
          refine T_ari rfl rfl rfl rfl (by omega) ?_
          refine T_pev rfl rfl rfl rfl ?_
          refine T_nil ?_
          have S1191 := S1190.drop 1
          have S1192 := S1191.drop 0
          exact ⟨p.length - (k + 1), [(1, .int .i64 ((i.toNat / 2 ^ (k + 1) : Nat) : Int)), (4, .slice aa4 p.length cc4), (5, .slice aa5 q.length cc5), (8, .pointer (some ⟨b1, 0, none⟩)), (9, .pointer (some ⟨b4, 0, none⟩)), (12, .pointer (some ⟨b7, 0, none⟩)), (18, .slice a1128 (k + 1) c1129), (19, .slice a1152 (k + 1) c1153), (62, .int .i64 ((p.length : Nat) : Int)), (63, .int .i64 ((k + 1 : Nat) : Int))], by omega, ⟨(congrArg (fun z => some (Value.int .i64 z)) (by omega)), rfl, rfl, rfl, rfl, rfl, rfl, rfl, (congrArg (fun z => some (Value.int .i64 z)) (by omega)), (congrArg (fun z => some (Value.int .i64 z)) (by omega)), trivial⟩, k + 1, a1128, c1129, _, a1152, c1153, _, G1146, rfl, (by omega), rfl, (hl764.trans (hl1123.trans hl1147)), S1192, (rs1133.mono hl1147), hc1131, rs1157, hc1155⟩
        refine T_loadFS 6 S1126 rfl rfl rfl rfl rfl rfl rfl rfl rfl (hVs (Go.Au.climb_len _ hy _ _)) ?_
        refine T_nil ?_
        refine TT_step rfl ?_
        have hD1193 : (Go.Au.wtexts i.toNat x p k ++ [Go.Au.text [110, 111, 100, 101] [(p.getD k []), (Go.Au.climb i.toNat x p k)]]) = Go.Au.wtexts i.toNat x p (k + 1) := (wts_odd (by omega) (len_h hp.1 k (by omega)))
        refine T_appendS 2 (k + 1) _ S1126 (fun _ h => (hl1123).trans h) rfl rfl rfl rfl rfl rfl rfl rfl rfl rfl rfl rfl rfl rfl (S1126.rd 0 rfl) rs1125.one (by first | rfl | (simp; done) | (simp; omega) | omega) rfl (by unfold maxLen; omega) (by show _ * 24 ≤ _; omega) fun a1194 c1195 w1196 hc1197 S1198 => ?_
        have rs1199 := Rds.append (rs769.mono hl1123) rs1125
        rw [hD1193] at rs1199
        refine T_nil ?_
        refine TT_step rfl ?_
        refine T_callS rfl rfl g_aumbry_aumbryref07_nodeText rfl rfl rfl rfl ((ntextR_ok S1198.le hl1109 (Go.Au.climb_len _ hy _ _)).mono ?_)
        rintro e w1205 ⟨a1200, c1201, hc1202, rfl, ho1203, hB1204⟩
        have S1206 := S1198.own hB1204 ho1203
        refine ⟨_, rfl, ((hl1123).trans S1206.le), ?_⟩
        refine T_nil ?_
        refine TT_step rfl ?_
        obtain ⟨G1212, hl1213, S1211, r1214⟩ := S1206.stillRow 0 rfl
        have rs1215 : Rds G1212 [.slice a1200 ((Go.Au.text [110, 111, 100, 101] [(q.getD k []), (Go.Au.climb i.toNat y q k)]).length) c1201] [Go.Au.text [110, 111, 100, 101] [(q.getD k []), (Go.Au.climb i.toNat y q k)]] := Rds.cons (Rd.canonB r1214) (Rds.nil _)
        refine T_litS [.slice a1200 ((Go.Au.text [110, 111, 100, 101] [(q.getD k []), (Go.Au.climb i.toNat y q k)]).length) c1201] rfl rfl rfl rfl rfl rfl rfl rfl rfl rfl rfl rfl rfl (by simp [Value.cells]; rfl) rfl fun a1207 w1208 hB1209 ho1210 => ?_
        have S1216 := S1211.own hB1209 ho1210
        refine ⟨(((hl1123.trans hl1213)).trans S1216.le), ?_⟩
        refine T_nil ?_
        refine TT_step rfl ?_
        have hD1217 : (Go.Au.wtexts i.toNat y q k ++ [Go.Au.text [110, 111, 100, 101] [(q.getD k []), (Go.Au.climb i.toNat y q k)]]) = Go.Au.wtexts i.toNat y q (k + 1) := (wts_odd (by omega) (len_h hq.1 k (by omega)))
        refine T_appendS 2 (k + 1) _ S1216 (fun _ h => ((hl1123.trans hl1213)).trans h) rfl rfl rfl rfl rfl rfl rfl rfl rfl rfl rfl rfl rfl rfl (S1216.rd 0 rfl) rs1215.one (by first | rfl | (simp; done) | (simp; omega) | omega) rfl (by unfold maxLen; omega) (by show _ * 24 ≤ _; omega) fun a1218 c1219 w1220 hc1221 S1222 => ?_
        have rs1223 := Rds.append (rs774.mono (hl1123.trans hl1213)) rs1215
        rw [hD1217] at rs1223
        refine T_nil ?_
        refine TT_step rfl ?_
        refine T_pev rfl rfl rfl rfl ?_
        refine T_nil ?_
        refine TT_step rfl ?_
        refine T_pev rfl rfl rfl rfl ?_
        refine T_nil ?_
        refine TT_done ?_
        refine W_tree (planF Tryd.prog G1212 [126]) (.step 0 (.step 1 (.step 2 (.step 3 (.step 4 (.step 6 (.step 7 (.step 8 (.step 9 (.fork 5 10 (.step 10 (.step 11 (.step 12 (.step 13 .done)))) (.step 5 (.step 11 (.step 12 (.step 13 .done)))))))))))))) rfl (by kernel_rfl) S1222.le ?_
        have S1224 := S1222.drew
        refine TT_step rfl ?_
        refine T_pev rfl rfl rfl rfl ?_
        refine T_nil ?_
        refine TT_step rfl ?_
        refine T_pev rfl rfl rfl rfl ?_
        refine T_nil ?_
        refine TT_step rfl ?_
        refine T_idxR k (hp.mono (hl764.trans (hl1123.trans hl1213))).2 rfl rfl rfl rfl rfl rfl rfl rfl rfl (by omega) (by omega) fun b1225 o1226 hc1227 => ?_
        have hc1228 := cells_h (hp.mono (hl764.trans (hl1123.trans hl1213))).1 k (by omega) hc1227
        have hl1229 := len_h (hp.mono (hl764.trans (hl1123.trans hl1213))).1 k (by omega)
        refine T_nil ?_
        refine TT_step rfl ?_
        refine T_loadGA _ S1224 hc1228 rfl rfl rfl rfl rfl rfl rfl rfl (hVs hl1229) ?_
        refine T_nil ?_
        refine TT_step rfl ?_
        refine T_loadFS 8 S1224 rfl rfl rfl rfl rfl rfl rfl rfl rfl (hVs (Go.Au.climb_len _ hx _ _)) ?_
        refine T_nil ?_
        refine TT_step rfl ?_
        refine T_pev rfl rfl rfl rfl ?_
        refine T_nil ?_
        refine TT_step rfl ?_
        refine T_pev rfl rfl rfl rfl ?_
        refine T_nil ?_
        refine TT_step rfl ?_
        refine T_idxR k (hq.mono (hl764.trans (hl1123.trans hl1213))).2 rfl rfl rfl rfl rfl rfl rfl rfl rfl (by omega) (by omega) fun b1230 o1231 hc1232 => ?_
        have hc1233 := cells_h (hq.mono (hl764.trans (hl1123.trans hl1213))).1 k (by omega) hc1232
        have hl1234 := len_h (hq.mono (hl764.trans (hl1123.trans hl1213))).1 k (by omega)
        refine T_nil ?_
        refine TT_step rfl ?_
        refine T_loadGAP _ (fun _ h => h) hc1233 rfl rfl rfl rfl rfl rfl rfl rfl (hVs hl1234) ?_
        refine T_nil ?_
        refine TT_fork rfl rfl ?_ ?_
        · refine T_callS rfl rfl g_aumbry_aumbryref07_Node rfl rfl rfl rfl ((nodeR_ok S1224.le hl1229 (Go.Au.climb_len _ hx _ _)).mono ?_)
          rintro e w1236 ⟨rfl, hB1235⟩
          have S1237 := S1224.call hB1235
          refine ⟨_, rfl, (((Hp.le.refl _)).trans S1237.le), ?_⟩
          refine T_re (v' := hV (Go.Au.climb i.toNat x p (k + 1))) (congrArg (fun q => hV q) (climb_odd (by omega) (len_h hp.1 k (by omega)))) ?_
          refine T_nil ?_
          refine TT_step rfl ?_
          refine T_loadFS 7 S1237 rfl rfl rfl rfl rfl rfl rfl rfl rfl (hVs (Go.Au.climb_len _ hy _ _)) ?_
          refine T_nil ?_
          refine TT_step rfl ?_
          refine T_callS rfl rfl g_aumbry_aumbryref07_Node rfl rfl rfl rfl ((nodeR_ok S1237.le hl1234 (Go.Au.climb_len _ hy _ _)).mono ?_)
          rintro e w1239 ⟨rfl, hB1238⟩
          have S1240 := S1237.call hB1238
          refine ⟨_, rfl, (((Hp.le.refl _)).trans S1240.le), ?_⟩
          refine T_re (v' := hV (Go.Au.climb i.toNat y q (k + 1))) (congrArg (fun q => hV q) (climb_odd (by omega) (len_h hq.1 k (by omega)))) ?_
          refine T_nil ?_
          refine TT_step rfl ?_
          refine T_storeFS 8 S1240 (fun _ h => ((Hp.le.refl _)).trans h) rfl rfl rfl rfl rfl rfl rfl rfl rfl (hVs (Go.Au.climb_len _ hx _ _)) ((hVs (Go.Au.climb_len _ hx _ _)).trans (hVs (Go.Au.climb_len _ hx _ _)).symm) (one_hA _) fun w1241 S1242 => ?_
          refine T_nil ?_
          refine TT_step rfl ?_
          refine T_storeFS 7 S1242 (fun _ h => ((Hp.le.refl _)).trans h) rfl rfl rfl rfl rfl rfl rfl rfl rfl (hVs (Go.Au.climb_len _ hy _ _)) ((hVs (Go.Au.climb_len _ hy _ _)).trans (hVs (Go.Au.climb_len _ hy _ _)).symm) (one_hA _) fun w1243 S1244 => ?_
          refine T_nil ?_
          refine TT_done ?_
          refine W_region ?_
          refine T_pev rfl rfl rfl rfl ?_
          refine T_quo rfl rfl rfl rfl rfl rfl (by omega) ?_
          refine T_re (v' := .int .i64 ((i.toNat / 2 ^ (k + 1) : Nat) : Int)) (congrArg (Value.int .i64) (half_int _ _)) ?_
          refine T_pev rfl rfl rfl rfl ?_
          refine T_nil ?_
          refine W_region ?_
          refine T_ari rfl rfl rfl rfl (by omega) ?_
          refine T_pev rfl rfl rfl rfl ?_
          refine T_nil ?_
          have S1245 := S1244.drop 1
          have S1246 := S1245.drop 0
          exact ⟨p.length - (k + 1), [(1, .int .i64 ((i.toNat / 2 ^ (k + 1) : Nat) : Int)), (4, .slice aa4 p.length cc4), (5, .slice aa5 q.length cc5), (8, .pointer (some ⟨b1, 0, none⟩)), (9, .pointer (some ⟨b4, 0, none⟩)), (12, .pointer (some ⟨b7, 0, none⟩)), (18, .slice a1194 (k + 1) c1195), (19, .slice a1218 (k + 1) c1219), (62, .int .i64 ((p.length : Nat) : Int)), (63, .int .i64 ((k + 1 : Nat) : Int))], by omega, ⟨(congrArg (fun z => some (Value.int .i64 z)) (by omega)), rfl, rfl, rfl, rfl, rfl, rfl, rfl, (congrArg (fun z => some (Value.int .i64 z)) (by omega)), (congrArg (fun z => some (Value.int .i64 z)) (by omega)), trivial⟩, k + 1, a1194, c1195, _, a1218, c1219, _, G1212, rfl, (by omega), rfl, (hl764.trans (hl1123.trans hl1213)), S1246, (rs1199.mono hl1213), hc1197, rs1223, hc1221⟩
        refine T_loadFS 7 S1224 rfl rfl rfl rfl rfl rfl rfl rfl rfl (hVs (Go.Au.climb_len _ hy _ _)) ?_
        refine T_nil ?_
        refine TT_step rfl ?_
        refine T_callS rfl rfl g_aumbry_aumbryref07_Node rfl rfl rfl rfl ((nodeR_ok S1224.le hl1229 (Go.Au.climb_len _ hx _ _)).mono ?_)
        rintro e w1248 ⟨rfl, hB1247⟩
        have S1249 := S1224.call hB1247
        refine ⟨_, rfl, (((Hp.le.refl _)).trans S1249.le), ?_⟩
        refine T_re (v' := hV (Go.Au.climb i.toNat x p (k + 1))) (congrArg (fun q => hV q) (climb_odd (by omega) (len_h hp.1 k (by omega)))) ?_
        refine T_nil ?_
        refine TT_step rfl ?_
        refine T_callS rfl rfl g_aumbry_aumbryref07_Node rfl rfl rfl rfl ((nodeR_ok S1249.le hl1234 (Go.Au.climb_len _ hy _ _)).mono ?_)
        rintro e w1251 ⟨rfl, hB1250⟩
        have S1252 := S1249.call hB1250
        refine ⟨_, rfl, (((Hp.le.refl _)).trans S1252.le), ?_⟩
        refine T_re (v' := hV (Go.Au.climb i.toNat y q (k + 1))) (congrArg (fun q => hV q) (climb_odd (by omega) (len_h hq.1 k (by omega)))) ?_
        refine T_nil ?_
        refine TT_step rfl ?_
        refine T_storeFS 8 S1252 (fun _ h => ((Hp.le.refl _)).trans h) rfl rfl rfl rfl rfl rfl rfl rfl rfl (hVs (Go.Au.climb_len _ hx _ _)) ((hVs (Go.Au.climb_len _ hx _ _)).trans (hVs (Go.Au.climb_len _ hx _ _)).symm) (one_hA _) fun w1253 S1254 => ?_
        refine T_nil ?_
        refine TT_step rfl ?_
        refine T_storeFS 7 S1254 (fun _ h => ((Hp.le.refl _)).trans h) rfl rfl rfl rfl rfl rfl rfl rfl rfl (hVs (Go.Au.climb_len _ hy _ _)) ((hVs (Go.Au.climb_len _ hy _ _)).trans (hVs (Go.Au.climb_len _ hy _ _)).symm) (one_hA _) fun w1255 S1256 => ?_
        refine T_nil ?_
        refine TT_done ?_
        refine W_region ?_
        refine T_pev rfl rfl rfl rfl ?_
        refine T_quo rfl rfl rfl rfl rfl rfl (by omega) ?_
        refine T_re (v' := .int .i64 ((i.toNat / 2 ^ (k + 1) : Nat) : Int)) (congrArg (Value.int .i64) (half_int _ _)) ?_
        refine T_pev rfl rfl rfl rfl ?_
        refine T_nil ?_
        refine W_region ?_
        refine T_ari rfl rfl rfl rfl (by omega) ?_
        refine T_pev rfl rfl rfl rfl ?_
        refine T_nil ?_
        have S1257 := S1256.drop 1
        have S1258 := S1257.drop 0
        exact ⟨p.length - (k + 1), [(1, .int .i64 ((i.toNat / 2 ^ (k + 1) : Nat) : Int)), (4, .slice aa4 p.length cc4), (5, .slice aa5 q.length cc5), (8, .pointer (some ⟨b1, 0, none⟩)), (9, .pointer (some ⟨b4, 0, none⟩)), (12, .pointer (some ⟨b7, 0, none⟩)), (18, .slice a1194 (k + 1) c1195), (19, .slice a1218 (k + 1) c1219), (62, .int .i64 ((p.length : Nat) : Int)), (63, .int .i64 ((k + 1 : Nat) : Int))], by omega, ⟨(congrArg (fun z => some (Value.int .i64 z)) (by omega)), rfl, rfl, rfl, rfl, rfl, rfl, rfl, (congrArg (fun z => some (Value.int .i64 z)) (by omega)), (congrArg (fun z => some (Value.int .i64 z)) (by omega)), trivial⟩, k + 1, a1194, c1195, _, a1218, c1219, _, G1212, rfl, (by omega), rfl, (hl764.trans (hl1123.trans hl1213)), S1258, (rs1199.mono hl1213), hc1197, rs1223, hc1221⟩
      refine T_loadFS 6 S1116 rfl rfl rfl rfl rfl rfl rfl rfl rfl (hVs (Go.Au.climb_len _ hy _ _)) ?_
      refine T_nil ?_
      refine TT_step rfl ?_
      obtain ⟨G1264, hl1265, S1263, r1266⟩ := S1116.stillRow 0 rfl
      have rs1267 : Rds G1264 [.slice a1110 ((Go.Au.text [110, 111, 100, 101] [(p.getD k []), (Go.Au.climb i.toNat x p k)]).length) c1111] [Go.Au.text [110, 111, 100, 101] [(p.getD k []), (Go.Au.climb i.toNat x p k)]] := Rds.cons (Rd.canonB r1266) (Rds.nil _)
      refine T_litS [.slice a1110 ((Go.Au.text [110, 111, 100, 101] [(p.getD k []), (Go.Au.climb i.toNat x p k)]).length) c1111] rfl rfl rfl rfl rfl rfl rfl rfl rfl rfl rfl rfl rfl (by simp [Value.cells]; rfl) rfl fun a1259 w1260 hB1261 ho1262 => ?_
      have S1268 := S1263.own hB1261 ho1262
      refine ⟨((hl1265).trans S1268.le), ?_⟩
      refine T_nil ?_
      refine TT_step rfl ?_
      have hD1269 : (Go.Au.wtexts i.toNat x p k ++ [Go.Au.text [110, 111, 100, 101] [(p.getD k []), (Go.Au.climb i.toNat x p k)]]) = Go.Au.wtexts i.toNat x p (k + 1) := (wts_odd (by omega) (len_h hp.1 k (by omega)))
      refine T_appendS 2 (k + 1) _ S1268 (fun _ h => (hl1265).trans h) rfl rfl rfl rfl rfl rfl rfl rfl rfl rfl rfl rfl rfl rfl (S1268.rd 0 rfl) rs1267.one (by first | rfl | (simp; done) | (simp; omega) | omega) rfl (by unfold maxLen; omega) (by show _ * 24 ≤ _; omega) fun a1270 c1271 w1272 hc1273 S1274 => ?_
      have rs1275 := Rds.append (rs769.mono hl1265) rs1267
      rw [hD1269] at rs1275
      refine T_nil ?_
      refine TT_step rfl ?_
      refine T_callS rfl rfl g_aumbry_aumbryref07_nodeText rfl rfl rfl rfl ((ntextR_ok S1274.le hl1109 (Go.Au.climb_len _ hy _ _)).mono ?_)
      rintro e w1281 ⟨a1276, c1277, hc1278, rfl, ho1279, hB1280⟩
      have S1282 := S1274.own hB1280 ho1279
      refine ⟨_, rfl, ((hl1265).trans S1282.le), ?_⟩
      refine T_nil ?_
      refine TT_step rfl ?_
      obtain ⟨G1288, hl1289, S1287, r1290⟩ := S1282.stillRow 0 rfl
      have rs1291 : Rds G1288 [.slice a1276 ((Go.Au.text [110, 111, 100, 101] [(q.getD k []), (Go.Au.climb i.toNat y q k)]).length) c1277] [Go.Au.text [110, 111, 100, 101] [(q.getD k []), (Go.Au.climb i.toNat y q k)]] := Rds.cons (Rd.canonB r1290) (Rds.nil _)
      refine T_litS [.slice a1276 ((Go.Au.text [110, 111, 100, 101] [(q.getD k []), (Go.Au.climb i.toNat y q k)]).length) c1277] rfl rfl rfl rfl rfl rfl rfl rfl rfl rfl rfl rfl rfl (by simp [Value.cells]; rfl) rfl fun a1283 w1284 hB1285 ho1286 => ?_
      have S1292 := S1287.own hB1285 ho1286
      refine ⟨(((hl1265.trans hl1289)).trans S1292.le), ?_⟩
      refine T_nil ?_
      refine TT_step rfl ?_
      have hD1293 : (Go.Au.wtexts i.toNat y q k ++ [Go.Au.text [110, 111, 100, 101] [(q.getD k []), (Go.Au.climb i.toNat y q k)]]) = Go.Au.wtexts i.toNat y q (k + 1) := (wts_odd (by omega) (len_h hq.1 k (by omega)))
      refine T_appendS 2 (k + 1) _ S1292 (fun _ h => ((hl1265.trans hl1289)).trans h) rfl rfl rfl rfl rfl rfl rfl rfl rfl rfl rfl rfl rfl rfl (S1292.rd 0 rfl) rs1291.one (by first | rfl | (simp; done) | (simp; omega) | omega) rfl (by unfold maxLen; omega) (by show _ * 24 ≤ _; omega) fun a1294 c1295 w1296 hc1297 S1298 => ?_
      have rs1299 := Rds.append (rs774.mono (hl1265.trans hl1289)) rs1291
      rw [hD1293] at rs1299
      refine T_nil ?_
      refine TT_step rfl ?_
      refine T_pev rfl rfl rfl rfl ?_
      refine T_nil ?_
      refine TT_step rfl ?_
      refine T_pev rfl rfl rfl rfl ?_
      refine T_nil ?_
      refine TT_done ?_
      refine W_tree (planF Tryd.prog G1288 [126]) (.step 0 (.step 1 (.step 2 (.step 3 (.step 4 (.step 6 (.step 7 (.step 8 (.step 9 (.fork 5 10 (.step 10 (.step 11 (.step 12 (.step 13 .done)))) (.step 5 (.step 11 (.step 12 (.step 13 .done)))))))))))))) rfl (by kernel_rfl) S1298.le ?_
      have S1300 := S1298.drew
      refine TT_step rfl ?_
      refine T_pev rfl rfl rfl rfl ?_
      refine T_nil ?_
      refine TT_step rfl ?_
      refine T_pev rfl rfl rfl rfl ?_
      refine T_nil ?_
      refine TT_step rfl ?_
      refine T_idxR k (hp.mono (hl764.trans (hl1265.trans hl1289))).2 rfl rfl rfl rfl rfl rfl rfl rfl rfl (by omega) (by omega) fun b1301 o1302 hc1303 => ?_
      have hc1304 := cells_h (hp.mono (hl764.trans (hl1265.trans hl1289))).1 k (by omega) hc1303
      have hl1305 := len_h (hp.mono (hl764.trans (hl1265.trans hl1289))).1 k (by omega)
      refine T_nil ?_
      refine TT_step rfl ?_
      refine T_loadGA _ S1300 hc1304 rfl rfl rfl rfl rfl rfl rfl rfl (hVs hl1305) ?_
      refine T_nil ?_
      refine TT_step rfl ?_
      refine T_loadFS 8 S1300 rfl rfl rfl rfl rfl rfl rfl rfl rfl (hVs (Go.Au.climb_len _ hx _ _)) ?_
      refine T_nil ?_
      refine TT_step rfl ?_
      refine T_pev rfl rfl rfl rfl ?_
      refine T_nil ?_
      refine TT_step rfl ?_
      refine T_pev rfl rfl rfl rfl ?_
      refine T_nil ?_
      refine TT_step rfl ?_
      refine T_idxR k (hq.mono (hl764.trans (hl1265.trans hl1289))).2 rfl rfl rfl rfl rfl rfl rfl rfl rfl (by omega) (by omega) fun b1306 o1307 hc1308 => ?_
      have hc1309 := cells_h (hq.mono (hl764.trans (hl1265.trans hl1289))).1 k (by omega) hc1308
      have hl1310 := len_h (hq.mono (hl764.trans (hl1265.trans hl1289))).1 k (by omega)
      refine T_nil ?_
      refine TT_step rfl ?_
      refine T_loadGAP _ (fun _ h => h) hc1309 rfl rfl rfl rfl rfl rfl rfl rfl (hVs hl1310) ?_
      refine T_nil ?_
      refine TT_fork rfl rfl ?_ ?_
      · refine T_callS rfl rfl g_aumbry_aumbryref07_Node rfl rfl rfl rfl ((nodeR_ok S1300.le hl1305 (Go.Au.climb_len _ hx _ _)).mono ?_)
        rintro e w1312 ⟨rfl, hB1311⟩
        have S1313 := S1300.call hB1311
        refine ⟨_, rfl, (((Hp.le.refl _)).trans S1313.le), ?_⟩
        refine T_re (v' := hV (Go.Au.climb i.toNat x p (k + 1))) (congrArg (fun q => hV q) (climb_odd (by omega) (len_h hp.1 k (by omega)))) ?_
        refine T_nil ?_
        refine TT_step rfl ?_
        refine T_loadFS 7 S1313 rfl rfl rfl rfl rfl rfl rfl rfl rfl (hVs (Go.Au.climb_len _ hy _ _)) ?_
        refine T_nil ?_
        refine TT_step rfl ?_
        refine T_callS rfl rfl g_aumbry_aumbryref07_Node rfl rfl rfl rfl ((nodeR_ok S1313.le hl1310 (Go.Au.climb_len _ hy _ _)).mono ?_)
        rintro e w1315 ⟨rfl, hB1314⟩
        have S1316 := S1313.call hB1314
        refine ⟨_, rfl, (((Hp.le.refl _)).trans S1316.le), ?_⟩
        refine T_re (v' := hV (Go.Au.climb i.toNat y q (k + 1))) (congrArg (fun q => hV q) (climb_odd (by omega) (len_h hq.1 k (by omega)))) ?_
        refine T_nil ?_
        refine TT_step rfl ?_
        refine T_storeFS 8 S1316 (fun _ h => ((Hp.le.refl _)).trans h) rfl rfl rfl rfl rfl rfl rfl rfl rfl (hVs (Go.Au.climb_len _ hx _ _)) ((hVs (Go.Au.climb_len _ hx _ _)).trans (hVs (Go.Au.climb_len _ hx _ _)).symm) (one_hA _) fun w1317 S1318 => ?_
        refine T_nil ?_
        refine TT_step rfl ?_
        refine T_storeFS 7 S1318 (fun _ h => ((Hp.le.refl _)).trans h) rfl rfl rfl rfl rfl rfl rfl rfl rfl (hVs (Go.Au.climb_len _ hy _ _)) ((hVs (Go.Au.climb_len _ hy _ _)).trans (hVs (Go.Au.climb_len _ hy _ _)).symm) (one_hA _) fun w1319 S1320 => ?_
        refine T_nil ?_
        refine TT_done ?_
        refine W_region ?_
        refine T_pev rfl rfl rfl rfl ?_
        refine T_quo rfl rfl rfl rfl rfl rfl (by omega) ?_
        refine T_re (v' := .int .i64 ((i.toNat / 2 ^ (k + 1) : Nat) : Int)) (congrArg (Value.int .i64) (half_int _ _)) ?_
        refine T_pev rfl rfl rfl rfl ?_
        refine T_nil ?_
        refine W_region ?_
        refine T_ari rfl rfl rfl rfl (by omega) ?_
        refine T_pev rfl rfl rfl rfl ?_
        refine T_nil ?_
        have S1321 := S1320.drop 1
        have S1322 := S1321.drop 0
        exact ⟨p.length - (k + 1), [(1, .int .i64 ((i.toNat / 2 ^ (k + 1) : Nat) : Int)), (4, .slice aa4 p.length cc4), (5, .slice aa5 q.length cc5), (8, .pointer (some ⟨b1, 0, none⟩)), (9, .pointer (some ⟨b4, 0, none⟩)), (12, .pointer (some ⟨b7, 0, none⟩)), (18, .slice a1270 (k + 1) c1271), (19, .slice a1294 (k + 1) c1295), (62, .int .i64 ((p.length : Nat) : Int)), (63, .int .i64 ((k + 1 : Nat) : Int))], by omega, ⟨(congrArg (fun z => some (Value.int .i64 z)) (by omega)), rfl, rfl, rfl, rfl, rfl, rfl, rfl, (congrArg (fun z => some (Value.int .i64 z)) (by omega)), (congrArg (fun z => some (Value.int .i64 z)) (by omega)), trivial⟩, k + 1, a1270, c1271, _, a1294, c1295, _, G1288, rfl, (by omega), rfl, (hl764.trans (hl1265.trans hl1289)), S1322, (rs1275.mono hl1289), hc1273, rs1299, hc1297⟩
      refine T_loadFS 7 S1300 rfl rfl rfl rfl rfl rfl rfl rfl rfl (hVs (Go.Au.climb_len _ hy _ _)) ?_
      refine T_nil ?_
      refine TT_step rfl ?_
      refine T_callS rfl rfl g_aumbry_aumbryref07_Node rfl rfl rfl rfl ((nodeR_ok S1300.le hl1305 (Go.Au.climb_len _ hx _ _)).mono ?_)
      rintro e w1324 ⟨rfl, hB1323⟩
      have S1325 := S1300.call hB1323
      refine ⟨_, rfl, (((Hp.le.refl _)).trans S1325.le), ?_⟩
      refine T_re (v' := hV (Go.Au.climb i.toNat x p (k + 1))) (congrArg (fun q => hV q) (climb_odd (by omega) (len_h hp.1 k (by omega)))) ?_
      refine T_nil ?_
      refine TT_step rfl ?_
      refine T_callS rfl rfl g_aumbry_aumbryref07_Node rfl rfl rfl rfl ((nodeR_ok S1325.le hl1310 (Go.Au.climb_len _ hy _ _)).mono ?_)
      rintro e w1327 ⟨rfl, hB1326⟩
      have S1328 := S1325.call hB1326
      refine ⟨_, rfl, (((Hp.le.refl _)).trans S1328.le), ?_⟩
      refine T_re (v' := hV (Go.Au.climb i.toNat y q (k + 1))) (congrArg (fun q => hV q) (climb_odd (by omega) (len_h hq.1 k (by omega)))) ?_
      refine T_nil ?_
      refine TT_step rfl ?_
      refine T_storeFS 8 S1328 (fun _ h => ((Hp.le.refl _)).trans h) rfl rfl rfl rfl rfl rfl rfl rfl rfl (hVs (Go.Au.climb_len _ hx _ _)) ((hVs (Go.Au.climb_len _ hx _ _)).trans (hVs (Go.Au.climb_len _ hx _ _)).symm) (one_hA _) fun w1329 S1330 => ?_
      refine T_nil ?_
      refine TT_step rfl ?_
      refine T_storeFS 7 S1330 (fun _ h => ((Hp.le.refl _)).trans h) rfl rfl rfl rfl rfl rfl rfl rfl rfl (hVs (Go.Au.climb_len _ hy _ _)) ((hVs (Go.Au.climb_len _ hy _ _)).trans (hVs (Go.Au.climb_len _ hy _ _)).symm) (one_hA _) fun w1331 S1332 => ?_
      refine T_nil ?_
      refine TT_done ?_
      refine W_region ?_
      refine T_pev rfl rfl rfl rfl ?_
      refine T_quo rfl rfl rfl rfl rfl rfl (by omega) ?_
      refine T_re (v' := .int .i64 ((i.toNat / 2 ^ (k + 1) : Nat) : Int)) (congrArg (Value.int .i64) (half_int _ _)) ?_
      refine T_pev rfl rfl rfl rfl ?_
      refine T_nil ?_
      refine W_region ?_
      refine T_ari rfl rfl rfl rfl (by omega) ?_
      refine T_pev rfl rfl rfl rfl ?_
      refine T_nil ?_
      have S1333 := S1332.drop 1
      have S1334 := S1333.drop 0
      exact ⟨p.length - (k + 1), [(1, .int .i64 ((i.toNat / 2 ^ (k + 1) : Nat) : Int)), (4, .slice aa4 p.length cc4), (5, .slice aa5 q.length cc5), (8, .pointer (some ⟨b1, 0, none⟩)), (9, .pointer (some ⟨b4, 0, none⟩)), (12, .pointer (some ⟨b7, 0, none⟩)), (18, .slice a1270 (k + 1) c1271), (19, .slice a1294 (k + 1) c1295), (62, .int .i64 ((p.length : Nat) : Int)), (63, .int .i64 ((k + 1 : Nat) : Int))], by omega, ⟨(congrArg (fun z => some (Value.int .i64 z)) (by omega)), rfl, rfl, rfl, rfl, rfl, rfl, rfl, (congrArg (fun z => some (Value.int .i64 z)) (by omega)), (congrArg (fun z => some (Value.int .i64 z)) (by omega)), trivial⟩, k + 1, a1270, c1271, _, a1294, c1295, _, G1288, rfl, (by omega), rfl, (hl764.trans (hl1265.trans hl1289)), S1334, (rs1275.mono hl1289), hc1273, rs1299, hc1297⟩
    refine T_loadFS 5 S1099 rfl rfl rfl rfl rfl rfl rfl rfl rfl (hVs (Go.Au.climb_len _ hy _ _)) ?_
    refine T_nil ?_
    refine TT_step rfl ?_
    refine T_callS rfl rfl g_aumbry_aumbryref07_nodeText rfl rfl rfl rfl ((ntextR_ok S1099.le hl1104 (Go.Au.climb_len _ hx _ _)).mono ?_)
    rintro e w1340 ⟨a1335, c1336, hc1337, rfl, ho1338, hB1339⟩
    have S1341 := S1099.own hB1339 ho1338
    refine ⟨_, rfl, (((Hp.le.refl _)).trans S1341.le), ?_⟩
    refine T_nil ?_
    refine TT_step rfl ?_
    obtain ⟨G1347, hl1348, S1346, r1349⟩ := S1341.stillRow 0 rfl
    have rs1350 : Rds G1347 [.slice a1335 ((Go.Au.text [110, 111, 100, 101] [(p.getD k []), (Go.Au.climb i.toNat x p k)]).length) c1336] [Go.Au.text [110, 111, 100, 101] [(p.getD k []), (Go.Au.climb i.toNat x p k)]] := Rds.cons (Rd.canonB r1349) (Rds.nil _)
    refine T_litS [.slice a1335 ((Go.Au.text [110, 111, 100, 101] [(p.getD k []), (Go.Au.climb i.toNat x p k)]).length) c1336] rfl rfl rfl rfl rfl rfl rfl rfl rfl rfl rfl rfl rfl (by simp [Value.cells]; rfl) rfl fun a1342 w1343 hB1344 ho1345 => ?_
    have S1351 := S1346.own hB1344 ho1345
    refine ⟨((hl1348).trans S1351.le), ?_⟩
    refine T_nil ?_
    refine TT_step rfl ?_
    have hD1352 : (Go.Au.wtexts i.toNat x p k ++ [Go.Au.text [110, 111, 100, 101] [(p.getD k []), (Go.Au.climb i.toNat x p k)]]) = Go.Au.wtexts i.toNat x p (k + 1) := (wts_odd (by omega) (len_h hp.1 k (by omega)))
    refine T_appendS 2 (k + 1) _ S1351 (fun _ h => (hl1348).trans h) rfl rfl rfl rfl rfl rfl rfl rfl rfl rfl rfl rfl rfl rfl (S1351.rd 0 rfl) rs1350.one (by first | rfl | (simp; done) | (simp; omega) | omega) rfl (by unfold maxLen; omega) (by show _ * 24 ≤ _; omega) fun a1353 c1354 w1355 hc1356 S1357 => ?_
    have rs1358 := Rds.append (rs769.mono hl1348) rs1350
    rw [hD1352] at rs1358
    refine T_nil ?_
    refine TT_step rfl ?_
    refine T_callS rfl rfl g_aumbry_aumbryref07_nodeText rfl rfl rfl rfl ((ntextR_ok S1357.le hl1109 (Go.Au.climb_len _ hy _ _)).mono ?_)
    rintro e w1364 ⟨a1359, c1360, hc1361, rfl, ho1362, hB1363⟩
    have S1365 := S1357.own hB1363 ho1362
    refine ⟨_, rfl, ((hl1348).trans S1365.le), ?_⟩
    refine T_nil ?_
    refine TT_step rfl ?_
    obtain ⟨G1371, hl1372, S1370, r1373⟩ := S1365.stillRow 0 rfl
    have rs1374 : Rds G1371 [.slice a1359 ((Go.Au.text [110, 111, 100, 101] [(q.getD k []), (Go.Au.climb i.toNat y q k)]).length) c1360] [Go.Au.text [110, 111, 100, 101] [(q.getD k []), (Go.Au.climb i.toNat y q k)]] := Rds.cons (Rd.canonB r1373) (Rds.nil _)
    refine T_litS [.slice a1359 ((Go.Au.text [110, 111, 100, 101] [(q.getD k []), (Go.Au.climb i.toNat y q k)]).length) c1360] rfl rfl rfl rfl rfl rfl rfl rfl rfl rfl rfl rfl rfl (by simp [Value.cells]; rfl) rfl fun a1366 w1367 hB1368 ho1369 => ?_
    have S1375 := S1370.own hB1368 ho1369
    refine ⟨(((hl1348.trans hl1372)).trans S1375.le), ?_⟩
    refine T_nil ?_
    refine TT_step rfl ?_
    have hD1376 : (Go.Au.wtexts i.toNat y q k ++ [Go.Au.text [110, 111, 100, 101] [(q.getD k []), (Go.Au.climb i.toNat y q k)]]) = Go.Au.wtexts i.toNat y q (k + 1) := (wts_odd (by omega) (len_h hq.1 k (by omega)))
    refine T_appendS 2 (k + 1) _ S1375 (fun _ h => ((hl1348.trans hl1372)).trans h) rfl rfl rfl rfl rfl rfl rfl rfl rfl rfl rfl rfl rfl rfl (S1375.rd 0 rfl) rs1374.one (by first | rfl | (simp; done) | (simp; omega) | omega) rfl (by unfold maxLen; omega) (by show _ * 24 ≤ _; omega) fun a1377 c1378 w1379 hc1380 S1381 => ?_
    have rs1382 := Rds.append (rs774.mono (hl1348.trans hl1372)) rs1374
    rw [hD1376] at rs1382
    refine T_nil ?_
    refine TT_step rfl ?_
    refine T_pev rfl rfl rfl rfl ?_
    refine T_nil ?_
    refine TT_step rfl ?_
    refine T_pev rfl rfl rfl rfl ?_
    refine T_nil ?_
    refine TT_done ?_
    refine W_tree (planF Tryd.prog G1371 [126]) (.step 0 (.step 1 (.step 2 (.step 3 (.step 4 (.step 6 (.step 7 (.step 8 (.step 9 (.fork 5 10 (.step 10 (.step 11 (.step 12 (.step 13 .done)))) (.step 5 (.step 11 (.step 12 (.step 13 .done)))))))))))))) rfl (by kernel_rfl) S1381.le ?_
    have S1383 := S1381.drew
    refine TT_step rfl ?_
    refine T_pev rfl rfl rfl rfl ?_
    refine T_nil ?_
    refine TT_step rfl ?_
    refine T_pev rfl rfl rfl rfl ?_
    refine T_nil ?_
    refine TT_step rfl ?_
    refine T_idxR k (hp.mono (hl764.trans (hl1348.trans hl1372))).2 rfl rfl rfl rfl rfl rfl rfl rfl rfl (by omega) (by omega) fun b1384 o1385 hc1386 => ?_
    have hc1387 := cells_h (hp.mono (hl764.trans (hl1348.trans hl1372))).1 k (by omega) hc1386
    have hl1388 := len_h (hp.mono (hl764.trans (hl1348.trans hl1372))).1 k (by omega)
    refine T_nil ?_
    refine TT_step rfl ?_
    refine T_loadGA _ S1383 hc1387 rfl rfl rfl rfl rfl rfl rfl rfl (hVs hl1388) ?_
    refine T_nil ?_
    refine TT_step rfl ?_
    refine T_loadFS 8 S1383 rfl rfl rfl rfl rfl rfl rfl rfl rfl (hVs (Go.Au.climb_len _ hx _ _)) ?_
    refine T_nil ?_
    refine TT_step rfl ?_
    refine T_pev rfl rfl rfl rfl ?_
    refine T_nil ?_
    refine TT_step rfl ?_
    refine T_pev rfl rfl rfl rfl ?_
    refine T_nil ?_
    refine TT_step rfl ?_
    refine T_idxR k (hq.mono (hl764.trans (hl1348.trans hl1372))).2 rfl rfl rfl rfl rfl rfl rfl rfl rfl (by omega) (by omega) fun b1389 o1390 hc1391 => ?_
    have hc1392 := cells_h (hq.mono (hl764.trans (hl1348.trans hl1372))).1 k (by omega) hc1391
    have hl1393 := len_h (hq.mono (hl764.trans (hl1348.trans hl1372))).1 k (by omega)
    refine T_nil ?_
    refine TT_step rfl ?_
    refine T_loadGAP _ (fun _ h => h) hc1392 rfl rfl rfl rfl rfl rfl rfl rfl (hVs hl1393) ?_
    refine T_nil ?_
    refine TT_fork rfl rfl ?_ ?_
    · refine T_callS rfl rfl g_aumbry_aumbryref07_Node rfl rfl rfl rfl ((nodeR_ok S1383.le hl1388 (Go.Au.climb_len _ hx _ _)).mono ?_)
      rintro e w1395 ⟨rfl, hB1394⟩
      have S1396 := S1383.call hB1394
      refine ⟨_, rfl, (((Hp.le.refl _)).trans S1396.le), ?_⟩
      refine T_re (v' := hV (Go.Au.climb i.toNat x p (k + 1))) (congrArg (fun q => hV q) (climb_odd (by omega) (len_h hp.1 k (by omega)))) ?_
      refine T_nil ?_
      refine TT_step rfl ?_
      refine T_loadFS 7 S1396 rfl rfl rfl rfl rfl rfl rfl rfl rfl (hVs (Go.Au.climb_len _ hy _ _)) ?_
      refine T_nil ?_
      refine TT_step rfl ?_
      refine T_callS rfl rfl g_aumbry_aumbryref07_Node rfl rfl rfl rfl ((nodeR_ok S1396.le hl1393 (Go.Au.climb_len _ hy _ _)).mono ?_)
      rintro e w1398 ⟨rfl, hB1397⟩
      have S1399 := S1396.call hB1397
      refine ⟨_, rfl, (((Hp.le.refl _)).trans S1399.le), ?_⟩
      refine T_re (v' := hV (Go.Au.climb i.toNat y q (k + 1))) (congrArg (fun q => hV q) (climb_odd (by omega) (len_h hq.1 k (by omega)))) ?_
      refine T_nil ?_
      refine TT_step rfl ?_
      refine T_storeFS 8 S1399 (fun _ h => ((Hp.le.refl _)).trans h) rfl rfl rfl rfl rfl rfl rfl rfl rfl (hVs (Go.Au.climb_len _ hx _ _)) ((hVs (Go.Au.climb_len _ hx _ _)).trans (hVs (Go.Au.climb_len _ hx _ _)).symm) (one_hA _) fun w1400 S1401 => ?_
      refine T_nil ?_
      refine TT_step rfl ?_
      refine T_storeFS 7 S1401 (fun _ h => ((Hp.le.refl _)).trans h) rfl rfl rfl rfl rfl rfl rfl rfl rfl (hVs (Go.Au.climb_len _ hy _ _)) ((hVs (Go.Au.climb_len _ hy _ _)).trans (hVs (Go.Au.climb_len _ hy _ _)).symm) (one_hA _) fun w1402 S1403 => ?_
      refine T_nil ?_
      refine TT_done ?_
      refine W_region ?_
      refine T_pev rfl rfl rfl rfl ?_
      refine T_quo rfl rfl rfl rfl rfl rfl (by omega) ?_
      refine T_re (v' := .int .i64 ((i.toNat / 2 ^ (k + 1) : Nat) : Int)) (congrArg (Value.int .i64) (half_int _ _)) ?_
      refine T_pev rfl rfl rfl rfl ?_
      refine T_nil ?_
      refine W_region ?_
      refine T_ari rfl rfl rfl rfl (by omega) ?_
      refine T_pev rfl rfl rfl rfl ?_
      refine T_nil ?_
      have S1404 := S1403.drop 1
      have S1405 := S1404.drop 0
      exact ⟨p.length - (k + 1), [(1, .int .i64 ((i.toNat / 2 ^ (k + 1) : Nat) : Int)), (4, .slice aa4 p.length cc4), (5, .slice aa5 q.length cc5), (8, .pointer (some ⟨b1, 0, none⟩)), (9, .pointer (some ⟨b4, 0, none⟩)), (12, .pointer (some ⟨b7, 0, none⟩)), (18, .slice a1353 (k + 1) c1354), (19, .slice a1377 (k + 1) c1378), (62, .int .i64 ((p.length : Nat) : Int)), (63, .int .i64 ((k + 1 : Nat) : Int))], by omega, ⟨(congrArg (fun z => some (Value.int .i64 z)) (by omega)), rfl, rfl, rfl, rfl, rfl, rfl, rfl, (congrArg (fun z => some (Value.int .i64 z)) (by omega)), (congrArg (fun z => some (Value.int .i64 z)) (by omega)), trivial⟩, k + 1, a1353, c1354, _, a1377, c1378, _, G1371, rfl, (by omega), rfl, (hl764.trans (hl1348.trans hl1372)), S1405, (rs1358.mono hl1372), hc1356, rs1382, hc1380⟩
    refine T_loadFS 7 S1383 rfl rfl rfl rfl rfl rfl rfl rfl rfl (hVs (Go.Au.climb_len _ hy _ _)) ?_
    refine T_nil ?_
    refine TT_step rfl ?_
    refine T_callS rfl rfl g_aumbry_aumbryref07_Node rfl rfl rfl rfl ((nodeR_ok S1383.le hl1388 (Go.Au.climb_len _ hx _ _)).mono ?_)
    rintro e w1407 ⟨rfl, hB1406⟩
    have S1408 := S1383.call hB1406
    refine ⟨_, rfl, (((Hp.le.refl _)).trans S1408.le), ?_⟩
    refine T_re (v' := hV (Go.Au.climb i.toNat x p (k + 1))) (congrArg (fun q => hV q) (climb_odd (by omega) (len_h hp.1 k (by omega)))) ?_
    refine T_nil ?_
    refine TT_step rfl ?_
    refine T_callS rfl rfl g_aumbry_aumbryref07_Node rfl rfl rfl rfl ((nodeR_ok S1408.le hl1393 (Go.Au.climb_len _ hy _ _)).mono ?_)
    rintro e w1410 ⟨rfl, hB1409⟩
    have S1411 := S1408.call hB1409
    refine ⟨_, rfl, (((Hp.le.refl _)).trans S1411.le), ?_⟩
    refine T_re (v' := hV (Go.Au.climb i.toNat y q (k + 1))) (congrArg (fun q => hV q) (climb_odd (by omega) (len_h hq.1 k (by omega)))) ?_
    refine T_nil ?_
    refine TT_step rfl ?_
    refine T_storeFS 8 S1411 (fun _ h => ((Hp.le.refl _)).trans h) rfl rfl rfl rfl rfl rfl rfl rfl rfl (hVs (Go.Au.climb_len _ hx _ _)) ((hVs (Go.Au.climb_len _ hx _ _)).trans (hVs (Go.Au.climb_len _ hx _ _)).symm) (one_hA _) fun w1412 S1413 => ?_
    refine T_nil ?_
    refine TT_step rfl ?_
    refine T_storeFS 7 S1413 (fun _ h => ((Hp.le.refl _)).trans h) rfl rfl rfl rfl rfl rfl rfl rfl rfl (hVs (Go.Au.climb_len _ hy _ _)) ((hVs (Go.Au.climb_len _ hy _ _)).trans (hVs (Go.Au.climb_len _ hy _ _)).symm) (one_hA _) fun w1414 S1415 => ?_
    refine T_nil ?_
    refine TT_done ?_
    refine W_region ?_
    refine T_pev rfl rfl rfl rfl ?_
    refine T_quo rfl rfl rfl rfl rfl rfl (by omega) ?_
    refine T_re (v' := .int .i64 ((i.toNat / 2 ^ (k + 1) : Nat) : Int)) (congrArg (Value.int .i64) (half_int _ _)) ?_
    refine T_pev rfl rfl rfl rfl ?_
    refine T_nil ?_
    refine W_region ?_
    refine T_ari rfl rfl rfl rfl (by omega) ?_
    refine T_pev rfl rfl rfl rfl ?_
    refine T_nil ?_
    have S1416 := S1415.drop 1
    have S1417 := S1416.drop 0
    exact ⟨p.length - (k + 1), [(1, .int .i64 ((i.toNat / 2 ^ (k + 1) : Nat) : Int)), (4, .slice aa4 p.length cc4), (5, .slice aa5 q.length cc5), (8, .pointer (some ⟨b1, 0, none⟩)), (9, .pointer (some ⟨b4, 0, none⟩)), (12, .pointer (some ⟨b7, 0, none⟩)), (18, .slice a1353 (k + 1) c1354), (19, .slice a1377 (k + 1) c1378), (62, .int .i64 ((p.length : Nat) : Int)), (63, .int .i64 ((k + 1 : Nat) : Int))], by omega, ⟨(congrArg (fun z => some (Value.int .i64 z)) (by omega)), rfl, rfl, rfl, rfl, rfl, rfl, rfl, (congrArg (fun z => some (Value.int .i64 z)) (by omega)), (congrArg (fun z => some (Value.int .i64 z)) (by omega)), trivial⟩, k + 1, a1353, c1354, _, a1377, c1378, _, G1371, rfl, (by omega), rfl, (hl764.trans (hl1348.trans hl1372)), S1417, (rs1358.mono hl1372), hc1356, rs1382, hc1380⟩
  refine W_exit ?_
  refine W_seq ?_
  refine W_seq ?_
  refine W_region ?_
  obtain rfl : k = p.length := by omega
  refine T_pev rfl rfl rfl rfl ?_
  refine T_pev rfl rfl rfl rfl ?_
  refine T_ari rfl rfl rfl rfl (by omega) ?_
  refine T_pev rfl rfl rfl rfl ?_
  refine T_nil ?_
  refine W_block ?_
  obtain ⟨G1419, hl1420, S1418, r1421⟩ := S776.stillRow 1 rfl
  have r1422 := RdL.mk r1421 (rs769.mono hl1420)
  obtain ⟨G1424, hl1425, S1423, r1426⟩ := S1418.stillRow 0 rfl
  have r1427 := RdL.mk r1426 (rs774.mono (hl1420.trans hl1425))
  refine W_loop (fun M ρ w' => ∃ (k : Nat) (G1428 : Hp), M = 1 + k ∧ k ≤ p.length ∧ Go.Au.lastNe (Go.Au.waysH n i x p) (Go.Au.waysH n i y q) p.length = Go.Au.lastNe (Go.Au.waysH n i x p) (Go.Au.waysH n i y q) k ∧ ρ = [(12, .pointer (some ⟨b7, 0, none⟩)), (18, .slice a765 p.length c766), (19, .slice a770 p.length c771), (21, .int .i64 (((k : Nat) : Int) - 1))] ∧ G1424.le G1428 ∧ St w H G1428 [.blk b21 (hV (Go.Au.climbH n i y q) : Value).cells 27, .blk b13 (hV (Go.Au.climbH n i x p) : Value).cells 27, .blk b7 (.agg #[.slice none 0 0, .slice none 0 0] : Value).cells 45, .blk b4 (hV (Go.Au.climb i.toNat y q p.length) : Value).cells 27, .blk b1 (hV (Go.Au.climb i.toNat x p p.length) : Value).cells 27] w')
    (1 + p.length) [(12, .pointer (some ⟨b7, 0, none⟩)), (18, .slice a765 p.length c766), (19, .slice a770 p.length c771), (21, .int .i64 (((p.length : Nat) : Int) - 1))] ⟨rfl, rfl, rfl, (congrArg (fun z => some (Value.int .i64 z)) (by omega)), trivial⟩ ⟨p.length, G1424, rfl, (by omega), (by rfl), rfl, Hp.le.refl _, S1423⟩ ?_
  rintro M ρ w1430 ⟨k, G1428, rfl, hp1432, hinv, rfl, hl1429, S1431⟩
  refine W_seq ?_
  refine W_seq ?_
  refine W_region ?_
  refine T_pev rfl rfl rfl rfl ?_
  refine T_pev rfl rfl rfl rfl ?_
  refine T_nil ?_
  refine W_cond_dec rfl (fun h1434 => ?_) (fun h1434 => ?_)
  · refine W_skip ?_
    refine W_seq ?_
    refine W_block ?_
    refine W_seq ?_
    refine W_plan (planF Tryd.prog G1428 [142, 146]) rfl (by kernel_rfl) S1431.le ?_
    have S1435 := S1431.drew
    obtain ⟨j, rfl⟩ : ∃ j, k = j + 1 := ⟨k - 1, by omega⟩
    have hj1 : j < p.length := by omega
    have hwx := Go.Au.wtexts_len i.toNat x p p.length
    have hwy := Go.Au.wtexts_len i.toNat y q p.length
    refine T_pev rfl rfl rfl rfl ?_
    refine T_pev rfl rfl rfl rfl ?_
    obtain ⟨hs1439, r1440, r1441⟩ := (r1422.mono (hl1425.trans hl1429))
    refine T_idxR j r1440 rfl rfl rfl rfl rfl rfl rfl rfl rfl (by omega) (by omega) fun b1436 o1437 hc1438 => ?_
    obtain ⟨a1444, c1445, hc1447, hv1443, r1446⟩ := r1441.at j (by omega)
    have hc1448 := hc1438 0 (.slice a1444 ((Go.Au.wtexts i.toNat x p p.length).getD j []).length c1445) (by simpa using hv1443)
    simp only [Nat.add_zero] at hc1448
    refine T_loadGP (fun _ h => h) hc1448 rfl rfl rfl rfl rfl rfl rfl ?_
    refine T_pev rfl rfl rfl rfl ?_
    refine T_pev rfl rfl rfl rfl ?_
    obtain ⟨hs1452, r1453, r1454⟩ := (r1427.mono hl1429)
    refine T_idxR j r1453 rfl rfl rfl rfl rfl rfl rfl rfl rfl (by omega) (by omega) fun b1449 o1450 hc1451 => ?_
    obtain ⟨a1457, c1458, hc1460, hv1456, r1459⟩ := r1454.at j (by omega)
    have hc1461 := hc1451 0 (.slice a1457 ((Go.Au.wtexts i.toNat y q p.length).getD j []).length c1458) (by simpa using hv1456)
    simp only [Nat.add_zero] at hc1461
    refine T_loadGP (fun _ h => h) hc1461 rfl rfl rfl rfl rfl rfl rfl ?_
    refine T_buildS (cells := #[.slice a1444 ((Go.Au.wtexts i.toNat x p p.length).getD j []).length c1445, .slice a1457 ((Go.Au.wtexts i.toNat y q p.length).getD j []).length c1458]) rfl rfl rfl rfl rfl rfl rfl rfl rfl rfl ?_
    refine T_allocS S1435 (fun _ h => ((Hp.le.refl _)).trans h) rfl rfl rfl rfl rfl rfl rfl fun b1462 w1463 S1464 => ?_
    refine T_storeFS 0 S1464 (fun _ h => ((Hp.le.refl _)).trans h) rfl rfl rfl rfl rfl rfl rfl rfl rfl (by first | rfl | simp [hVs, *]) (by first | rfl | simp [hVs, *]) (one_all rfl) fun w1465 S1466 => ?_
    refine T_nil ?_
    refine W_seq ?_
    refine W_region ?_
    refine T_loadFS 0 S1466 rfl rfl rfl rfl rfl rfl rfl rfl rfl (by first | rfl | simp [hVs, *]) ?_
    refine T_callS rfl rfl g_aumbry_aumbryref01_Same rfl rfl rfl rfl ((isbrR_ok S1466.le r1446 r1459 (textsj_bd hx hp.1 (by omega) hj1) (textsj_bd hy hq.1 (by omega) hj1)).mono ?_)
    rintro e w1468 ⟨rfl, hB1467⟩
    have S1469 := S1466.call hB1467
    refine ⟨_, rfl, trivial, ?_⟩
    refine T_nil ?_
    refine W_cond rfl (fun h1470 => ?_) (fun h1470 => ?_)
    · refine W_seq ?_
      refine W_region ?_
      refine T_loadFS 0 S1469 rfl rfl rfl rfl rfl rfl rfl rfl rfl (by first | rfl | simp [hVs, *]) ?_
      refine T_storeFS 3 S1469 (fun _ _ => trivial) rfl rfl rfl rfl rfl rfl rfl rfl rfl (by first | rfl | simp [hVs, *]) (by first | rfl | simp [hVs, *]) (one_all rfl) fun w1471 S1472 => ?_
      refine T_pev rfl rfl rfl rfl ?_
      refine T_nil ?_
      refine W_ret ?_
      refine ⟨_, ⟨_, _, _, rfl, rfl, run_loadVarA rfl rfl (by first | rfl | simp [hVs, *]) (S1472.cells 3 rfl), ⟨_, _, rfl, rfl, rfl⟩⟩, ?_⟩
      have hh : (!decide (((Go.Au.wtexts i.toNat x p p.length).getD j []) = ((Go.Au.wtexts i.toNat y q p.length).getD j [])) && decide (Go.Sha.sha ((Go.Au.wtexts i.toNat x p p.length).getD j []) = Go.Sha.sha ((Go.Au.wtexts i.toNat y q p.length).getD j []))) = true := h1470
      have hst := brk_texts hok1 hok2 hj1 hh
      have hyes : (Go.Au.brk n i x y p q) = some (((Go.Au.wtexts i.toNat x p p.length).getD j []), ((Go.Au.wtexts i.toNat y q p.length).getD j [])) := (Go.Au.brk_eq (a := x) (b := y) hok1 hok2 hcl (hinv.trans (Go.Au.lastNe_at hst.1))).trans (by rw [hst.2.1, hst.2.2]; rfl)
      exact br_end hyes r1446 r1459 S1472.fin S1472.below
    refine W_skip ?_
    refine W_region ?_
    refine T_pev rfl rfl rfl rfl ?_
    refine T_ari rfl rfl rfl rfl (by omega) ?_
    refine T_pev rfl rfl rfl rfl ?_
    refine T_nil ?_
    have HEQ := hinv.trans (Go.Au.lastNe_eq (brk_stepT hx hy hp.1 hq.1 hok1 hok2 hcl hj1 hinv h1470))
    have S1473 := S1469.drop 0
    exact ⟨1 + j, [(12, .pointer (some ⟨b7, 0, none⟩)), (18, .slice a765 p.length c766), (19, .slice a770 p.length c771), (21, .int .i64 (((j : Nat) : Int) - 1))], by omega, ⟨rfl, rfl, rfl, (congrArg (fun z => some (Value.int .i64 z)) (by omega)), trivial⟩, j, G1428, rfl, (by omega), (by exact HEQ), rfl, hl1429, S1473⟩
  refine W_exit ?_
  refine W_seq ?_
  refine W_region ?_
  refine T_buildS (cells := #[.slice none 0 0, .slice none 0 0]) rfl rfl rfl rfl rfl rfl rfl rfl rfl rfl ?_
  refine T_storeFS 2 S1431 (fun _ _ => trivial) rfl rfl rfl rfl rfl rfl rfl rfl rfl (by first | rfl | simp [hVs, *]) (by first | rfl | simp [hVs, *]) (one_all rfl) fun w1474 S1475 => ?_
  refine T_pev rfl rfl rfl rfl ?_
  refine T_nil ?_
  refine W_ret ?_
  refine ⟨_, ⟨_, _, _, rfl, rfl, run_loadVarA rfl rfl (by first | rfl | simp [hVs, *]) (S1475.cells 2 rfl), ⟨_, _, rfl, rfl, rfl⟩⟩, ?_⟩
  obtain rfl : k = 0 := by omega
  have hno : (Go.Au.brk n i x y p q) = none := Go.Au.brk_eq hok1 hok2 hcl hinv
  rw [hno]
  exact ⟨none, 0, none, 0, rfl, nilB _, nilB _, S1475.below⟩

end Go.Proofs.YtadiakpbodlecaaDoor
