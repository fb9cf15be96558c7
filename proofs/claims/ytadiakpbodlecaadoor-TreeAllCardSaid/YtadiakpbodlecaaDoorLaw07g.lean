/- The statements of chapter 7, walked: places, and all of it. -/
import Derived.Test.YtadiakpbodlecaaDoorLaw07f
set_option linter.unusedVariables false
set_option linter.unusedSimpArgs false
set_option maxRecDepth 8192
namespace Go.Proofs.YtadiakpbodlecaaDoor
open Go Go.F Go.RowKit

theorem chk_ok {a : Bool} {x y : List UInt8} (h : (!(a && decide (x = y))) = false) : a = true ∧ x = y := by simpa using h
theorem chk_eq {a : Bool} {x y : List UInt8} (h : (a && decide (x = y)) = true) : x = y := by simp at h; exact h.2
theorem not_own {a : Bool} {x y : List UInt8} (h1 : a = true) (h2 : x = y) : (!(a && decide (x = y))) = false := by rw [h1, decide_eq_true h2]; rfl
theorem chk_out {n i : Int} {m : Nat} {x y : List UInt8} (h : ¬ (0 ≤ i ∧ i < n)) : (!(Go.Au.okW n i m && decide (x = y))) = true := by
  rw [Go.Au.okW_no (fun e => h ⟨e.1, e.2.1⟩)]; rfl
theorem chk_len {n i : Int} {m l : Nat} {x y : List UInt8} (h : m ≠ Go.Au.lg l) (hn : n = (l : Int)) : (Go.Au.okW n i m && decide (x = y)) = false := by
  rw [Go.Au.okW_no (fun e => h (by rw [e.2.2.2, hn, Int.toNat_natCast]))]; rfl
theorem xorb (x : UInt8) : bits .xor .u8 (x.toNat : Int) 1 = ((x ^^^ 1).toNat : Int) := by
  have key : ∀ q : Fin 256, bits .xor .u8 (q.val : Int) 1 = ((UInt8.ofNat q.val ^^^ 1).toNat : Int) := by decide +kernel
  have h := key ⟨x.toNat, x.toNat_lt⟩
  simpa using h
theorem xor_ne1 (x : UInt8) : x ^^^ 1 ≠ x := by
  have key : ∀ q : Fin 256, UInt8.ofNat q.val ^^^ 1 ≠ UInt8.ofNat q.val := by decide +kernel
  have h := key ⟨x.toNat, x.toNat_lt⟩
  simpa using h
theorem xor_ne {l : List UInt8} {c : Nat} (h : c < l.length) : ¬ l = l.set c (l.getD c 0 ^^^ 1) := by
  intro e
  have h1 : l.getD c 0 = (l.set c (l.getD c 0 ^^^ 1)).getD c 0 := by rw [← e]
  have h2 : (l.set c (l.getD c 0 ^^^ 1)).getD c 0 = l.getD c 0 ^^^ 1 := by
    rw [List.getD_eq_getElem?_getD, List.getElem?_set_self (by omega)]; rfl
  rw [h2] at h1
  exact xor_ne1 _ h1.symm
theorem hV_set {l : List UInt8} {c : Nat} {b : UInt8} : (hV l).cells.setIfInBounds c (bV b) = (hV (l.set c b)).cells := by
  apply Array.toList_inj.1
  simp [Value.cells]
section
variable {n i : Int} {a b : List UInt8} {p q : List (List UInt8)}
theorem isbr_yes (ha : a.length = 32) (hb : b.length = 32) (hp : ∀ x ∈ p, x.length = 32) (hq : ∀ x ∈ q, x.length = 32) (h : (Go.Au.brk n i a b p q).isSome = true) :
    (!decide (Go.Au.brA (Go.Au.brk n i a b p q) = Go.Au.brB (Go.Au.brk n i a b p q)) && decide (Go.Sha.sha (Go.Au.brA (Go.Au.brk n i a b p q)) = Go.Sha.sha (Go.Au.brB (Go.Au.brk n i a b p q)))) = true := by
  have h1 := brk_isbr ha hb hp hq h
  simpa using h1
theorem all_q {y : Nat} (ha : a.length = 32) (hp : ∀ x ∈ p, x.length = 32) (hq : ∀ x ∈ p.set y ((p.getD y []).set 0 ((p.getD y []).getD 0 0 ^^^ 1)), x.length = 32) (h1 : Go.Au.okW n i p.length = true) (h2 : Go.Au.okW n i (p.set y ((p.getD y []).set 0 ((p.getD y []).getD 0 0 ^^^ 1))).length = true)
    (h3 : Go.Au.climbH n i a p = Go.Au.climbH n i a (p.set y ((p.getD y []).set 0 ((p.getD y []).getD 0 0 ^^^ 1)))) (hy : y < p.length) : (Go.Au.brk n i a a p (p.set y ((p.getD y []).set 0 ((p.getD y []).getD 0 0 ^^^ 1)))).isSome = true := by
  rw [brk_m5 ha ha hp hq h1 h2 h3 rfl]
  have hl := Go.Au.getD_len hp hy
  have hne : ¬ p = p.set y ((p.getD y []).set 0 ((p.getD y []).getD 0 0 ^^^ 1)) := fun e => by
    have e1 : p.getD y [] = (p.set y ((p.getD y []).set 0 ((p.getD y []).getD 0 0 ^^^ 1))).getD y [] := by rw [← e]
    have e2 : (p.set y ((p.getD y []).set 0 ((p.getD y []).getD 0 0 ^^^ 1))).getD y [] = (p.getD y []).set 0 ((p.getD y []).getD 0 0 ^^^ 1) := by
      rw [List.getD_eq_getElem?_getD, List.getElem?_set_self hy]; rfl
    rw [e2] at e1
    exact xor_ne (by omega) e1
  rw [decide_eq_false hne]; rfl
end
theorem pl_same {n : Int} {r : List UInt8} {u v : Nat} {l : List (List UInt8)} (h1 : Go.Au.okW n ((v : Nat) : Int) (Go.Au.beside (Go.Au.rowP l) ((v : Nat) : Int).toNat (Go.Au.lg l.length)).length = true)
    (h2 : Go.Au.climbH n ((v : Nat) : Int) (l.getD ((v : Nat) : Int).toNat []) (Go.Au.beside (Go.Au.rowP l) ((v : Nat) : Int).toNat (Go.Au.lg l.length)) = r) (e : u = v)
    (h : (!(Go.Au.okW n ((v : Nat) : Int) (Go.Au.beside (Go.Au.rowP l) ((u : Nat) : Int).toNat (Go.Au.lg l.length)).length && decide (Go.Au.climbH n ((v : Nat) : Int) (l.getD u []) (Go.Au.beside (Go.Au.rowP l) ((u : Nat) : Int).toNat (Go.Au.lg l.length)) = r))) = true) : False := by
  subst e
  exact absurd (h.symm.trans (not_own h1 h2)) (by decide)
section
variable {n : Int} {u v : Nat} {l : List (List UInt8)}
theorem pl_ne (h : ∀ b ∈ l, b.length = 32) (hlg : Go.Au.lg l.length ≤ 4) (_h1 : Go.Au.okW n ((u : Nat) : Int) (Go.Au.beside (Go.Au.rowP l) ((u : Nat) : Int).toNat (Go.Au.lg l.length)).length = true)
    (h2 : Go.Au.okW n ((v : Nat) : Int) (Go.Au.beside (Go.Au.rowP l) ((v : Nat) : Int).toNat (Go.Au.lg l.length)).length = true ∧ Go.Au.climbH n ((v : Nat) : Int) (l.getD ((v : Nat) : Int).toNat []) (Go.Au.beside (Go.Au.rowP l) ((v : Nat) : Int).toNat (Go.Au.lg l.length)) = Go.Au.root l)
    (hc : (!(Go.Au.okW n ((v : Nat) : Int) (Go.Au.beside (Go.Au.rowP l) ((u : Nat) : Int).toNat (Go.Au.lg l.length)).length && decide (Go.Au.climbH n ((v : Nat) : Int) (l.getD u []) (Go.Au.beside (Go.Au.rowP l) ((u : Nat) : Int).toNat (Go.Au.lg l.length)) = Go.Au.root l))) = false)
    (hu : u < l.length) (hv : v < l.length) (_ : l.length ≤ 256) (hne : ¬ l.getD u [] = l.getD v []) :
    (Go.Au.brk n ((v : Nat) : Int) (l.getD u []) (l.getD v []) (Go.Au.beside (Go.Au.rowP l) ((u : Nat) : Int).toNat (Go.Au.lg l.length)) (Go.Au.beside (Go.Au.rowP l) ((v : Nat) : Int).toNat (Go.Au.lg l.length))).isSome = true := by
  obtain ⟨c1, c2⟩ := chk_ok hc
  exact brk_m4 (Go.Au.getD_len h hu) (Go.Au.getD_len h hv) (Go.Au.beside_all h (by omega) (Nat.le_refl _)) (Go.Au.beside_all h (by omega) (Nat.le_refl _)) c1 h2.1 (c2.trans h2.2.symm) hne
theorem pl_eq (h : ∀ b ∈ l, b.length = 32) (hlg : Go.Au.lg l.length ≤ 4) (_h1 : Go.Au.okW n ((u : Nat) : Int) (Go.Au.beside (Go.Au.rowP l) ((u : Nat) : Int).toNat (Go.Au.lg l.length)).length = true)
    (h2 : Go.Au.okW n ((v : Nat) : Int) (Go.Au.beside (Go.Au.rowP l) ((v : Nat) : Int).toNat (Go.Au.lg l.length)).length = true ∧ Go.Au.climbH n ((v : Nat) : Int) (l.getD ((v : Nat) : Int).toNat []) (Go.Au.beside (Go.Au.rowP l) ((v : Nat) : Int).toNat (Go.Au.lg l.length)) = Go.Au.root l)
    (hc : (!(Go.Au.okW n ((v : Nat) : Int) (Go.Au.beside (Go.Au.rowP l) ((u : Nat) : Int).toNat (Go.Au.lg l.length)).length && decide (Go.Au.climbH n ((v : Nat) : Int) (l.getD u []) (Go.Au.beside (Go.Au.rowP l) ((u : Nat) : Int).toNat (Go.Au.lg l.length)) = Go.Au.root l))) = false)
    (hu : u < l.length) (hv : v < l.length) (_ : l.length ≤ 256) (he : l.getD u [] = l.getD v []) :
    (Go.Au.brk n ((v : Nat) : Int) (l.getD u []) (l.getD v []) (Go.Au.beside (Go.Au.rowP l) ((u : Nat) : Int).toNat (Go.Au.lg l.length)) (Go.Au.beside (Go.Au.rowP l) ((v : Nat) : Int).toNat (Go.Au.lg l.length))).isSome = !decide (Go.Au.beside (Go.Au.rowP l) ((u : Nat) : Int).toNat (Go.Au.lg l.length) = Go.Au.beside (Go.Au.rowP l) ((v : Nat) : Int).toNat (Go.Au.lg l.length)) := by
  obtain ⟨c1, c2⟩ := chk_ok hc
  exact brk_m5 (Go.Au.getD_len h hu) (Go.Au.getD_len h hv) (Go.Au.beside_all h (by omega) (Nat.le_refl _)) (Go.Au.beside_all h (by omega) (Nat.le_refl _)) c1 h2.1 (c2.trans h2.2.symm) he
end
theorem pl_none {o : Option (List UInt8 × List UInt8)} (h : o.isSome = false) : (((Go.Au.brA o).length : Nat) : Int) = 0 := by
  cases o with
  | none => rfl
  | some x => cases h
theorem treePlaces_ok {H : Hp} {w : World} (hH : H.le (hw w)) (hT : Tabs H) {h : List (List UInt8)} {aa0 : Option Addr} {nn0 cc0 : Nat} (hx : RdH H (.slice aa0 nn0 cc0) 32 h) (i k : Int) :
    Calls Tryd.prog 10 #[.slice aa0 nn0 cc0, .int .i64 i, .int .i64 k] w fun e w' => e = .returned (.bool true) ∧ Below w.heap.size w w' := by
  obtain rfl : nn0 = h.length := hx.len
  have hxcap : h.length ≤ cc0 := hx.2.capOf
  have hh16 : (h.take 16).length ≤ 16 := by rw [List.length_take]; omega
  refine enter3 _ Tryd.func10 rfl Tryd.ntmps10 Tryd.results10 rfl ?_
  have S0 := St.start w hH
  refine W_seq ?_
  refine W_region ?_
  refine T_pev rfl rfl rfl rfl ?_
  refine T_nil ?_
  refine W_seq ?_
  refine W_region ?_
  refine T_pev rfl rfl rfl rfl ?_
  refine T_callS rfl rfl g_aumbry_aumbrykeep_Cut_aumbry_api_Hash rfl rfl rfl rfl ((cutH_ok S0.le hx 16).mono ?_)
  rintro e w6 ⟨a1, c2, hc3, rfl, hr4, hB5⟩
  have S7 := S0.call hB5
  refine ⟨_, rfl, trivial, ?_⟩
  refine T_pev rfl rfl rfl rfl ?_
  refine T_nil ?_
  refine W_seq ?_
  refine W_seq ?_
  refine W_region ?_
  refine T_pev rfl rfl rfl rfl ?_
  refine T_pev rfl rfl rfl rfl ?_
  refine T_pev rfl rfl rfl rfl ?_
  refine T_nil ?_
  refine W_cond_dec rfl (fun h8 => ?_) (fun h8 => ?_)
  · refine W_seq ?_
    refine W_region ?_
    refine T_callS rfl rfl g_aumbry_aumbrylaw07_wakes rfl rfl rfl rfl ((wakes_ok S7.le hT).mono ?_)
    rintro e w10 ⟨rfl, hB9⟩
    have S11 := S7.call hB9
    refine ⟨_, rfl, trivial, ?_⟩
    refine T_pev rfl rfl rfl rfl ?_
    refine T_nil ?_
    refine W_ret ?_
    refine ⟨_, ⟨_, _, rfl, rfl, rfl⟩, ?_⟩
    exact ⟨rfl, S11.below⟩
  refine W_skip ?_
  refine W_seq ?_
  refine W_region ?_
  have hm1u := Int.emod_nonneg i (show (((h.take 16).length : Nat) : Int) ≠ 0 by omega)
  have hm2u := Int.emod_lt_of_pos i (show 0 < (((h.take 16).length : Nat) : Int) by omega)
  obtain ⟨u, hzu⟩ : ∃ zz : Nat, i % (((h.take 16).length : Nat) : Int) = (zz : Int) := ⟨(i % (((h.take 16).length : Nat) : Int)).toNat, by omega⟩
  have hm1v := Int.emod_nonneg k (show (((h.take 16).length : Nat) : Int) ≠ 0 by omega)
  have hm2v := Int.emod_lt_of_pos k (show 0 < (((h.take 16).length : Nat) : Int) by omega)
  obtain ⟨v, hzv⟩ : ∃ zz : Nat, k % (((h.take 16).length : Nat) : Int) = (zz : Int) := ⟨(k % (((h.take 16).length : Nat) : Int)).toNat, by omega⟩
  refine T_pev rfl rfl rfl rfl ?_
  refine T_pev rfl rfl rfl rfl ?_
  refine T_pev rfl rfl rfl rfl ?_
  refine T_callS rfl rfl g_aumbry_aumbrykeep_Within rfl rfl rfl rfl ((withinN_ok S7.le i (((h.take 16).length : Nat) : Int) (by omega)).mono ?_)
  rintro e w13 ⟨rfl, hB12⟩
  have S14 := S7.call hB12
  refine ⟨_, rfl, trivial, ?_⟩
  refine T_re (v' := .int .i64 ((u : Nat) : Int)) (congrArg (Value.int .i64) hzu) ?_
  refine T_pev rfl rfl rfl rfl ?_
  refine T_pev rfl rfl rfl rfl ?_
  refine T_pev rfl rfl rfl rfl ?_
  refine T_callS rfl rfl g_aumbry_aumbrykeep_Within rfl rfl rfl rfl ((withinN_ok S14.le k (((h.take 16).length : Nat) : Int) (by omega)).mono ?_)
  rintro e w16 ⟨rfl, hB15⟩
  have S17 := S14.call hB15
  refine ⟨_, rfl, trivial, ?_⟩
  refine T_re (v' := .int .i64 ((v : Nat) : Int)) (congrArg (Value.int .i64) hzv) ?_
  refine T_pev rfl rfl rfl rfl ?_
  refine T_pev rfl rfl rfl rfl ?_
  refine T_nil ?_
  refine W_seq ?_
  refine W_region ?_
  refine T_pev rfl rfl rfl rfl ?_
  refine T_callS rfl rfl g_aumbry_tree_Root rfl rfl rfl rfl ((root_ok S17.le hT hr4 (by omega)).mono ?_)
  rintro e w19 ⟨rfl, hB18⟩
  have S20 := S17.call hB18
  refine ⟨_, rfl, trivial, ?_⟩
  refine T_allocS S20 (fun _ _ => trivial) rfl rfl rfl rfl rfl rfl rfl fun b21 w22 S23 => ?_
  refine T_storeFS 0 S23 (fun _ _ => trivial) rfl rfl rfl rfl rfl rfl rfl rfl rfl (hVs (Go.Au.root_len hr4.1)) (hVs (Go.Au.root_len hr4.1)) (one_hA _) fun w24 S25 => ?_
  refine T_nil ?_
  refine W_seq ?_
  refine W_region ?_
  refine T_pev rfl rfl rfl rfl ?_
  refine T_pev rfl rfl rfl rfl ?_
  refine T_callS rfl rfl g_aumbry_tree_Proof rfl rfl rfl rfl ((proof_ok S25.le hT ((u : Nat) : Int) hr4 (by omega) (by omega)).mono ?_)
  rintro e w31 ⟨a26, c27, hc28, rfl, ho29, hB30⟩
  have S32 := S25.own hB30 ho29
  refine ⟨_, rfl, trivial, ?_⟩
  refine T_pev rfl rfl rfl rfl ?_
  refine T_pev rfl rfl rfl rfl ?_
  refine T_pev rfl rfl rfl rfl ?_
  refine T_pev rfl rfl rfl rfl ?_
  refine T_pev rfl rfl rfl rfl ?_
  refine T_nil ?_
  refine W_seq ?_
  refine W_region ?_
  refine T_pev rfl rfl rfl rfl ?_
  refine T_pev rfl rfl rfl rfl ?_
  refine T_callS rfl rfl g_aumbry_tree_Proof rfl rfl rfl rfl ((proof_ok S32.le hT ((v : Nat) : Int) hr4 (by omega) (by omega)).mono ?_)
  rintro e w38 ⟨a33, c34, hc35, rfl, ho36, hB37⟩
  have S39 := S32.own hB37 ho36
  refine ⟨_, rfl, trivial, ?_⟩
  refine T_pev rfl rfl rfl rfl ?_
  refine T_pev rfl rfl rfl rfl ?_
  refine T_pev rfl rfl rfl rfl ?_
  refine T_pev rfl rfl rfl rfl ?_
  refine T_pev rfl rfl rfl rfl ?_
  refine T_nil ?_
  refine W_seq ?_
  refine W_seq ?_
  refine W_region ?_
  have hw1 := own_way (n := (((h.take 16).length : Nat) : Int)) (i := ((u : Nat) : Int)) (hr4).1 rfl (by omega) (by omega) (by omega)
  have hw2 := own_way (n := (((h.take 16).length : Nat) : Int)) (i := ((v : Nat) : Int)) (hr4).1 rfl (by omega) (by omega) (by omega)
  have hlg4 := Go.Au.lg_le (n := (h.take 16).length) (m := 4) (by omega)
  have hbl1 := Go.Au.beside_len (Go.Au.rowP (h.take 16)) ((u : Nat) : Int).toNat (Go.Au.lg (h.take 16).length)
  refine T_pev rfl rfl rfl rfl ?_
  refine T_pev rfl rfl rfl rfl ?_
  refine T_pev rfl rfl rfl rfl ?_
  refine T_bool 45 false rfl (ndec_f rfl) ?_
  refine T_yes rfl rfl rfl ?_ rfl
  refine T_pev rfl rfl rfl rfl ?_
  refine T_yes rfl rfl rfl ?_ rfl
  refine T_pev rfl rfl rfl rfl ?_
  refine T_pev rfl rfl rfl rfl ?_
  refine T_nil ?_
  refine W_bool 48 false rfl (ndec_f rfl) ?_
  refine W_cond_false rfl ?_
  refine W_skip ?_
  refine W_seq ?_
  refine W_seq ?_
  refine W_draw rfl (by kernel_rfl) ?_
  have S40 := S39.drew
  refine T_loadFS 2 S40 rfl rfl rfl rfl rfl rfl rfl rfl rfl (hVs (Go.Au.root_len hr4.1)) ?_
  refine T_pev rfl rfl rfl rfl ?_
  refine T_pev rfl rfl rfl rfl ?_
  refine T_pev rfl rfl rfl rfl ?_
  refine T_pev rfl rfl rfl rfl ?_
  refine T_pev rfl rfl rfl rfl ?_
  refine T_idxR u hr4.2 rfl rfl rfl rfl rfl rfl rfl rfl rfl (by omega) (by omega) fun b41 o42 hc43 => ?_
  have hc44 := cells_h hr4.1 u (by omega) hc43
  have hl45 := len_h hr4.1 u (by omega)
  refine T_loadGA _ S40 hc44 rfl rfl rfl rfl rfl rfl rfl rfl (hVs hl45) ?_
  refine T_pev rfl rfl rfl rfl ?_
  obtain ⟨G47, hl48, S46, r49⟩ := S40.stillRow 1 rfl
  have r50 := RdH.mk (Go.Au.beside_all hr4.1 (by omega) (Nat.le_refl _)) (by decide) r49
  refine T_callS rfl rfl g_aumbry_tree_Check rfl rfl rfl rfl ((check_ok S46.le (hT.mono hl48) (Go.Au.root_len hr4.1) (((h.take 16).length : Nat) : Int) ((v : Nat) : Int) hl45 r50).mono ?_)
  rintro e w52 ⟨rfl, hB51⟩
  have S53 := S46.call hB51
  refine ⟨_, rfl, trivial, ?_⟩
  refine T_pev rfl rfl rfl rfl ?_
  refine T_nil ?_
  refine W_cond rfl (fun h54 => ?_) (fun h54 => ?_)
  · refine W_seq ?_
    refine W_region ?_
    refine T_pev rfl rfl rfl rfl ?_
    refine T_pev rfl rfl rfl rfl ?_
    refine T_pev rfl rfl rfl rfl ?_
    refine T_pev rfl rfl rfl rfl ?_
    refine T_bool 63 true rfl (ndec_t (fun e => pl_same hw2.1 hw2.2 (by omega) h54)) ?_
    refine T_yes rfl rfl rfl ?_ rfl
    refine T_callS rfl rfl g_aumbry_aumbrylaw07_wakes rfl rfl rfl rfl ((wakes_ok S53.le (hT.mono hl48)).mono ?_)
    rintro e w56 ⟨rfl, hB55⟩
    have S57 := S53.call hB55
    refine ⟨_, rfl, trivial, ?_⟩
    refine T_pev rfl rfl rfl rfl ?_
    refine T_pev rfl rfl rfl rfl ?_
    refine T_nil ?_
    refine W_ret ?_
    refine ⟨_, ⟨_, _, rfl, rfl, rfl⟩, ?_⟩
    exact ⟨rfl, S57.below⟩
  refine W_skip ?_
  refine W_seq ?_
  refine W_tree (planF Tryd.prog G47 [73, 77]) (.step 0 (.step 1 (.step 2 (.step 3 (.step 4 (.step 5 (.step 6 (.step 7 (.step 8 (.step 9 (.step 10 (.step 11 (.step 12 (.fork 13 17 (.step 14 (.step 15 (.step 16 (.step 17 (.step 18 (.step 19 .done)))))) (.step 13 (.step 14 (.step 15 (.step 16 (.step 18 (.step 19 .done)))))))))))))))))))) rfl (by kernel_rfl) S53.le ?_
  have S58 := S53.drew
  refine TT_step rfl ?_
  refine T_pev rfl rfl rfl rfl ?_
  refine T_nil ?_
  refine TT_step rfl ?_
  refine T_pev rfl rfl rfl rfl ?_
  refine T_nil ?_
  refine TT_step rfl ?_
  refine T_pev rfl rfl rfl rfl ?_
  refine T_nil ?_
  refine TT_step rfl ?_
  refine T_pev rfl rfl rfl rfl ?_
  refine T_nil ?_
  refine TT_step rfl ?_
  refine T_pev rfl rfl rfl rfl ?_
  refine T_nil ?_
  refine TT_step rfl ?_
  refine T_idxR u (hr4.mono hl48).2 rfl rfl rfl rfl rfl rfl rfl rfl rfl (by omega) (by omega) fun b59 o60 hc61 => ?_
  have hc62 := cells_h (hr4.mono hl48).1 u (by omega) hc61
  have hl63 := len_h (hr4.mono hl48).1 u (by omega)
  refine T_nil ?_
  refine TT_step rfl ?_
  refine T_loadGAP _ (fun _ h => h) hc62 rfl rfl rfl rfl rfl rfl rfl rfl (hVs hl63) ?_
  refine T_nil ?_
  refine TT_step rfl ?_
  refine T_pev rfl rfl rfl rfl ?_
  refine T_nil ?_
  refine TT_step rfl ?_
  refine T_pev rfl rfl rfl rfl ?_
  refine T_nil ?_
  refine TT_step rfl ?_
  refine T_idxR v (hr4.mono hl48).2 rfl rfl rfl rfl rfl rfl rfl rfl rfl (by omega) (by omega) fun b64 o65 hc66 => ?_
  have hc67 := cells_h (hr4.mono hl48).1 v (by omega) hc66
  have hl68 := len_h (hr4.mono hl48).1 v (by omega)
  refine T_nil ?_
  refine TT_step rfl ?_
  refine T_loadGAP _ (fun _ h => h) hc67 rfl rfl rfl rfl rfl rfl rfl rfl (hVs hl68) ?_
  refine T_nil ?_
  refine TT_step rfl ?_
  refine T_pev rfl rfl rfl rfl ?_
  refine T_nil ?_
  refine TT_step rfl ?_
  refine T_pev rfl rfl rfl rfl ?_
  refine T_nil ?_
  refine TT_fork rfl rfl ?_ ?_
  · obtain ⟨G70, hl71, S69, r72⟩ := S58.stillRow 0 rfl
    have r73 := RdH.mk (Go.Au.beside_all hr4.1 (by omega) (Nat.le_refl _)) (by decide) r72
    refine T_callS rfl rfl g_aumbry_tree_Break rfl rfl rfl rfl ((break_ok S69.le (hT.mono (hl48.trans hl71)) (((h.take 16).length : Nat) : Int) ((v : Nat) : Int) hl63 hl68 (r50.mono hl71) r73).mono ?_)
    rintro e w81 ⟨a74, c75, a76, c77, rfl, r78, r79, hB80⟩
    obtain ⟨G83, eG85⟩ : ∃ G, G = F.ext G70 w52.drew.heap.size w81 := ⟨_, rfl⟩
    obtain ⟨hl84, S82⟩ := S69.ext hB80
    rw [← eG85] at hl84 S82 r78 r79
    refine ⟨_, rfl, (((hl71.trans hl84)).trans S82.le), ?_⟩
    refine T_nil ?_
    refine TT_step rfl ?_
    refine T_pev rfl rfl rfl rfl ?_
    refine T_nil ?_
    refine TT_step rfl ?_
    refine T_pev rfl rfl rfl rfl ?_
    refine T_nil ?_
    refine TT_step rfl ?_
    refine T_pev rfl rfl rfl rfl ?_
    refine T_nil ?_
    refine TT_step rfl ?_
    refine T_allocS S82 (fun _ h => ((hl71.trans hl84)).trans h) rfl rfl rfl rfl rfl rfl rfl fun b86 w87 S88 => ?_
    refine T_nil ?_
    refine TT_step rfl ?_
    refine T_storeFS 0 S88 (fun _ h => ((hl71.trans hl84)).trans h) rfl rfl rfl rfl rfl rfl rfl rfl rfl (by first | rfl | simp [hVs, *]) (by first | rfl | simp [hVs, *]) (one_all rfl) fun w89 S90 => ?_
    refine T_nil ?_
    refine TT_step rfl ?_
    refine T_pev rfl rfl rfl rfl ?_
    refine T_nil ?_
    refine TT_done ?_
    refine W_seq ?_
    refine W_draw rfl (by kernel_rfl) ?_
    have S91 := S90.drew
    refine T_pev rfl rfl rfl rfl ?_
    refine T_pev rfl rfl rfl rfl ?_
    refine T_idxR u (hr4.mono (hl48.trans (hl71.trans hl84))).2 rfl rfl rfl rfl rfl rfl rfl rfl rfl (by omega) (by omega) fun b92 o93 hc94 => ?_
    have hc95 := cells_h (hr4.mono (hl48.trans (hl71.trans hl84))).1 u (by omega) hc94
    have hl96 := len_h (hr4.mono (hl48.trans (hl71.trans hl84))).1 u (by omega)
    refine T_loadGA _ S91 hc95 rfl rfl rfl rfl rfl rfl rfl rfl (hVs hl96) ?_
    refine T_pev rfl rfl rfl rfl ?_
    refine T_pev rfl rfl rfl rfl ?_
    refine T_idxR v (hr4.mono (hl48.trans (hl71.trans hl84))).2 rfl rfl rfl rfl rfl rfl rfl rfl rfl (by omega) (by omega) fun b97 o98 hc99 => ?_
    have hc100 := cells_h (hr4.mono (hl48.trans (hl71.trans hl84))).1 v (by omega) hc99
    have hl101 := len_h (hr4.mono (hl48.trans (hl71.trans hl84))).1 v (by omega)
    refine T_loadGA _ S91 hc100 rfl rfl rfl rfl rfl rfl rfl rfl (hVs hl101) ?_
    refine T_eqB (xs := (h.take 16).getD u []) (ys := (h.take 16).getD v []) rfl rfl rfl rfl rfl rfl rfl rfl rfl rfl rfl hl96 hl101 ?_
    refine T_pev rfl rfl rfl rfl ?_
    refine T_part (t := 92) rfl (List.cons_ne_nil _ _) (fun h102' => ?_) (fun h102' => ?_)
    · have h102 := of_decide_eq_true h102'
      refine T_yes rfl rfl rfl ?_ rfl
      refine T_pev rfl rfl rfl rfl ?_
      refine T_yes rfl rfl rfl ?_ rfl
      refine T_pev rfl rfl rfl rfl ?_
      refine T_yes rfl rfl rfl ?_ rfl
      refine T_callS rfl rfl g_aumbry_aumbrykeep_Same_aumbry_api_Hash rfl rfl rfl rfl ((sameH_ok S91.le (r50.mono (hl71.trans hl84)) (r73.mono hl84) (by first | omega | (simp; done) | (simp only [List.length_take, List.length_drop]; omega))).mono ?_)
      rintro e w104 ⟨rfl, hB103⟩
      have S105 := S91.call hB103
      refine ⟨_, rfl, trivial, ?_⟩
      refine T_pev rfl rfl rfl rfl ?_
      refine T_pev rfl rfl rfl rfl ?_
      refine T_nil ?_
      refine W_seq ?_
      refine W_region ?_
      refine T_pev rfl rfl rfl rfl ?_
      refine T_pev rfl rfl rfl rfl ?_
      refine T_pev rfl rfl rfl rfl ?_
      refine T_beq rfl rfl rfl rfl rfl rfl rfl ?_
      refine T_pev rfl rfl rfl rfl ?_
      refine T_bool 101 true rfl (decide_eq_true (pl_eq ((hr4.mono (hl48.trans (hl71.trans hl84)))).1 hlg4 hw1.1 hw2 h54 (by omega) (by omega) (by omega) h102)) ?_
      refine T_yes rfl rfl rfl ?_ rfl
      refine T_pev rfl rfl rfl rfl ?_
      refine T_yes rfl rfl rfl ?_ rfl
      refine T_pev rfl rfl rfl rfl ?_
      refine T_part (t := 103) rfl (List.cons_ne_nil _ _) (fun h106' => ?_) (fun h106' => ?_)
      · have h106 := h106'
        refine T_no rfl rfl rfl rfl rfl rfl ?_
        refine T_no rfl rfl rfl rfl rfl rfl ?_
        refine T_no rfl rfl rfl rfl rfl rfl ?_
        refine T_no rfl rfl rfl rfl rfl rfl ?_
        refine T_yes rfl rfl rfl ?_ rfl
        refine T_pev rfl rfl rfl rfl ?_
        refine T_pev rfl rfl rfl rfl ?_
        refine T_pev rfl rfl rfl rfl ?_
        refine T_yes rfl rfl rfl ?_ rfl
        refine T_callS rfl rfl g_aumbry_aumbrylaw07_wakes rfl rfl rfl rfl ((wakes_ok S105.le (hT.mono (hl48.trans (hl71.trans hl84)))).mono ?_)
        rintro e w108 ⟨rfl, hB107⟩
        have S109 := S105.call hB107
        refine ⟨_, rfl, trivial, ?_⟩
        refine T_pev rfl rfl rfl rfl ?_
        refine T_pev rfl rfl rfl rfl ?_
        refine T_nil ?_
        refine W_ret ?_
        refine ⟨_, ⟨_, _, rfl, rfl, rfl⟩, ?_⟩
        exact ⟨rfl, S109.below⟩
      have h106 := h106'
      refine T_yes rfl rfl rfl ?_ rfl
      refine T_fldm 0 rfl rfl rfl rfl rfl rfl (by decide) rfl rfl rfl ?_
      refine T_yes rfl rfl rfl ?_ rfl
      refine T_loadS 0 0 S105 rfl rfl rfl rfl rfl rfl rfl rfl rfl rfl ?_
      refine T_yes rfl rfl rfl ?_ rfl
      refine T_pev rfl rfl rfl rfl ?_
      refine T_yes rfl rfl rfl ?_ rfl
      refine T_pev rfl rfl rfl rfl ?_
      refine T_yes rfl rfl rfl ?_ rfl
      refine T_pev rfl rfl rfl rfl ?_
      refine T_pev rfl rfl rfl rfl ?_
      refine T_pev rfl rfl rfl rfl ?_
      refine T_bool 110 true rfl (decide_eq_true (pl_none h106)) ?_
      refine T_yes rfl rfl rfl ?_ rfl
      refine T_callS rfl rfl g_aumbry_aumbrylaw07_wakes rfl rfl rfl rfl ((wakes_ok S105.le (hT.mono (hl48.trans (hl71.trans hl84)))).mono ?_)
      rintro e w111 ⟨rfl, hB110⟩
      have S112 := S105.call hB110
      refine ⟨_, rfl, trivial, ?_⟩
      refine T_pev rfl rfl rfl rfl ?_
      refine T_pev rfl rfl rfl rfl ?_
      refine T_nil ?_
      refine W_ret ?_
      refine ⟨_, ⟨_, _, rfl, rfl, rfl⟩, ?_⟩
      exact ⟨rfl, S112.below⟩
    have h102 := of_decide_eq_false h102'
    refine T_no rfl rfl rfl rfl rfl rfl ?_
    refine T_no rfl rfl rfl rfl rfl rfl ?_
    refine T_no rfl rfl rfl rfl rfl rfl ?_
    refine T_pev rfl rfl rfl rfl ?_
    refine T_pev rfl rfl rfl rfl ?_
    refine T_nil ?_
    refine W_seq ?_
    refine W_region ?_
    refine T_pev rfl rfl rfl rfl ?_
    refine T_pev rfl rfl rfl rfl ?_
    refine T_pev rfl rfl rfl rfl ?_
    refine T_beq rfl rfl rfl rfl rfl rfl rfl ?_
    refine T_pev rfl rfl rfl rfl ?_
    refine T_bool 101 true rfl (decide_eq_true (pl_ne ((hr4.mono (hl48.trans (hl71.trans hl84)))).1 hlg4 hw1.1 hw2 h54 (by omega) (by omega) (by omega) h102)) ?_
    refine T_yes rfl rfl rfl ?_ rfl
    refine T_pev rfl rfl rfl rfl ?_
    refine T_yes rfl rfl rfl ?_ rfl
    refine T_pev rfl rfl rfl rfl ?_
    refine T_part (t := 103) rfl (List.cons_ne_nil _ _) (fun h113' => ?_) (fun h113' => ?_)
    · have h113 := h113'
      refine T_no rfl rfl rfl rfl rfl rfl ?_
      refine T_no rfl rfl rfl rfl rfl rfl ?_
      refine T_no rfl rfl rfl rfl rfl rfl ?_
      refine T_no rfl rfl rfl rfl rfl rfl ?_
      refine T_yes rfl rfl rfl ?_ rfl
      refine T_pev rfl rfl rfl rfl ?_
      refine T_pev rfl rfl rfl rfl ?_
      refine T_pev rfl rfl rfl rfl ?_
      refine T_yes rfl rfl rfl ?_ rfl
      refine T_callS rfl rfl g_aumbry_aumbrylaw07_wakes rfl rfl rfl rfl ((wakes_ok S91.le (hT.mono (hl48.trans (hl71.trans hl84)))).mono ?_)
      rintro e w115 ⟨rfl, hB114⟩
      have S116 := S91.call hB114
      refine ⟨_, rfl, trivial, ?_⟩
      refine T_pev rfl rfl rfl rfl ?_
      refine T_pev rfl rfl rfl rfl ?_
      refine T_nil ?_
      refine W_ret ?_
      refine ⟨_, ⟨_, _, rfl, rfl, rfl⟩, ?_⟩
      exact ⟨rfl, S116.below⟩
    have h113 := h113'
    refine T_yes rfl rfl rfl ?_ rfl
    refine T_fldm 0 rfl rfl rfl rfl rfl rfl (by decide) rfl rfl rfl ?_
    refine T_yes rfl rfl rfl ?_ rfl
    refine T_loadS 0 0 S91 rfl rfl rfl rfl rfl rfl rfl rfl rfl rfl ?_
    refine T_yes rfl rfl rfl ?_ rfl
    refine T_pev rfl rfl rfl rfl ?_
    refine T_yes rfl rfl rfl ?_ rfl
    refine T_pev rfl rfl rfl rfl ?_
    refine T_yes rfl rfl rfl ?_ rfl
    refine T_pev rfl rfl rfl rfl ?_
    refine T_pev rfl rfl rfl rfl ?_
    refine T_pev rfl rfl rfl rfl ?_
    refine T_bool 110 true rfl (decide_eq_true (pl_none h113)) ?_
    refine T_yes rfl rfl rfl ?_ rfl
    refine T_callS rfl rfl g_aumbry_aumbrylaw07_wakes rfl rfl rfl rfl ((wakes_ok S91.le (hT.mono (hl48.trans (hl71.trans hl84)))).mono ?_)
    rintro e w118 ⟨rfl, hB117⟩
    have S119 := S91.call hB117
    refine ⟨_, rfl, trivial, ?_⟩
    refine T_pev rfl rfl rfl rfl ?_
    refine T_pev rfl rfl rfl rfl ?_
    refine T_nil ?_
    refine W_ret ?_
    refine ⟨_, ⟨_, _, rfl, rfl, rfl⟩, ?_⟩
    exact ⟨rfl, S119.below⟩
  refine T_allocS S58 (fun _ h => ((Hp.le.refl _)).trans h) rfl rfl rfl rfl rfl rfl rfl fun b120 w121 S122 => ?_
  refine T_nil ?_
  refine TT_step rfl ?_
  obtain ⟨G124, hl125, S123, r126⟩ := S122.stillRow 1 rfl
  have r127 := RdH.mk (Go.Au.beside_all hr4.1 (by omega) (Nat.le_refl _)) (by decide) r126
  refine T_callS rfl rfl g_aumbry_tree_Break rfl rfl rfl rfl ((break_ok S123.le (hT.mono (hl48.trans hl125)) (((h.take 16).length : Nat) : Int) ((v : Nat) : Int) hl63 hl68 (r50.mono hl125) r127).mono ?_)
  rintro e w135 ⟨a128, c129, a130, c131, rfl, r132, r133, hB134⟩
  obtain ⟨G137, eG139⟩ : ∃ G, G = F.ext G124 w121.heap.size w135 := ⟨_, rfl⟩
  obtain ⟨hl138, S136⟩ := S123.ext hB134
  rw [← eG139] at hl138 S136 r132 r133
  refine ⟨_, rfl, (((hl125.trans hl138)).trans S136.le), ?_⟩
  refine T_nil ?_
  refine TT_step rfl ?_
  refine T_pev rfl rfl rfl rfl ?_
  refine T_nil ?_
  refine TT_step rfl ?_
  refine T_pev rfl rfl rfl rfl ?_
  refine T_nil ?_
  refine TT_step rfl ?_
  refine T_pev rfl rfl rfl rfl ?_
  refine T_nil ?_
  refine TT_step rfl ?_
  refine T_storeFS 0 S136 (fun _ h => ((hl125.trans hl138)).trans h) rfl rfl rfl rfl rfl rfl rfl rfl rfl (by first | rfl | simp [hVs, *]) (by first | rfl | simp [hVs, *]) (one_all rfl) fun w140 S141 => ?_
  refine T_nil ?_
  refine TT_step rfl ?_
  refine T_pev rfl rfl rfl rfl ?_
  refine T_nil ?_
  refine TT_done ?_
  refine W_seq ?_
  refine W_draw rfl (by kernel_rfl) ?_
  have S142 := S141.drew
  refine T_pev rfl rfl rfl rfl ?_
  refine T_pev rfl rfl rfl rfl ?_
  refine T_idxR u (hr4.mono (hl48.trans (hl125.trans hl138))).2 rfl rfl rfl rfl rfl rfl rfl rfl rfl (by omega) (by omega) fun b143 o144 hc145 => ?_
  have hc146 := cells_h (hr4.mono (hl48.trans (hl125.trans hl138))).1 u (by omega) hc145
  have hl147 := len_h (hr4.mono (hl48.trans (hl125.trans hl138))).1 u (by omega)
  refine T_loadGA _ S142 hc146 rfl rfl rfl rfl rfl rfl rfl rfl (hVs hl147) ?_
  refine T_pev rfl rfl rfl rfl ?_
  refine T_pev rfl rfl rfl rfl ?_
  refine T_idxR v (hr4.mono (hl48.trans (hl125.trans hl138))).2 rfl rfl rfl rfl rfl rfl rfl rfl rfl (by omega) (by omega) fun b148 o149 hc150 => ?_
  have hc151 := cells_h (hr4.mono (hl48.trans (hl125.trans hl138))).1 v (by omega) hc150
  have hl152 := len_h (hr4.mono (hl48.trans (hl125.trans hl138))).1 v (by omega)
  refine T_loadGA _ S142 hc151 rfl rfl rfl rfl rfl rfl rfl rfl (hVs hl152) ?_
  refine T_eqB (xs := (h.take 16).getD u []) (ys := (h.take 16).getD v []) rfl rfl rfl rfl rfl rfl rfl rfl rfl rfl rfl hl147 hl152 ?_
  refine T_pev rfl rfl rfl rfl ?_
  refine T_part (t := 92) rfl (List.cons_ne_nil _ _) (fun h153' => ?_) (fun h153' => ?_)
  · have h153 := of_decide_eq_true h153'
    refine T_yes rfl rfl rfl ?_ rfl
    refine T_pev rfl rfl rfl rfl ?_
    refine T_yes rfl rfl rfl ?_ rfl
    refine T_pev rfl rfl rfl rfl ?_
    refine T_yes rfl rfl rfl ?_ rfl
    refine T_callS rfl rfl g_aumbry_aumbrykeep_Same_aumbry_api_Hash rfl rfl rfl rfl ((sameH_ok S142.le (r50.mono (hl125.trans hl138)) (r127.mono hl138) (by first | omega | (simp; done) | (simp only [List.length_take, List.length_drop]; omega))).mono ?_)
    rintro e w155 ⟨rfl, hB154⟩
    have S156 := S142.call hB154
    refine ⟨_, rfl, trivial, ?_⟩
    refine T_pev rfl rfl rfl rfl ?_
    refine T_pev rfl rfl rfl rfl ?_
    refine T_nil ?_
    refine W_seq ?_
    refine W_region ?_
    refine T_pev rfl rfl rfl rfl ?_
    refine T_pev rfl rfl rfl rfl ?_
    refine T_pev rfl rfl rfl rfl ?_
    refine T_beq rfl rfl rfl rfl rfl rfl rfl ?_
    refine T_pev rfl rfl rfl rfl ?_
    refine T_bool 101 true rfl (decide_eq_true (pl_eq ((hr4.mono (hl48.trans (hl125.trans hl138)))).1 hlg4 hw1.1 hw2 h54 (by omega) (by omega) (by omega) h153)) ?_
    refine T_yes rfl rfl rfl ?_ rfl
    refine T_pev rfl rfl rfl rfl ?_
    refine T_yes rfl rfl rfl ?_ rfl
    refine T_pev rfl rfl rfl rfl ?_
    refine T_part (t := 103) rfl (List.cons_ne_nil _ _) (fun h157' => ?_) (fun h157' => ?_)
    · have h157 := h157'
      refine T_no rfl rfl rfl rfl rfl rfl ?_
      refine T_no rfl rfl rfl rfl rfl rfl ?_
      refine T_no rfl rfl rfl rfl rfl rfl ?_
      refine T_no rfl rfl rfl rfl rfl rfl ?_
      refine T_yes rfl rfl rfl ?_ rfl
      refine T_pev rfl rfl rfl rfl ?_
      refine T_pev rfl rfl rfl rfl ?_
      refine T_pev rfl rfl rfl rfl ?_
      refine T_yes rfl rfl rfl ?_ rfl
      refine T_callS rfl rfl g_aumbry_aumbrylaw07_wakes rfl rfl rfl rfl ((wakes_ok S156.le (hT.mono (hl48.trans (hl125.trans hl138)))).mono ?_)
      rintro e w159 ⟨rfl, hB158⟩
      have S160 := S156.call hB158
      refine ⟨_, rfl, trivial, ?_⟩
      refine T_pev rfl rfl rfl rfl ?_
      refine T_pev rfl rfl rfl rfl ?_
      refine T_nil ?_
      refine W_ret ?_
      refine ⟨_, ⟨_, _, rfl, rfl, rfl⟩, ?_⟩
      exact ⟨rfl, S160.below⟩
    have h157 := h157'
    refine T_yes rfl rfl rfl ?_ rfl
    refine T_fldm 0 rfl rfl rfl rfl rfl rfl (by decide) rfl rfl rfl ?_
    refine T_yes rfl rfl rfl ?_ rfl
    refine T_loadS 0 0 S156 rfl rfl rfl rfl rfl rfl rfl rfl rfl rfl ?_
    refine T_yes rfl rfl rfl ?_ rfl
    refine T_pev rfl rfl rfl rfl ?_
    refine T_yes rfl rfl rfl ?_ rfl
    refine T_pev rfl rfl rfl rfl ?_
    refine T_yes rfl rfl rfl ?_ rfl
    refine T_pev rfl rfl rfl rfl ?_
    refine T_pev rfl rfl rfl rfl ?_
    refine T_pev rfl rfl rfl rfl ?_
    refine T_bool 110 true rfl (decide_eq_true (pl_none h157)) ?_
    refine T_yes rfl rfl rfl ?_ rfl
    refine T_callS rfl rfl g_aumbry_aumbrylaw07_wakes rfl rfl rfl rfl ((wakes_ok S156.le (hT.mono (hl48.trans (hl125.trans hl138)))).mono ?_)
    rintro e w162 ⟨rfl, hB161⟩
    have S163 := S156.call hB161
    refine ⟨_, rfl, trivial, ?_⟩
    refine T_pev rfl rfl rfl rfl ?_
    refine T_pev rfl rfl rfl rfl ?_
    refine T_nil ?_
    refine W_ret ?_
    refine ⟨_, ⟨_, _, rfl, rfl, rfl⟩, ?_⟩
    exact ⟨rfl, S163.below⟩
  have h153 := of_decide_eq_false h153'
  refine T_no rfl rfl rfl rfl rfl rfl ?_
  refine T_no rfl rfl rfl rfl rfl rfl ?_
  refine T_no rfl rfl rfl rfl rfl rfl ?_
  refine T_pev rfl rfl rfl rfl ?_
  refine T_pev rfl rfl rfl rfl ?_
  refine T_nil ?_
  refine W_seq ?_
  refine W_region ?_
  refine T_pev rfl rfl rfl rfl ?_
  refine T_pev rfl rfl rfl rfl ?_
  refine T_pev rfl rfl rfl rfl ?_
  refine T_beq rfl rfl rfl rfl rfl rfl rfl ?_
  refine T_pev rfl rfl rfl rfl ?_
  refine T_bool 101 true rfl (decide_eq_true (pl_ne ((hr4.mono (hl48.trans (hl125.trans hl138)))).1 hlg4 hw1.1 hw2 h54 (by omega) (by omega) (by omega) h153)) ?_
  refine T_yes rfl rfl rfl ?_ rfl
  refine T_pev rfl rfl rfl rfl ?_
  refine T_yes rfl rfl rfl ?_ rfl
  refine T_pev rfl rfl rfl rfl ?_
  refine T_part (t := 103) rfl (List.cons_ne_nil _ _) (fun h164' => ?_) (fun h164' => ?_)
  · have h164 := h164'
    refine T_no rfl rfl rfl rfl rfl rfl ?_
    refine T_no rfl rfl rfl rfl rfl rfl ?_
    refine T_no rfl rfl rfl rfl rfl rfl ?_
    refine T_no rfl rfl rfl rfl rfl rfl ?_
    refine T_yes rfl rfl rfl ?_ rfl
    refine T_pev rfl rfl rfl rfl ?_
    refine T_pev rfl rfl rfl rfl ?_
    refine T_pev rfl rfl rfl rfl ?_
    refine T_yes rfl rfl rfl ?_ rfl
    refine T_callS rfl rfl g_aumbry_aumbrylaw07_wakes rfl rfl rfl rfl ((wakes_ok S142.le (hT.mono (hl48.trans (hl125.trans hl138)))).mono ?_)
    rintro e w166 ⟨rfl, hB165⟩
    have S167 := S142.call hB165
    refine ⟨_, rfl, trivial, ?_⟩
    refine T_pev rfl rfl rfl rfl ?_
    refine T_pev rfl rfl rfl rfl ?_
    refine T_nil ?_
    refine W_ret ?_
    refine ⟨_, ⟨_, _, rfl, rfl, rfl⟩, ?_⟩
    exact ⟨rfl, S167.below⟩
  have h164 := h164'
  refine T_yes rfl rfl rfl ?_ rfl
  refine T_fldm 0 rfl rfl rfl rfl rfl rfl (by decide) rfl rfl rfl ?_
  refine T_yes rfl rfl rfl ?_ rfl
  refine T_loadS 0 0 S142 rfl rfl rfl rfl rfl rfl rfl rfl rfl rfl ?_
  refine T_yes rfl rfl rfl ?_ rfl
  refine T_pev rfl rfl rfl rfl ?_
  refine T_yes rfl rfl rfl ?_ rfl
  refine T_pev rfl rfl rfl rfl ?_
  refine T_yes rfl rfl rfl ?_ rfl
  refine T_pev rfl rfl rfl rfl ?_
  refine T_pev rfl rfl rfl rfl ?_
  refine T_pev rfl rfl rfl rfl ?_
  refine T_bool 110 true rfl (decide_eq_true (pl_none h164)) ?_
  refine T_yes rfl rfl rfl ?_ rfl
  refine T_callS rfl rfl g_aumbry_aumbrylaw07_wakes rfl rfl rfl rfl ((wakes_ok S142.le (hT.mono (hl48.trans (hl125.trans hl138)))).mono ?_)
  rintro e w169 ⟨rfl, hB168⟩
  have S170 := S142.call hB168
  refine ⟨_, rfl, trivial, ?_⟩
  refine T_pev rfl rfl rfl rfl ?_
  refine T_pev rfl rfl rfl rfl ?_
  refine T_nil ?_
  refine W_ret ?_
  refine ⟨_, ⟨_, _, rfl, rfl, rfl⟩, ?_⟩
  exact ⟨rfl, S170.below⟩


theorem treeAll_ok {H : Hp} {w : World} (hH : H.le (hw w)) (hT : Tabs H) {h : List (List UInt8)} {aa0 : Option Addr} {nn0 cc0 : Nat} (hx : RdH H (.slice aa0 nn0 cc0) 32 h) (i k b : Int) :
    Calls Tryd.prog 11 #[.slice aa0 nn0 cc0, .int .i64 i, .int .i64 k, .int .i64 b] w fun e w' => e = .returned (.bool true) ∧ Below w.heap.size w w' := by
  obtain rfl : nn0 = h.length := hx.len
  have hxcap : h.length ≤ cc0 := hx.2.capOf
  have hh18 : (h.take 18).length ≤ 18 := by rw [List.length_take]; omega
  have hlg5 := Go.Au.lg_le (n := (h.take 18).length) (m := 5) (by omega)
  refine enter4 _ Tryd.func11 rfl Tryd.ntmps11 Tryd.results11 rfl ?_
  have S0 := St.start w hH
  refine W_seq ?_
  refine W_region ?_
  refine T_pev rfl rfl rfl rfl ?_
  refine T_nil ?_
  refine W_seq ?_
  refine W_region ?_
  refine T_pev rfl rfl rfl rfl ?_
  refine T_callS rfl rfl g_aumbry_aumbrykeep_Cut_aumbry_api_Hash rfl rfl rfl rfl ((cutH_ok S0.le hx 18).mono ?_)
  rintro e w6 ⟨a1, c2, hc3, rfl, hr4, hB5⟩
  have S7 := S0.call hB5
  refine ⟨_, rfl, trivial, ?_⟩
  refine T_pev rfl rfl rfl rfl ?_
  refine T_nil ?_
  refine W_seq ?_
  refine W_seq ?_
  refine W_region ?_
  refine T_pev rfl rfl rfl rfl ?_
  refine T_pev rfl rfl rfl rfl ?_
  refine T_pev rfl rfl rfl rfl ?_
  refine T_nil ?_
  refine W_cond_dec rfl (fun h8 => ?_) (fun h8 => ?_)
  · refine W_seq ?_
    refine W_region ?_
    refine T_callS rfl rfl g_aumbry_aumbrylaw07_wakes rfl rfl rfl rfl ((wakes_ok S7.le hT).mono ?_)
    rintro e w10 ⟨rfl, hB9⟩
    have S11 := S7.call hB9
    refine ⟨_, rfl, trivial, ?_⟩
    refine T_pev rfl rfl rfl rfl ?_
    refine T_nil ?_
    refine W_ret ?_
    refine ⟨_, ⟨_, _, rfl, rfl, rfl⟩, ?_⟩
    exact ⟨rfl, S11.below⟩
  refine W_skip ?_
  refine W_seq ?_
  refine W_region ?_
  refine T_pev rfl rfl rfl rfl ?_
  refine T_callS rfl rfl g_aumbry_tree_Root rfl rfl rfl rfl ((root_ok S7.le hT hr4 (by omega)).mono ?_)
  rintro e w13 ⟨rfl, hB12⟩
  have S14 := S7.call hB12
  refine ⟨_, rfl, trivial, ?_⟩
  refine T_allocS S14 (fun _ _ => trivial) rfl rfl rfl rfl rfl rfl rfl fun b15 w16 S17 => ?_
  refine T_storeFS 0 S17 (fun _ _ => trivial) rfl rfl rfl rfl rfl rfl rfl rfl rfl (hVs (Go.Au.root_len hr4.1)) (hVs (Go.Au.root_len hr4.1)) (one_hA _) fun w18 S19 => ?_
  refine T_nil ?_
  refine W_seq ?_
  refine W_seq ?_
  refine W_region ?_
  refine T_pev rfl rfl rfl rfl ?_
  refine T_pev rfl rfl rfl rfl ?_
  refine T_pev rfl rfl rfl rfl ?_
  refine T_nil ?_
  refine W_block ?_
  obtain ⟨G21, hl22, S20, r23⟩ := S19.stillBlk 0 rfl
  refine W_loop (fun M ρ w' => ∃ (j : Nat) (G24 : Hp), M = (h.take 18).length - j ∧ j ≤ (h.take 18).length ∧ ρ = [(0, .slice a1 (h.take 18).length c2), (1, .int .i64 i), (2, .int .i64 k), (3, .int .i64 b), (9, .pointer (some ⟨b15, 0, none⟩)), (30, .int .i64 (((h.take 18).length : Nat) : Int)), (31, .int .i64 (j : Int))] ∧ G21.le G24 ∧ St w H G24 [] w')
    ((h.take 18).length - 0) [(0, .slice a1 (h.take 18).length c2), (1, .int .i64 i), (2, .int .i64 k), (3, .int .i64 b), (9, .pointer (some ⟨b15, 0, none⟩)), (30, .int .i64 (((h.take 18).length : Nat) : Int)), (31, .int .i64 ((0 : Nat) : Int))] ⟨rfl, (congrArg (fun z => some (Value.int .i64 z)) (by omega)), (congrArg (fun z => some (Value.int .i64 z)) (by omega)), (congrArg (fun z => some (Value.int .i64 z)) (by omega)), rfl, (congrArg (fun z => some (Value.int .i64 z)) (by omega)), (congrArg (fun z => some (Value.int .i64 z)) (by omega)), trivial⟩ ⟨0, G21, rfl, (by omega), rfl, Hp.le.refl _, S20⟩ ?_
  rintro M ρ w26 ⟨j, G24, rfl, hp28, rfl, hl25, S27⟩
  refine W_seq ?_
  refine W_region ?_
  refine T_pev rfl rfl rfl rfl ?_
  refine T_nil ?_
  refine W_seq ?_
  refine W_cond_dec rfl (fun h29 => ?_) (fun h29 => ?_)
  · refine W_skip ?_
    refine W_seq ?_
    refine W_block ?_
    refine W_seq ?_
    refine W_region ?_
    refine T_pev rfl rfl rfl rfl ?_
    refine T_pev rfl rfl rfl rfl ?_
    refine T_nil ?_
    refine W_seq ?_
    refine W_region ?_
    refine T_pev rfl rfl rfl rfl ?_
    refine T_pev rfl rfl rfl rfl ?_
    refine T_callS rfl rfl g_aumbry_tree_Proof rfl rfl rfl rfl ((proof_ok S27.le (hT.mono (hl22.trans hl25)) (j : Int) (hr4.mono (hl22.trans hl25)) (by omega) (by omega)).mono ?_)
    rintro e w35 ⟨a30, c31, hc32, rfl, ho33, hB34⟩
    have S36 := S27.own hB34 ho33
    refine ⟨_, rfl, trivial, ?_⟩
    refine T_pev rfl rfl rfl rfl ?_
    refine T_pev rfl rfl rfl rfl ?_
    refine T_pev rfl rfl rfl rfl ?_
    refine T_pev rfl rfl rfl rfl ?_
    refine T_pev rfl rfl rfl rfl ?_
    refine T_nil ?_
    refine W_seq ?_
    have hw := own_way (n := (((h.take 18).length : Nat) : Int)) (i := ((j : Nat) : Int)) ((hr4.mono (hl22.trans hl25))).1 rfl (by omega) (by omega) (by omega)
    refine W_draw rfl (by kernel_rfl) ?_
    have S37 := S36.drew
    refine T_pev rfl rfl rfl rfl ?_
    refine T_pev rfl rfl rfl rfl ?_
    refine T_pev rfl rfl rfl rfl ?_
    refine T_bool 42 false rfl (ndec_f rfl) ?_
    refine T_yes rfl rfl rfl ?_ rfl
    refine T_loadGA _ S37 (still_cells (hl25 _ _ r23)) rfl rfl rfl rfl rfl rfl rfl rfl (hVs (Go.Au.root_len hr4.1)) ?_
    refine T_yes rfl rfl rfl ?_ rfl
    refine T_pev rfl rfl rfl rfl ?_
    refine T_yes rfl rfl rfl ?_ rfl
    refine T_pev rfl rfl rfl rfl ?_
    refine T_yes rfl rfl rfl ?_ rfl
    refine T_pev rfl rfl rfl rfl ?_
    refine T_yes rfl rfl rfl ?_ rfl
    refine T_pev rfl rfl rfl rfl ?_
    refine T_yes rfl rfl rfl ?_ rfl
    refine T_pev rfl rfl rfl rfl ?_
    refine T_yes rfl rfl rfl ?_ rfl
    refine T_idxR j (hr4.mono (hl22.trans hl25)).2 rfl rfl rfl rfl rfl rfl rfl rfl rfl (by omega) (by omega) fun b38 o39 hc40 => ?_
    have hc41 := cells_h (hr4.mono (hl22.trans hl25)).1 j (by omega) hc40
    have hl42 := len_h (hr4.mono (hl22.trans hl25)).1 j (by omega)
    refine T_yes rfl rfl rfl ?_ rfl
    refine T_loadGA _ S37 hc41 rfl rfl rfl rfl rfl rfl rfl rfl (hVs hl42) ?_
    refine T_yes rfl rfl rfl ?_ rfl
    refine T_pev rfl rfl rfl rfl ?_
    refine T_yes rfl rfl rfl ?_ rfl
    obtain ⟨G44, hl45, S43, r46⟩ := S37.stillRow 0 rfl
    have r47 := RdH.mk (Go.Au.beside_all (hr4.mono (hl22.trans hl25)).1 (by omega) (Nat.le_refl _)) (by decide) r46
    refine T_callS rfl rfl g_aumbry_tree_Check rfl rfl rfl rfl ((check_ok S43.le (hT.mono (hl22.trans (hl25.trans hl45))) (Go.Au.root_len hr4.1) (((h.take 18).length : Nat) : Int) (j : Int) hl42 r47).mono ?_)
    rintro e w49 ⟨rfl, hB48⟩
    have S50 := S43.call hB48
    refine ⟨_, rfl, trivial, ?_⟩
    refine T_yes rfl rfl rfl ?_ rfl
    refine T_pev rfl rfl rfl rfl ?_
    refine T_pev rfl rfl rfl rfl ?_
    refine T_nil ?_
    refine W_bool 54 false rfl (not_own hw.1 hw.2) ?_
    refine W_cond_false rfl ?_
    refine W_skip ?_
    refine W_region ?_
    refine T_ari rfl rfl rfl rfl (by omega) ?_
    refine T_pev rfl rfl rfl rfl ?_
    refine T_nil ?_
    exact ⟨(h.take 18).length - (j + 1), [(0, .slice a1 (h.take 18).length c2), (1, .int .i64 i), (2, .int .i64 k), (3, .int .i64 b), (9, .pointer (some ⟨b15, 0, none⟩)), (30, .int .i64 (((h.take 18).length : Nat) : Int)), (31, .int .i64 ((j + 1 : Nat) : Int))], by omega, ⟨rfl, (congrArg (fun z => some (Value.int .i64 z)) (by omega)), (congrArg (fun z => some (Value.int .i64 z)) (by omega)), (congrArg (fun z => some (Value.int .i64 z)) (by omega)), rfl, (congrArg (fun z => some (Value.int .i64 z)) (by omega)), (congrArg (fun z => some (Value.int .i64 z)) (by omega)), trivial⟩, j + 1, G44, rfl, (by omega), rfl, (hl25.trans hl45), S50⟩
  refine W_exit ?_
  refine W_seq ?_
  refine W_region ?_
  have hm1z := Int.emod_nonneg i (show (((h.take 18).length : Nat) : Int) ≠ 0 by omega)
  have hm2z := Int.emod_lt_of_pos i (show 0 < (((h.take 18).length : Nat) : Int) by omega)
  obtain ⟨z, hzz⟩ : ∃ zz : Nat, i % (((h.take 18).length : Nat) : Int) = (zz : Int) := ⟨(i % (((h.take 18).length : Nat) : Int)).toNat, by omega⟩
  have hm1v := Int.emod_nonneg k (show (((h.take 18).length : Nat) : Int) ≠ 0 by omega)
  have hm2v := Int.emod_lt_of_pos k (show 0 < (((h.take 18).length : Nat) : Int) by omega)
  obtain ⟨v, hzv⟩ : ∃ zz : Nat, k % (((h.take 18).length : Nat) : Int) = (zz : Int) := ⟨(k % (((h.take 18).length : Nat) : Int)).toNat, by omega⟩
  obtain ⟨c, hc32⟩ : ∃ c : Nat, b % 32 = (c : Int) := ⟨(b % 32).toNat, by omega⟩
  refine T_pev rfl rfl rfl rfl ?_
  refine T_pev rfl rfl rfl rfl ?_
  refine T_pev rfl rfl rfl rfl ?_
  refine T_callS rfl rfl g_aumbry_aumbrykeep_Within rfl rfl rfl rfl ((withinN_ok S27.le i (((h.take 18).length : Nat) : Int) (by omega)).mono ?_)
  rintro e w52 ⟨rfl, hB51⟩
  have S53 := S27.call hB51
  refine ⟨_, rfl, trivial, ?_⟩
  refine T_re (v' := .int .i64 ((z : Nat) : Int)) (congrArg (Value.int .i64) hzz) ?_
  refine T_pev rfl rfl rfl rfl ?_
  refine T_pev rfl rfl rfl rfl ?_
  refine T_pev rfl rfl rfl rfl ?_
  refine T_callS rfl rfl g_aumbry_aumbrykeep_Within rfl rfl rfl rfl ((withinN_ok S53.le k (((h.take 18).length : Nat) : Int) (by omega)).mono ?_)
  rintro e w55 ⟨rfl, hB54⟩
  have S56 := S53.call hB54
  refine ⟨_, rfl, trivial, ?_⟩
  refine T_re (v' := .int .i64 ((v : Nat) : Int)) (congrArg (Value.int .i64) hzv) ?_
  refine T_pev rfl rfl rfl rfl ?_
  refine T_pev rfl rfl rfl rfl ?_
  refine T_nil ?_
  refine W_seq ?_
  refine W_region ?_
  refine T_pev rfl rfl rfl rfl ?_
  refine T_pev rfl rfl rfl rfl ?_
  refine T_callS rfl rfl g_aumbry_tree_Proof rfl rfl rfl rfl ((proof_ok S56.le (hT.mono (hl22.trans hl25)) ((z : Nat) : Int) (hr4.mono (hl22.trans hl25)) (by omega) (by omega)).mono ?_)
  rintro e w62 ⟨a57, c58, hc59, rfl, ho60, hB61⟩
  have S63 := S56.own hB61 ho60
  refine ⟨_, rfl, trivial, ?_⟩
  refine T_pev rfl rfl rfl rfl ?_
  refine T_pev rfl rfl rfl rfl ?_
  refine T_pev rfl rfl rfl rfl ?_
  refine T_pev rfl rfl rfl rfl ?_
  refine T_pev rfl rfl rfl rfl ?_
  refine T_nil ?_
  refine W_seq ?_
  have hw1 := own_way (n := (((h.take 18).length : Nat) : Int)) (i := ((z : Nat) : Int)) ((hr4.mono (hl22.trans hl25))).1 rfl (by omega) (by omega) (by omega)
  have hx32 : ((h.take 18).getD z []).length = 32 := Go.Au.getD_len ((hr4.mono (hl22.trans hl25))).1 (by omega)
  have hbl := Go.Au.beside_len (Go.Au.rowP (h.take 18)) ((z : Nat) : Int).toNat (Go.Au.lg (h.take 18).length)
  have hball := Go.Au.beside_all ((hr4.mono (hl22.trans hl25))).1 (i := ((z : Nat) : Int).toNat) (by omega) (Nat.le_refl _)
  refine W_region ?_
  refine T_pev rfl rfl rfl rfl ?_
  refine T_pev rfl rfl rfl rfl ?_
  refine T_idxR z (hr4.mono (hl22.trans hl25)).2 rfl rfl rfl rfl rfl rfl rfl rfl rfl (by omega) (by omega) fun b64 o65 hc66 => ?_
  have hc67 := cells_h (hr4.mono (hl22.trans hl25)).1 z (by omega) hc66
  have hl68 := len_h (hr4.mono (hl22.trans hl25)).1 z (by omega)
  refine T_loadGA _ S63 hc67 rfl rfl rfl rfl rfl rfl rfl rfl (hVs hl68) ?_
  refine T_allocS S63 (fun _ _ => trivial) rfl rfl rfl rfl rfl rfl rfl fun b69 w70 S71 => ?_
  refine T_storeFS 0 S71 (fun _ _ => trivial) rfl rfl rfl rfl rfl rfl rfl rfl rfl (hVs hl68) (hVs hl68) (one_hA _) fun w72 S73 => ?_
  refine T_nil ?_
  refine W_seq ?_
  refine W_region ?_
  refine T_pev rfl rfl rfl rfl ?_
  refine T_callS rfl rfl g_aumbry_aumbrykeep_Within rfl rfl rfl rfl ((withinN_ok S73.le b (32 : Int) (by omega)).mono ?_)
  rintro e w75 ⟨rfl, hB74⟩
  have S76 := S73.call hB74
  refine ⟨_, rfl, trivial, ?_⟩
  refine T_re (v' := .int .i64 ((c : Nat) : Int)) (congrArg (Value.int .i64) hc32) ?_
  refine T_idxA1 rfl rfl rfl rfl rfl rfl rfl rfl rfl (by first | omega | decide) ?_
  refine T_loadS 0 c S76 rfl rfl rfl rfl rfl rfl rfl rfl (by omega) (cell_hV _ c (by rw [hl68]; omega)) ?_
  refine T_pev rfl rfl rfl rfl ?_
  refine T_re (v' := bV (((h.take 18).getD z []).getD c 0 ^^^ 1)) (congrArg (Value.int .u8) (xorb _)) ?_
  refine T_idxA1 rfl rfl rfl rfl rfl rfl rfl rfl rfl (by first | omega | decide) ?_
  refine T_store1S 0 c S76 (fun _ _ => trivial) rfl rfl rfl rfl rfl rfl rfl rfl rfl rfl rfl (by omega) (by rw [hVs hx32]; omega) fun w77 S78 => ?_
  rw [hV_set] at S78
  refine T_nil ?_
  refine W_seq ?_
  refine W_seq ?_
  have hx2 : (((h.take 18).getD z []).set c (((h.take 18).getD z []).getD c 0 ^^^ 1)).length = 32 := by rw [List.length_set]; exact hx32
  refine W_region ?_
  refine T_loadGA _ S78 (still_cells (hl25 _ _ r23)) rfl rfl rfl rfl rfl rfl rfl rfl (hVs (Go.Au.root_len hr4.1)) ?_
  refine T_pev rfl rfl rfl rfl ?_
  refine T_pev rfl rfl rfl rfl ?_
  refine T_pev rfl rfl rfl rfl ?_
  refine T_loadFS 0 S78 rfl rfl rfl rfl rfl rfl rfl rfl rfl (hVs (by rw [List.length_set]; exact hx32)) ?_
  refine T_pev rfl rfl rfl rfl ?_
  obtain ⟨G80, hl81, S79, r82⟩ := S78.stillRow 1 rfl
  have r83 := RdH.mk (Go.Au.beside_all (hr4.mono (hl22.trans hl25)).1 (by omega) (Nat.le_refl _)) (by decide) r82
  refine T_callS rfl rfl g_aumbry_tree_Check rfl rfl rfl rfl ((check_ok S79.le (hT.mono (hl22.trans (hl25.trans hl81))) (Go.Au.root_len hr4.1) (((h.take 18).length : Nat) : Int) ((z : Nat) : Int) (by rw [List.length_set]; exact hx32) r83).mono ?_)
  rintro e w85 ⟨rfl, hB84⟩
  have S86 := S79.call hB84
  refine ⟨_, rfl, trivial, ?_⟩
  refine T_nil ?_
  refine W_cond rfl (fun h87 => ?_) (fun h87 => ?_)
  · refine W_seq ?_
    obtain ⟨G89, hl90, S88, r91⟩ := S86.stillBlk 0 rfl
    refine W_tree (planF Tryd.prog G89 [94, 95]) (.step 0 (.step 1 (.step 2 (.step 3 (.step 4 (.step 5 (.step 6 (.step 7 (.step 8 (.step 9 (.fork 10 14 (.step 11 (.step 12 (.step 13 (.step 14 (.step 15 (.step 16 .done)))))) (.step 10 (.step 11 (.step 12 (.step 13 (.step 15 (.step 16 .done))))))))))))))))) rfl (by kernel_rfl) S88.le ?_
    have S92 := S88.drew
    refine TT_step rfl ?_
    refine T_pev rfl rfl rfl rfl ?_
    refine T_nil ?_
    refine TT_step rfl ?_
    refine T_pev rfl rfl rfl rfl ?_
    refine T_nil ?_
    refine TT_step rfl ?_
    refine T_pev rfl rfl rfl rfl ?_
    refine T_nil ?_
    refine TT_step rfl ?_
    refine T_pev rfl rfl rfl rfl ?_
    refine T_nil ?_
    refine TT_step rfl ?_
    refine T_pev rfl rfl rfl rfl ?_
    refine T_nil ?_
    refine TT_step rfl ?_
    refine T_idxR z (hr4.mono (hl22.trans (hl25.trans (hl81.trans hl90)))).2 rfl rfl rfl rfl rfl rfl rfl rfl rfl (by omega) (by omega) fun b93 o94 hc95 => ?_
    have hc96 := cells_h (hr4.mono (hl22.trans (hl25.trans (hl81.trans hl90)))).1 z (by omega) hc95
    have hl97 := len_h (hr4.mono (hl22.trans (hl25.trans (hl81.trans hl90)))).1 z (by omega)
    refine T_nil ?_
    refine TT_step rfl ?_
    refine T_loadGAP _ (fun _ h => h) hc96 rfl rfl rfl rfl rfl rfl rfl rfl (hVs hl97) ?_
    refine T_nil ?_
    refine TT_step rfl ?_
    refine T_loadGAP _ (fun _ h => h) (still_cells r91) rfl rfl rfl rfl rfl rfl rfl rfl (hVs (by rw [List.length_set]; exact hx32)) ?_
    refine T_nil ?_
    refine TT_step rfl ?_
    refine T_pev rfl rfl rfl rfl ?_
    refine T_nil ?_
    refine TT_step rfl ?_
    refine T_pev rfl rfl rfl rfl ?_
    refine T_nil ?_
    refine TT_fork rfl rfl ?_ ?_
    · refine T_callS rfl rfl g_aumbry_tree_Break rfl rfl rfl rfl ((break_ok S92.le (hT.mono (hl22.trans (hl25.trans (hl81.trans hl90)))) (((h.take 18).length : Nat) : Int) ((z : Nat) : Int) hl97 (by rw [List.length_set]; exact hx32) (r83.mono hl90) (r83.mono hl90)).mono ?_)
      rintro e w105 ⟨a98, c99, a100, c101, rfl, r102, r103, hB104⟩
      obtain ⟨G107, eG109⟩ : ∃ G, G = F.ext G89 w85.drew.heap.size w105 := ⟨_, rfl⟩
      obtain ⟨hl108, S106⟩ := S92.ext hB104
      rw [← eG109] at hl108 S106 r102 r103
      refine ⟨_, rfl, ((hl108).trans S106.le), ?_⟩
      refine T_nil ?_
      refine TT_step rfl ?_
      refine T_pev rfl rfl rfl rfl ?_
      refine T_nil ?_
      refine TT_step rfl ?_
      refine T_pev rfl rfl rfl rfl ?_
      refine T_nil ?_
      refine TT_step rfl ?_
      refine T_pev rfl rfl rfl rfl ?_
      refine T_nil ?_
      refine TT_step rfl ?_
      refine T_allocS S106 (fun _ h => (hl108).trans h) rfl rfl rfl rfl rfl rfl rfl fun b110 w111 S112 => ?_
      refine T_nil ?_
      refine TT_step rfl ?_
      refine T_storeFS 0 S112 (fun _ h => (hl108).trans h) rfl rfl rfl rfl rfl rfl rfl rfl rfl (by first | rfl | simp [hVs, *]) (by first | rfl | simp [hVs, *]) (one_all rfl) fun w113 S114 => ?_
      refine T_nil ?_
      refine TT_step rfl ?_
      refine T_pev rfl rfl rfl rfl ?_
      refine T_nil ?_
      refine TT_done ?_
      refine W_seq ?_
      refine W_region ?_
      refine T_pev rfl rfl rfl rfl ?_
      refine T_pev rfl rfl rfl rfl ?_
      refine T_bool 102 true rfl (brk_m4 hx32 hx2 hball hball hw1.1 hw1.1 (hw1.2.trans (chk_eq h87).symm) (xor_ne (by omega))) ?_
      refine T_yes rfl rfl rfl ?_ rfl
      have hbd := brk_bd (n := (((h.take 18).length : Nat) : Int)) (i := ((z : Nat) : Int)) (a := ((h.take 18).getD z [])) (b := (((h.take 18).getD z []).set c (((h.take 18).getD z []).getD c 0 ^^^ 1))) hx32 hx2 hball hball
      refine T_loadFS 0 S114 rfl rfl rfl rfl rfl rfl rfl rfl rfl (by first | rfl | simp [hVs, *]) ?_
      refine T_yes rfl rfl rfl ?_ rfl
      refine T_callS rfl rfl g_aumbry_sha_Same rfl rfl rfl rfl ((isbr_ok S114.le (hT.mono (hl22.trans (hl25.trans (hl81.trans (hl90.trans hl108))))) r102 r103 hbd.1 hbd.2).mono ?_)
      rintro e w116 ⟨rfl, hB115⟩
      have S117 := S114.call hB115
      refine ⟨_, rfl, trivial, ?_⟩
      refine T_re (v' := .bool true) (congrArg Value.bool (isbr_yes hx32 hx2 hball hball (brk_m4 hx32 hx2 hball hball hw1.1 hw1.1 (hw1.2.trans (chk_eq h87).symm) (xor_ne (by omega))))) ?_
      refine T_pev rfl rfl rfl rfl ?_
      refine T_pev rfl rfl rfl rfl ?_
      refine T_nil ?_
      refine W_ret ?_
      refine ⟨_, ⟨_, _, rfl, rfl, rfl⟩, ?_⟩
      exact ⟨rfl, S117.below⟩
    refine T_allocS S92 (fun _ h => ((Hp.le.refl _)).trans h) rfl rfl rfl rfl rfl rfl rfl fun b118 w119 S120 => ?_
    refine T_nil ?_
    refine TT_step rfl ?_
    refine T_callS rfl rfl g_aumbry_tree_Break rfl rfl rfl rfl ((break_ok S120.le (hT.mono (hl22.trans (hl25.trans (hl81.trans hl90)))) (((h.take 18).length : Nat) : Int) ((z : Nat) : Int) hl97 (by rw [List.length_set]; exact hx32) (r83.mono hl90) (r83.mono hl90)).mono ?_)
    rintro e w128 ⟨a121, c122, a123, c124, rfl, r125, r126, hB127⟩
    obtain ⟨G130, eG132⟩ : ∃ G, G = F.ext G89 w119.heap.size w128 := ⟨_, rfl⟩
    obtain ⟨hl131, S129⟩ := S120.ext hB127
    rw [← eG132] at hl131 S129 r125 r126
    refine ⟨_, rfl, ((hl131).trans S129.le), ?_⟩
    refine T_nil ?_
    refine TT_step rfl ?_
    refine T_pev rfl rfl rfl rfl ?_
    refine T_nil ?_
    refine TT_step rfl ?_
    refine T_pev rfl rfl rfl rfl ?_
    refine T_nil ?_
    refine TT_step rfl ?_
    refine T_pev rfl rfl rfl rfl ?_
    refine T_nil ?_
    refine TT_step rfl ?_
    refine T_storeFS 0 S129 (fun _ h => (hl131).trans h) rfl rfl rfl rfl rfl rfl rfl rfl rfl (by first | rfl | simp [hVs, *]) (by first | rfl | simp [hVs, *]) (one_all rfl) fun w133 S134 => ?_
    refine T_nil ?_
    refine TT_step rfl ?_
    refine T_pev rfl rfl rfl rfl ?_
    refine T_nil ?_
    refine TT_done ?_
    refine W_seq ?_
    refine W_region ?_
    refine T_pev rfl rfl rfl rfl ?_
    refine T_pev rfl rfl rfl rfl ?_
    refine T_bool 102 true rfl (brk_m4 hx32 hx2 hball hball hw1.1 hw1.1 (hw1.2.trans (chk_eq h87).symm) (xor_ne (by omega))) ?_
    refine T_yes rfl rfl rfl ?_ rfl
    have hbd := brk_bd (n := (((h.take 18).length : Nat) : Int)) (i := ((z : Nat) : Int)) (a := ((h.take 18).getD z [])) (b := (((h.take 18).getD z []).set c (((h.take 18).getD z []).getD c 0 ^^^ 1))) hx32 hx2 hball hball
    refine T_loadFS 0 S134 rfl rfl rfl rfl rfl rfl rfl rfl rfl (by first | rfl | simp [hVs, *]) ?_
    refine T_yes rfl rfl rfl ?_ rfl
    refine T_callS rfl rfl g_aumbry_sha_Same rfl rfl rfl rfl ((isbr_ok S134.le (hT.mono (hl22.trans (hl25.trans (hl81.trans (hl90.trans hl131))))) r125 r126 hbd.1 hbd.2).mono ?_)
    rintro e w136 ⟨rfl, hB135⟩
    have S137 := S134.call hB135
    refine ⟨_, rfl, trivial, ?_⟩
    refine T_re (v' := .bool true) (congrArg Value.bool (isbr_yes hx32 hx2 hball hball (brk_m4 hx32 hx2 hball hball hw1.1 hw1.1 (hw1.2.trans (chk_eq h87).symm) (xor_ne (by omega))))) ?_
    refine T_pev rfl rfl rfl rfl ?_
    refine T_pev rfl rfl rfl rfl ?_
    refine T_nil ?_
    refine W_ret ?_
    refine ⟨_, ⟨_, _, rfl, rfl, rfl⟩, ?_⟩
    exact ⟨rfl, S137.below⟩
  refine W_skip ?_
  refine W_seq ?_
  refine W_seq ?_
  refine W_region ?_
  refine T_pev rfl rfl rfl rfl ?_
  refine T_pev rfl rfl rfl rfl ?_
  refine T_pev rfl rfl rfl rfl ?_
  refine T_nil ?_
  refine W_cond_dec rfl (fun h138 => ?_) (fun h138 => ?_)
  · refine W_seq ?_
    refine W_region ?_
    refine T_pev rfl rfl rfl rfl ?_
    refine T_callS rfl rfl g_aumbry_aumbrykeep_Copy_aumbry_api_Hash rfl rfl rfl rfl ((copyH_ok S86.le r83 (by omega)).mono ?_)
    rintro e w144 ⟨a139, c140, hc141, rfl, ho142, hB143⟩
    have S145 := S86.own hB143 ho142
    refine ⟨_, rfl, trivial, ?_⟩
    refine T_pev rfl rfl rfl rfl ?_
    refine T_nil ?_
    refine W_seq ?_
    refine W_draw rfl (by kernel_rfl) ?_
    have S146 := S145.drew
    refine T_pev rfl rfl rfl rfl ?_
    have hm1y := Int.emod_nonneg ((v : Nat) : Int) (show (((Go.Au.beside (Go.Au.rowP (h.take 18)) ((z : Nat) : Int).toNat (Go.Au.lg (h.take 18).length)).length : Nat) : Int) ≠ 0 by omega)
    have hm2y := Int.emod_lt_of_pos ((v : Nat) : Int) (show 0 < (((Go.Au.beside (Go.Au.rowP (h.take 18)) ((z : Nat) : Int).toNat (Go.Au.lg (h.take 18).length)).length : Nat) : Int) by omega)
    obtain ⟨y, hzy⟩ : ∃ zz : Nat, ((v : Nat) : Int) % (((Go.Au.beside (Go.Au.rowP (h.take 18)) ((z : Nat) : Int).toNat (Go.Au.lg (h.take 18).length)).length : Nat) : Int) = (zz : Int) := ⟨(((v : Nat) : Int) % (((Go.Au.beside (Go.Au.rowP (h.take 18)) ((z : Nat) : Int).toNat (Go.Au.lg (h.take 18).length)).length : Nat) : Int)).toNat, by omega⟩
    refine T_pev rfl rfl rfl rfl ?_
    refine T_pev rfl rfl rfl rfl ?_
    refine T_pev rfl rfl rfl rfl ?_
    refine T_callS rfl rfl g_aumbry_aumbrykeep_Within rfl rfl rfl rfl ((withinN_ok S146.le ((v : Nat) : Int) (((Go.Au.beside (Go.Au.rowP (h.take 18)) ((z : Nat) : Int).toNat (Go.Au.lg (h.take 18).length)).length : Nat) : Int) (by omega)).mono ?_)
    rintro e w148 ⟨rfl, hB147⟩
    have S149 := S146.call hB147
    refine ⟨_, rfl, trivial, ?_⟩
    refine T_re (v' := .int .i64 ((y : Nat) : Int)) (congrArg (Value.int .i64) hzy) ?_
    obtain ⟨g150, rfl⟩ := S149.rowAt 0 rfl (by omega)
    refine T_idxm (y * 32) rfl rfl rfl rfl rfl rfl rfl rfl (by omega) (by show 0 + Int.toNat _ * 32 = _; omega) ?_
    refine T_idxAm (y * 32 + 0) rfl rfl rfl rfl rfl rfl rfl rfl (by omega) (by show _ + Int.toNat _ * 1 = _; omega) ?_
    refine T_load rfl rfl rfl rfl rfl rfl rfl (S149.rowCell 0 rfl (hcells_at1 r83.1 (by omega) (by omega))) ?_
    refine T_pev rfl rfl rfl rfl ?_
    refine T_re (v' := bV (((Go.Au.beside (Go.Au.rowP (h.take 18)) ((z : Nat) : Int).toNat (Go.Au.lg (h.take 18).length)).getD y []).getD 0 0 ^^^ 1)) (congrArg (Value.int .u8) (xorb _)) ?_
    refine T_idxm (y * 32) rfl rfl rfl rfl rfl rfl rfl rfl (by omega) (by show 0 + Int.toNat _ * 32 = _; omega) ?_
    refine T_idxAm (y * 32 + 0) rfl rfl rfl rfl rfl rfl rfl rfl (by omega) (by show _ + Int.toNat _ * 1 = _; omega) ?_
    refine T_storeRow 0 (hcells ((Go.Au.beside (Go.Au.rowP (h.take 18)) ((z : Nat) : Int).toNat (Go.Au.lg (h.take 18).length)).set y (((Go.Au.beside (Go.Au.rowP (h.take 18)) ((z : Nat) : Int).toNat (Go.Au.lg (h.take 18).length)).getD y []).set 0 (((Go.Au.beside (Go.Au.rowP (h.take 18)) ((z : Nat) : Int).toNat (Go.Au.lg (h.take 18).length)).getD y []).getD 0 0 ^^^ 1)))) S149 (fun _ _ => trivial) rfl rfl rfl rfl rfl rfl rfl rfl rfl (by show _ + 1 ≤ _ * 32; omega) one_bV1 (hcells_set1 r83.1 (by omega) (by omega)) fun w151 S152 => ?_
    refine T_nil ?_
    refine W_seq ?_
    refine W_seq ?_
    have hq2 : ∀ b ∈ ((Go.Au.beside (Go.Au.rowP (h.take 18)) ((z : Nat) : Int).toNat (Go.Au.lg (h.take 18).length)).set y (((Go.Au.beside (Go.Au.rowP (h.take 18)) ((z : Nat) : Int).toNat (Go.Au.lg (h.take 18).length)).getD y []).set 0 (((Go.Au.beside (Go.Au.rowP (h.take 18)) ((z : Nat) : Int).toNat (Go.Au.lg (h.take 18).length)).getD y []).getD 0 0 ^^^ 1))), b.length = 32 := set_all hball y (by rw [List.length_set]; exact len_h hball y (by omega))
    have hq2l : ((Go.Au.beside (Go.Au.rowP (h.take 18)) ((z : Nat) : Int).toNat (Go.Au.lg (h.take 18).length)).set y (((Go.Au.beside (Go.Au.rowP (h.take 18)) ((z : Nat) : Int).toNat (Go.Au.lg (h.take 18).length)).getD y []).set 0 (((Go.Au.beside (Go.Au.rowP (h.take 18)) ((z : Nat) : Int).toNat (Go.Au.lg (h.take 18).length)).getD y []).getD 0 0 ^^^ 1))).length = Go.Au.lg (h.take 18).length := by rw [List.length_set]; exact hbl
    refine W_draw rfl (by kernel_rfl) ?_
    have S153 := S152.drew
    refine T_loadGA _ S153 (still_cells (hl81 _ _ (hl25 _ _ r23))) rfl rfl rfl rfl rfl rfl rfl rfl (hVs (Go.Au.root_len hr4.1)) ?_
    refine T_pev rfl rfl rfl rfl ?_
    refine T_pev rfl rfl rfl rfl ?_
    refine T_pev rfl rfl rfl rfl ?_
    refine T_pev rfl rfl rfl rfl ?_
    refine T_pev rfl rfl rfl rfl ?_
    refine T_idxR z (hr4.mono (hl22.trans (hl25.trans hl81))).2 rfl rfl rfl rfl rfl rfl rfl rfl rfl (by omega) (by omega) fun b154 o155 hc156 => ?_
    have hc157 := cells_h (hr4.mono (hl22.trans (hl25.trans hl81))).1 z (by omega) hc156
    have hl158 := len_h (hr4.mono (hl22.trans (hl25.trans hl81))).1 z (by omega)
    refine T_loadGA _ S153 hc157 rfl rfl rfl rfl rfl rfl rfl rfl (hVs hl158) ?_
    refine T_pev rfl rfl rfl rfl ?_
    obtain ⟨G160, hl161, S159, r162⟩ := S153.stillRow 0 rfl
    have r163 := RdH.mk (set_all (h := ((Go.Au.beside (Go.Au.rowP (h.take 18)) ((z : Nat) : Int).toNat (Go.Au.lg (h.take 18).length)).getD y []).set 0 (((Go.Au.beside (Go.Au.rowP (h.take 18)) ((z : Nat) : Int).toNat (Go.Au.lg (h.take 18).length)).getD y []).getD 0 0 ^^^ 1)) r83.1 y (by rw [List.length_set]; exact len_h r83.1 y (by omega))) (by decide) r162
    refine T_callS rfl rfl g_aumbry_tree_Check rfl rfl rfl rfl ((check_ok S159.le (hT.mono (hl22.trans (hl25.trans (hl81.trans hl161)))) (Go.Au.root_len hr4.1) (((h.take 18).length : Nat) : Int) ((z : Nat) : Int) hl158 r163).mono ?_)
    rintro e w165 ⟨rfl, hB164⟩
    have S166 := S159.call hB164
    refine ⟨_, rfl, trivial, ?_⟩
    refine T_nil ?_
    refine W_cond rfl (fun h167 => ?_) (fun h167 => ?_)
    · refine W_seq ?_
      refine W_tree (planF Tryd.prog G160 [139, 143]) (.step 0 (.step 1 (.step 2 (.step 3 (.step 4 (.step 5 (.step 6 (.step 7 (.step 8 (.step 9 (.step 10 (.step 11 (.step 12 (.fork 13 17 (.step 14 (.step 15 (.step 16 (.step 17 (.step 18 (.step 19 .done)))))) (.step 13 (.step 14 (.step 15 (.step 16 (.step 18 (.step 19 .done)))))))))))))))))))) rfl (by kernel_rfl) S166.le ?_
      have S168 := S166.drew
      refine TT_step rfl ?_
      refine T_pev rfl rfl rfl rfl ?_
      refine T_nil ?_
      refine TT_step rfl ?_
      refine T_pev rfl rfl rfl rfl ?_
      refine T_nil ?_
      refine TT_step rfl ?_
      refine T_pev rfl rfl rfl rfl ?_
      refine T_nil ?_
      refine TT_step rfl ?_
      refine T_pev rfl rfl rfl rfl ?_
      refine T_nil ?_
      refine TT_step rfl ?_
      refine T_pev rfl rfl rfl rfl ?_
      refine T_nil ?_
      refine TT_step rfl ?_
      refine T_idxR z (hr4.mono (hl22.trans (hl25.trans (hl81.trans hl161)))).2 rfl rfl rfl rfl rfl rfl rfl rfl rfl (by omega) (by omega) fun b169 o170 hc171 => ?_
      have hc172 := cells_h (hr4.mono (hl22.trans (hl25.trans (hl81.trans hl161)))).1 z (by omega) hc171
      have hl173 := len_h (hr4.mono (hl22.trans (hl25.trans (hl81.trans hl161)))).1 z (by omega)
      refine T_nil ?_
      refine TT_step rfl ?_
      refine T_loadGAP _ (fun _ h => h) hc172 rfl rfl rfl rfl rfl rfl rfl rfl (hVs hl173) ?_
      refine T_nil ?_
      refine TT_step rfl ?_
      refine T_pev rfl rfl rfl rfl ?_
      refine T_nil ?_
      refine TT_step rfl ?_
      refine T_pev rfl rfl rfl rfl ?_
      refine T_nil ?_
      refine TT_step rfl ?_
      refine T_idxR z (hr4.mono (hl22.trans (hl25.trans (hl81.trans hl161)))).2 rfl rfl rfl rfl rfl rfl rfl rfl rfl (by omega) (by omega) fun b174 o175 hc176 => ?_
      have hc177 := cells_h (hr4.mono (hl22.trans (hl25.trans (hl81.trans hl161)))).1 z (by omega) hc176
      have hl178 := len_h (hr4.mono (hl22.trans (hl25.trans (hl81.trans hl161)))).1 z (by omega)
      refine T_nil ?_
      refine TT_step rfl ?_
      refine T_loadGAP _ (fun _ h => h) hc177 rfl rfl rfl rfl rfl rfl rfl rfl (hVs hl178) ?_
      refine T_nil ?_
      refine TT_step rfl ?_
      refine T_pev rfl rfl rfl rfl ?_
      refine T_nil ?_
      refine TT_step rfl ?_
      refine T_pev rfl rfl rfl rfl ?_
      refine T_nil ?_
      refine TT_fork rfl rfl ?_ ?_
      · refine T_callS rfl rfl g_aumbry_tree_Break rfl rfl rfl rfl ((break_ok S168.le (hT.mono (hl22.trans (hl25.trans (hl81.trans hl161)))) (((h.take 18).length : Nat) : Int) ((z : Nat) : Int) hl173 hl178 (r83.mono hl161) r163).mono ?_)
        rintro e w186 ⟨a179, c180, a181, c182, rfl, r183, r184, hB185⟩
        obtain ⟨G188, eG190⟩ : ∃ G, G = F.ext G160 w165.drew.heap.size w186 := ⟨_, rfl⟩
        obtain ⟨hl189, S187⟩ := S168.ext hB185
        rw [← eG190] at hl189 S187 r183 r184
        refine ⟨_, rfl, ((hl189).trans S187.le), ?_⟩
        refine T_nil ?_
        refine TT_step rfl ?_
        refine T_pev rfl rfl rfl rfl ?_
        refine T_nil ?_
        refine TT_step rfl ?_
        refine T_pev rfl rfl rfl rfl ?_
        refine T_nil ?_
        refine TT_step rfl ?_
        refine T_pev rfl rfl rfl rfl ?_
        refine T_nil ?_
        refine TT_step rfl ?_
        refine T_allocS S187 (fun _ h => (hl189).trans h) rfl rfl rfl rfl rfl rfl rfl fun b191 w192 S193 => ?_
        refine T_nil ?_
        refine TT_step rfl ?_
        refine T_storeFS 0 S193 (fun _ h => (hl189).trans h) rfl rfl rfl rfl rfl rfl rfl rfl rfl (by first | rfl | simp [hVs, *]) (by first | rfl | simp [hVs, *]) (one_all rfl) fun w194 S195 => ?_
        refine T_nil ?_
        refine TT_step rfl ?_
        refine T_pev rfl rfl rfl rfl ?_
        refine T_nil ?_
        refine TT_done ?_
        refine W_seq ?_
        refine W_region ?_
        refine T_pev rfl rfl rfl rfl ?_
        refine T_pev rfl rfl rfl rfl ?_
        refine T_bool 150 true rfl (all_q hx32 hball hq2 hw1.1 (by rw [hq2l, ← hbl]; exact hw1.1) (hw1.2.trans (chk_eq h167).symm) (by omega)) ?_
        refine T_yes rfl rfl rfl ?_ rfl
        have hbd := brk_bd (n := (((h.take 18).length : Nat) : Int)) (i := ((z : Nat) : Int)) (a := ((h.take 18).getD z [])) (b := ((h.take 18).getD z [])) hx32 hx32 hball hq2
        refine T_loadFS 0 S195 rfl rfl rfl rfl rfl rfl rfl rfl rfl (by first | rfl | simp [hVs, *]) ?_
        refine T_yes rfl rfl rfl ?_ rfl
        refine T_callS rfl rfl g_aumbry_sha_Same rfl rfl rfl rfl ((isbr_ok S195.le (hT.mono (hl22.trans (hl25.trans (hl81.trans (hl161.trans hl189))))) r183 r184 hbd.1 hbd.2).mono ?_)
        rintro e w197 ⟨rfl, hB196⟩
        have S198 := S195.call hB196
        refine ⟨_, rfl, trivial, ?_⟩
        refine T_re (v' := .bool true) (congrArg Value.bool (isbr_yes hx32 hx32 hball hq2 (all_q hx32 hball hq2 hw1.1 (by rw [hq2l, ← hbl]; exact hw1.1) (hw1.2.trans (chk_eq h167).symm) (by omega)))) ?_
        refine T_pev rfl rfl rfl rfl ?_
        refine T_pev rfl rfl rfl rfl ?_
        refine T_nil ?_
        refine W_ret ?_
        refine ⟨_, ⟨_, _, rfl, rfl, rfl⟩, ?_⟩
        exact ⟨rfl, S198.below⟩
      refine T_allocS S168 (fun _ h => ((Hp.le.refl _)).trans h) rfl rfl rfl rfl rfl rfl rfl fun b199 w200 S201 => ?_
      refine T_nil ?_
      refine TT_step rfl ?_
      refine T_callS rfl rfl g_aumbry_tree_Break rfl rfl rfl rfl ((break_ok S201.le (hT.mono (hl22.trans (hl25.trans (hl81.trans hl161)))) (((h.take 18).length : Nat) : Int) ((z : Nat) : Int) hl173 hl178 (r83.mono hl161) r163).mono ?_)
      rintro e w209 ⟨a202, c203, a204, c205, rfl, r206, r207, hB208⟩
      obtain ⟨G211, eG213⟩ : ∃ G, G = F.ext G160 w200.heap.size w209 := ⟨_, rfl⟩
      obtain ⟨hl212, S210⟩ := S201.ext hB208
      rw [← eG213] at hl212 S210 r206 r207
      refine ⟨_, rfl, ((hl212).trans S210.le), ?_⟩
      refine T_nil ?_
      refine TT_step rfl ?_
      refine T_pev rfl rfl rfl rfl ?_
      refine T_nil ?_
      refine TT_step rfl ?_
      refine T_pev rfl rfl rfl rfl ?_
      refine T_nil ?_
      refine TT_step rfl ?_
      refine T_pev rfl rfl rfl rfl ?_
      refine T_nil ?_
      refine TT_step rfl ?_
      refine T_storeFS 0 S210 (fun _ h => (hl212).trans h) rfl rfl rfl rfl rfl rfl rfl rfl rfl (by first | rfl | simp [hVs, *]) (by first | rfl | simp [hVs, *]) (one_all rfl) fun w214 S215 => ?_
      refine T_nil ?_
      refine TT_step rfl ?_
      refine T_pev rfl rfl rfl rfl ?_
      refine T_nil ?_
      refine TT_done ?_
      refine W_seq ?_
      refine W_region ?_
      refine T_pev rfl rfl rfl rfl ?_
      refine T_pev rfl rfl rfl rfl ?_
      refine T_bool 150 true rfl (all_q hx32 hball hq2 hw1.1 (by rw [hq2l, ← hbl]; exact hw1.1) (hw1.2.trans (chk_eq h167).symm) (by omega)) ?_
      refine T_yes rfl rfl rfl ?_ rfl
      have hbd := brk_bd (n := (((h.take 18).length : Nat) : Int)) (i := ((z : Nat) : Int)) (a := ((h.take 18).getD z [])) (b := ((h.take 18).getD z [])) hx32 hx32 hball hq2
      refine T_loadFS 0 S215 rfl rfl rfl rfl rfl rfl rfl rfl rfl (by first | rfl | simp [hVs, *]) ?_
      refine T_yes rfl rfl rfl ?_ rfl
      refine T_callS rfl rfl g_aumbry_sha_Same rfl rfl rfl rfl ((isbr_ok S215.le (hT.mono (hl22.trans (hl25.trans (hl81.trans (hl161.trans hl212))))) r206 r207 hbd.1 hbd.2).mono ?_)
      rintro e w217 ⟨rfl, hB216⟩
      have S218 := S215.call hB216
      refine ⟨_, rfl, trivial, ?_⟩
      refine T_re (v' := .bool true) (congrArg Value.bool (isbr_yes hx32 hx32 hball hq2 (all_q hx32 hball hq2 hw1.1 (by rw [hq2l, ← hbl]; exact hw1.1) (hw1.2.trans (chk_eq h167).symm) (by omega)))) ?_
      refine T_pev rfl rfl rfl rfl ?_
      refine T_pev rfl rfl rfl rfl ?_
      refine T_nil ?_
      refine W_ret ?_
      refine ⟨_, ⟨_, _, rfl, rfl, rfl⟩, ?_⟩
      exact ⟨rfl, S218.below⟩
    refine W_skip ?_
    refine W_seq ?_
    refine W_draw rfl (by kernel_rfl) ?_
    have S219 := S166.drew
    refine T_loadGA _ S219 (still_cells (hl161 _ _ (hl81 _ _ (hl25 _ _ r23)))) rfl rfl rfl rfl rfl rfl rfl rfl (hVs (Go.Au.root_len hr4.1)) ?_
    refine T_pev rfl rfl rfl rfl ?_
    refine T_pev rfl rfl rfl rfl ?_
    refine T_pev rfl rfl rfl rfl ?_
    refine T_pev rfl rfl rfl rfl ?_
    refine T_pev rfl rfl rfl rfl ?_
    refine T_idxR z (hr4.mono (hl22.trans (hl25.trans (hl81.trans hl161)))).2 rfl rfl rfl rfl rfl rfl rfl rfl rfl (by omega) (by omega) fun b220 o221 hc222 => ?_
    have hc223 := cells_h (hr4.mono (hl22.trans (hl25.trans (hl81.trans hl161)))).1 z (by omega) hc222
    have hl224 := len_h (hr4.mono (hl22.trans (hl25.trans (hl81.trans hl161)))).1 z (by omega)
    refine T_loadGA _ S219 hc223 rfl rfl rfl rfl rfl rfl rfl rfl (hVs hl224) ?_
    refine T_pev rfl rfl rfl rfl ?_
    refine T_sliceR 1 (Go.Au.lg (h.take 18).length) (r83.mono hl161).2 rfl rfl rfl rfl rfl rfl rfl rfl rfl rfl (by first | rfl | exact congrArg some (by omega)) (bound_of (by omega)) (by omega) (by omega) fun a225 c226 hc227 r228 => ?_
    have r229 := RdH.cut (lo := 1) (r83.mono hl161).1 (by first | (simp only [List.length_take, List.length_drop]; omega) | (have hcl := List.length_take (i := ((Go.Au.lg (h.take 18).length) - 1)) (l := (Go.Au.beside (Go.Au.rowP (h.take 18)) ((z : Nat) : Int).toNat (Go.Au.lg (h.take 18).length)).drop 1); rw [List.length_drop] at hcl; omega)) r228
    refine T_callS rfl rfl g_aumbry_tree_Check rfl rfl rfl rfl ((check_ok S219.le (hT.mono (hl22.trans (hl25.trans (hl81.trans hl161)))) (Go.Au.root_len hr4.1) (((h.take 18).length : Nat) : Int) ((z : Nat) : Int) hl224 r229).mono ?_)
    rintro e w231 ⟨rfl, hB230⟩
    have S232 := S219.call hB230
    refine ⟨_, rfl, trivial, ?_⟩
    refine T_nil ?_
    refine W_bool 164 false rfl (chk_len (by rw [List.length_take, List.length_drop, hbl]; omega) rfl) ?_
    refine W_cond_false rfl ?_
    refine W_skip ?_
    refine W_seq ?_
    refine W_draw rfl (by kernel_rfl) ?_
    have S233 := S232.drew
    refine T_loadGA _ S233 (still_cells (hl161 _ _ (hl81 _ _ (hl25 _ _ r23)))) rfl rfl rfl rfl rfl rfl rfl rfl (hVs (Go.Au.root_len hr4.1)) ?_
    refine T_pev rfl rfl rfl rfl ?_
    refine T_pev rfl rfl rfl rfl ?_
    refine T_pev rfl rfl rfl rfl ?_
    refine T_pev rfl rfl rfl rfl ?_
    refine T_pev rfl rfl rfl rfl ?_
    refine T_pev rfl rfl rfl rfl ?_
    refine T_idxR z (hr4.mono (hl22.trans (hl25.trans (hl81.trans hl161)))).2 rfl rfl rfl rfl rfl rfl rfl rfl rfl (by omega) (by omega) fun b234 o235 hc236 => ?_
    have hc237 := cells_h (hr4.mono (hl22.trans (hl25.trans (hl81.trans hl161)))).1 z (by omega) hc236
    have hl238 := len_h (hr4.mono (hl22.trans (hl25.trans (hl81.trans hl161)))).1 z (by omega)
    refine T_loadGA _ S233 hc237 rfl rfl rfl rfl rfl rfl rfl rfl (hVs hl238) ?_
    refine T_pev rfl rfl rfl rfl ?_
    refine T_callS rfl rfl g_aumbry_tree_Check rfl rfl rfl rfl ((check_ok S233.le (hT.mono (hl22.trans (hl25.trans (hl81.trans hl161)))) (Go.Au.root_len hr4.1) (((h.take 18).length : Nat) : Int) (((h.take 18).length : Nat) : Int) hl238 (r83.mono hl161)).mono ?_)
    rintro e w240 ⟨rfl, hB239⟩
    have S241 := S233.call hB239
    refine ⟨_, rfl, trivial, ?_⟩
    refine T_pev rfl rfl rfl rfl ?_
    refine T_pev rfl rfl rfl rfl ?_
    refine T_bool 177 true rfl (chk_out (by omega)) ?_
    refine T_yes rfl rfl rfl ?_ rfl
    refine T_loadGA _ S241 (still_cells (hl161 _ _ (hl81 _ _ (hl25 _ _ r23)))) rfl rfl rfl rfl rfl rfl rfl rfl (hVs (Go.Au.root_len hr4.1)) ?_
    refine T_yes rfl rfl rfl ?_ rfl
    refine T_pev rfl rfl rfl rfl ?_
    refine T_yes rfl rfl rfl ?_ rfl
    refine T_pev rfl rfl rfl rfl ?_
    refine T_yes rfl rfl rfl ?_ rfl
    refine T_pev rfl rfl rfl rfl ?_
    refine T_yes rfl rfl rfl ?_ rfl
    refine T_pev rfl rfl rfl rfl ?_
    refine T_yes rfl rfl rfl ?_ rfl
    refine T_idxR z (hr4.mono (hl22.trans (hl25.trans (hl81.trans hl161)))).2 rfl rfl rfl rfl rfl rfl rfl rfl rfl (by omega) (by omega) fun b242 o243 hc244 => ?_
    have hc245 := cells_h (hr4.mono (hl22.trans (hl25.trans (hl81.trans hl161)))).1 z (by omega) hc244
    have hl246 := len_h (hr4.mono (hl22.trans (hl25.trans (hl81.trans hl161)))).1 z (by omega)
    refine T_yes rfl rfl rfl ?_ rfl
    refine T_loadGA _ S241 hc245 rfl rfl rfl rfl rfl rfl rfl rfl (hVs hl246) ?_
    refine T_yes rfl rfl rfl ?_ rfl
    refine T_pev rfl rfl rfl rfl ?_
    refine T_yes rfl rfl rfl ?_ rfl
    refine T_callS rfl rfl g_aumbry_tree_Check rfl rfl rfl rfl ((check_ok S241.le (hT.mono (hl22.trans (hl25.trans (hl81.trans hl161)))) (Go.Au.root_len hr4.1) (((h.take 18).length : Nat) : Int) (-1) hl246 (r83.mono hl161)).mono ?_)
    rintro e w248 ⟨rfl, hB247⟩
    have S249 := S241.call hB247
    refine ⟨_, rfl, trivial, ?_⟩
    refine T_yes rfl rfl rfl ?_ rfl
    refine T_pev rfl rfl rfl rfl ?_
    refine T_pev rfl rfl rfl rfl ?_
    refine T_pev rfl rfl rfl rfl ?_
    refine T_bool 189 true rfl (chk_out (by omega)) ?_
    refine T_yes rfl rfl rfl ?_ rfl
    refine T_callS rfl rfl g_aumbry_aumbrylaw07_wakes rfl rfl rfl rfl ((wakes_ok S249.le (hT.mono (hl22.trans (hl25.trans (hl81.trans hl161))))).mono ?_)
    rintro e w251 ⟨rfl, hB250⟩
    have S252 := S249.call hB250
    refine ⟨_, rfl, trivial, ?_⟩
    refine T_pev rfl rfl rfl rfl ?_
    refine T_pev rfl rfl rfl rfl ?_
    refine T_nil ?_
    refine W_ret ?_
    refine ⟨_, ⟨_, _, rfl, rfl, rfl⟩, ?_⟩
    exact ⟨rfl, S252.below⟩
  refine W_skip ?_
  refine W_seq ?_
  refine W_draw rfl (by kernel_rfl) ?_
  have S253 := S86.drew
  refine T_loadGA _ S253 (still_cells (hl81 _ _ (hl25 _ _ r23))) rfl rfl rfl rfl rfl rfl rfl rfl (hVs (Go.Au.root_len hr4.1)) ?_
  refine T_pev rfl rfl rfl rfl ?_
  refine T_pev rfl rfl rfl rfl ?_
  refine T_pev rfl rfl rfl rfl ?_
  refine T_pev rfl rfl rfl rfl ?_
  refine T_pev rfl rfl rfl rfl ?_
  refine T_pev rfl rfl rfl rfl ?_
  refine T_idxR z (hr4.mono (hl22.trans (hl25.trans hl81))).2 rfl rfl rfl rfl rfl rfl rfl rfl rfl (by omega) (by omega) fun b254 o255 hc256 => ?_
  have hc257 := cells_h (hr4.mono (hl22.trans (hl25.trans hl81))).1 z (by omega) hc256
  have hl258 := len_h (hr4.mono (hl22.trans (hl25.trans hl81))).1 z (by omega)
  refine T_loadGA _ S253 hc257 rfl rfl rfl rfl rfl rfl rfl rfl (hVs hl258) ?_
  refine T_pev rfl rfl rfl rfl ?_
  refine T_callS rfl rfl g_aumbry_tree_Check rfl rfl rfl rfl ((check_ok S253.le (hT.mono (hl22.trans (hl25.trans hl81))) (Go.Au.root_len hr4.1) (((h.take 18).length : Nat) : Int) (((h.take 18).length : Nat) : Int) hl258 r83).mono ?_)
  rintro e w260 ⟨rfl, hB259⟩
  have S261 := S253.call hB259
  refine ⟨_, rfl, trivial, ?_⟩
  refine T_pev rfl rfl rfl rfl ?_
  refine T_pev rfl rfl rfl rfl ?_
  refine T_bool 177 true rfl (chk_out (by omega)) ?_
  refine T_yes rfl rfl rfl ?_ rfl
  refine T_loadGA _ S261 (still_cells (hl81 _ _ (hl25 _ _ r23))) rfl rfl rfl rfl rfl rfl rfl rfl (hVs (Go.Au.root_len hr4.1)) ?_
  refine T_yes rfl rfl rfl ?_ rfl
  refine T_pev rfl rfl rfl rfl ?_
  refine T_yes rfl rfl rfl ?_ rfl
  refine T_pev rfl rfl rfl rfl ?_
  refine T_yes rfl rfl rfl ?_ rfl
  refine T_pev rfl rfl rfl rfl ?_
  refine T_yes rfl rfl rfl ?_ rfl
  refine T_pev rfl rfl rfl rfl ?_
  refine T_yes rfl rfl rfl ?_ rfl
  refine T_idxR z (hr4.mono (hl22.trans (hl25.trans hl81))).2 rfl rfl rfl rfl rfl rfl rfl rfl rfl (by omega) (by omega) fun b262 o263 hc264 => ?_
  have hc265 := cells_h (hr4.mono (hl22.trans (hl25.trans hl81))).1 z (by omega) hc264
  have hl266 := len_h (hr4.mono (hl22.trans (hl25.trans hl81))).1 z (by omega)
  refine T_yes rfl rfl rfl ?_ rfl
  refine T_loadGA _ S261 hc265 rfl rfl rfl rfl rfl rfl rfl rfl (hVs hl266) ?_
  refine T_yes rfl rfl rfl ?_ rfl
  refine T_pev rfl rfl rfl rfl ?_
  refine T_yes rfl rfl rfl ?_ rfl
  refine T_callS rfl rfl g_aumbry_tree_Check rfl rfl rfl rfl ((check_ok S261.le (hT.mono (hl22.trans (hl25.trans hl81))) (Go.Au.root_len hr4.1) (((h.take 18).length : Nat) : Int) (-1) hl266 r83).mono ?_)
  rintro e w268 ⟨rfl, hB267⟩
  have S269 := S261.call hB267
  refine ⟨_, rfl, trivial, ?_⟩
  refine T_yes rfl rfl rfl ?_ rfl
  refine T_pev rfl rfl rfl rfl ?_
  refine T_pev rfl rfl rfl rfl ?_
  refine T_pev rfl rfl rfl rfl ?_
  refine T_bool 189 true rfl (chk_out (by omega)) ?_
  refine T_yes rfl rfl rfl ?_ rfl
  refine T_callS rfl rfl g_aumbry_aumbrylaw07_wakes rfl rfl rfl rfl ((wakes_ok S269.le (hT.mono (hl22.trans (hl25.trans hl81)))).mono ?_)
  rintro e w271 ⟨rfl, hB270⟩
  have S272 := S269.call hB270
  refine ⟨_, rfl, trivial, ?_⟩
  refine T_pev rfl rfl rfl rfl ?_
  refine T_pev rfl rfl rfl rfl ?_
  refine T_nil ?_
  refine W_ret ?_
  refine ⟨_, ⟨_, _, rfl, rfl, rfl⟩, ?_⟩
  exact ⟨rfl, S272.below⟩

end Go.Proofs.YtadiakpbodlecaaDoor
