/- The statements of chapter 2 on tagged hashes, walked. -/
import Derived.Test.YtikgpfhjhfpmbaaDoorKeepN
import Derived.Test.YtikgpfhjhfpmbaaDoorShaW
import Derived.Test.YtikgpfhjhfpmbaaDoorFRest
import Derived.Test.YtikgpfhjhfpmbaaDoorAuAll
set_option linter.unusedVariables false
set_option linter.unusedSimpArgs false
set_option maxRecDepth 8192
namespace Go.Proofs.YtikgpfhjhfpmbaaDoor
open Go Go.F Go.RowKit

end Go.Proofs.YtikgpfhjhfpmbaaDoor
namespace Go.Au
/-- The first k rows, cut. -/
def cuts (l : List (List UInt8)) (k : Nat) : List (List UInt8) := (l.take k).map fun b => b.take 100
def keyTo (D : List UInt8) : Nat → List UInt8
  | 0 => List.replicate 16 0
  | k + 1 => (keyTo D k).set k (D.getD k 0)
theorem keyTo_len (D : List UInt8) : ∀ k, (keyTo D k).length = 16
  | 0 => List.length_replicate
  | k + 1 => by rw [keyTo, List.length_set]; exact keyTo_len D k
theorem keyTo_eq {D : List UInt8} (h : 16 ≤ D.length) : ∀ k, k ≤ 16 → keyTo D k = D.take k ++ List.replicate (16 - k) 0
  | 0, _ => by simp [keyTo]
  | k + 1, hk => by
    have h1 : (D.take k).length = k := by rw [List.length_take]; omega
    have hr : List.replicate (16 - k) (0 : UInt8) = 0 :: List.replicate (16 - (k + 1)) 0 := by
      rw [show 16 - k = (16 - (k + 1)) + 1 by omega, List.replicate_succ]
    rw [keyTo, keyTo_eq h k (by omega), List.set_append_right _ _ (by omega), h1, Nat.sub_self, hr, ← take_snoc (d := 0) (show k < D.length by omega), List.append_assoc]
    rfl
theorem keyTo_full {D : List UInt8} (h : 16 ≤ D.length) : keyTo D 16 = D.take 16 := by rw [keyTo_eq h 16 (by omega)]; simp
theorem cuts_len (l : List (List UInt8)) (k : Nat) (h : k ≤ l.length) : (cuts l k).length = k := by simp only [cuts, List.length_map, List.length_take]; omega
theorem cuts_snoc {l : List (List UInt8)} {k : Nat} (h : k < l.length) : cuts l k ++ [(l.getD k []).take 100] = cuts l (k + 1) := by
  simp only [cuts]
  rw [← take_snoc (d := []) h, List.map_append]
  rfl
theorem cuts_all (l : List (List UInt8)) (k : Nat) : ∀ b ∈ cuts l k, b.length ≤ 100 := by
  intro b hb
  obtain ⟨c, _, rfl⟩ := List.mem_map.1 hb
  rw [List.length_take]; omega
theorem total_le {n : Nat} : ∀ {l : List (List UInt8)}, (∀ b ∈ l, b.length ≤ n) → total l ≤ l.length * n
  | [], _ => Nat.zero_le _
  | b :: l, h => by
    have h1 := h b (by simp)
    have h2 := total_le (l := l) fun c hc => h c (by simp [hc])
    simp only [total, List.map_cons, List.sum_cons, List.length_cons, Nat.succ_mul] at h2 ⊢
    omega
end Go.Au
namespace Go.Proofs.YtikgpfhjhfpmbaaDoor
open Go Go.F Go.RowKit
theorem keyTo_put {D : List UInt8} {k : Nat} : (hV (Go.Au.keyTo D k)).cells.setIfInBounds k (bV (D.getD k 0)) = (hV (Go.Au.keyTo D (k + 1))).cells := by
  show ((Go.Au.keyTo D k).map bV).toArray.setIfInBounds k (bV (D.getD k 0)) = (((Go.Au.keyTo D k).set k (D.getD k 0)).map bV).toArray
  apply Array.toList_inj.1
  rw [Array.toList_setIfInBounds, List.map_set]
theorem key_len (tag : List UInt8) (l : List (List UInt8)) : ((Go.Au.tagged tag l).take 16).length = 16 := by rw [List.length_take, Go.Au.tagged_len]; rfl
theorem cuts_text {tag : List UInt8} {l : List (List UInt8)} {k : Nat} (ht : tag.length < 100) (hk : k ≤ 6) : (Go.Au.text tag (Go.Au.cuts l k)).length < 10000 := by
  have h1 := Go.Au.text_le (tag := tag) (l := Go.Au.cuts l k) (by omega) (fun b hb => by have := Go.Au.cuts_all l k b hb; omega)
  have h2 := Go.Au.total_le (Go.Au.cuts_all l k)
  have h3 : (Go.Au.cuts l k).length ≤ 6 := by simp only [Go.Au.cuts, List.length_map, List.length_take]; omega
  have h4 : (Go.Au.cuts l k).length * 100 ≤ 6 * 100 := Nat.mul_le_mul_right _ h3
  omega
theorem dec_len_lo (n : Nat) : 1 ≤ (Go.Au.dec n).length := Go.Au.dec_len_pos n
theorem text_far {tag a b : List UInt8} (ha : a.length ≤ 60) (hb : b.length ≤ 60) : ¬ Go.Au.text tag [a, b] = Go.Au.text tag [a ++ b] := by
  intro e
  have e1 := congrArg List.length e
  have h1 := dec_len_lo a.length
  have h2 := dec_len_lo b.length
  have h3 := Go.Au.dec_len_le 2 (a ++ b).length (by rw [List.length_append]; omega)
  simp only [Go.Au.text, Go.Au.nets_cons, Go.Au.nets_nil, List.length_append, Go.Au.net_len, List.length_nil] at e1 h3
  omega
theorem text_more {tag a b : List UInt8} : ¬ Go.Au.text tag [a, b] = Go.Au.text tag [a, b, []] := by
  intro e
  have e1 := congrArg List.length e
  simp only [Go.Au.text, Go.Au.nets_cons, Go.Au.nets_nil, List.length_append, Go.Au.net_len, List.length_nil] at e1
  omega
theorem short_ok {H : Hp} {w : World} (hH : H.le (hw w)) (hT : Tabs H) {tag : List UInt8} {l : List (List UInt8)} {aa1 : Option Addr} {nn1 cc1 : Nat} (hv : RdL H (.slice aa1 nn1 cc1) l) (hb : (Go.Au.text tag l).length < 10000) :
    Calls Tryd.prog 8 #[str tag, .slice aa1 nn1 cc1] w fun e w' => e = .returned (hV ((Go.Au.tagged tag l).take 16)) ∧ Below w.heap.size w w' := by
  obtain rfl : nn1 = l.length := hv.len
  have htl := Go.Au.tagged_len tag l
  refine enter2 _ Tryd.func8 rfl Tryd.ntmps8 Tryd.results8 rfl ?_
  have S0 := St.start w hH
  refine W_seq ?_
  refine W_region ?_
  refine T_allocS S0 (fun _ _ => trivial) rfl rfl rfl rfl rfl rfl rfl fun b1 w2 S3 => ?_
  refine T_nil ?_
  refine W_seq ?_
  refine W_region ?_
  refine T_pev rfl rfl rfl rfl ?_
  refine T_pev rfl rfl rfl rfl ?_
  refine T_callS rfl rfl g_aumbry_sha_Tagged rfl rfl rfl rfl ((tagged_ok S3.le hT hv (by omega)).mono ?_)
  rintro e w5 ⟨rfl, hB4⟩
  have S6 := S3.call hB4
  refine ⟨_, rfl, trivial, ?_⟩
  refine T_allocS S6 (fun _ _ => trivial) rfl rfl rfl rfl rfl rfl rfl fun b7 w8 S9 => ?_
  refine T_storeFS 0 S9 (fun _ _ => trivial) rfl rfl rfl rfl rfl rfl rfl rfl rfl (hVs (Go.Au.tagged_len _ _)) (hVs (Go.Au.tagged_len _ _)) (one_hA _) fun w10 S11 => ?_
  refine T_nil ?_
  refine W_seq ?_
  refine W_region ?_
  refine T_sliceAc 0 16 rfl rfl rfl rfl rfl rfl rfl rfl rfl rfl (bound_of (by omega)) rfl (by omega) (by omega) (by omega) ?_
  refine T_s2ap rfl rfl rfl rfl rfl rfl (by omega) ?_
  have hl13 : (Go.Au.tagged tag l).length = 32 := (Go.Au.tagged_len _ _)
  have hl12 : ((Go.Au.tagged tag l).take 16).length = 16 := by simp only [List.length_take, List.length_drop]; omega
  refine T_loadAS (((Go.Au.tagged tag l).take 16).map bV).toArray 0 S11 rfl rfl rfl rfl rfl rfl rfl rfl rfl (hVs hl12) (hV_cut (l := (Go.Au.tagged tag l)) (q := 0) (m := 16) (by omega)) ?_
  refine T_storeFS 1 S11 (fun _ _ => trivial) rfl rfl rfl rfl rfl rfl rfl rfl rfl (hVs hl12) (hVs hl12) (one_hA _) fun w14 S15 => ?_
  refine T_nil ?_
  refine W_ret ?_
  refine ⟨_, ⟨_, _, _, rfl, rfl, run_loadVarA rfl rfl (hVs hl12) (S15.cells 1 rfl), rfl⟩, ?_⟩
  exact ⟨rfl, S15.below⟩


theorem shortR_ok {H : Hp} {w : World} (hH : H.le (hw w)) {tag : List UInt8} {l : List (List UInt8)} {aa1 : Option Addr} {nn1 cc1 : Nat} (hv : RdL H (.slice aa1 nn1 cc1) l) (hb : (Go.Au.text tag l).length < 10000) :
    Calls Tryd.prog 16 #[str tag, .slice aa1 nn1 cc1] w fun e w' => e = .returned (hV ((Go.Au.tagged tag l).take 16)) ∧ Below w.heap.size w w' := by
  obtain rfl : nn1 = l.length := hv.len
  have htl := Go.Au.tagged_len tag l
  refine enter2 _ Tryd.func16 rfl Tryd.ntmps16 Tryd.results16 rfl ?_
  have S0 := St.start w hH
  refine W_seq ?_
  refine W_region ?_
  refine T_allocS S0 (fun _ _ => trivial) rfl rfl rfl rfl rfl rfl rfl fun b1 w2 S3 => ?_
  refine T_nil ?_
  refine W_seq ?_
  refine W_region ?_
  refine T_pev rfl rfl rfl rfl ?_
  refine T_pev rfl rfl rfl rfl ?_
  refine T_callS rfl rfl g_aumbry_aumbryref01_Tagged rfl rfl rfl rfl ((taggedR_ok S3.le hv (by omega)).mono ?_)
  rintro e w5 ⟨rfl, hB4⟩
  have S6 := S3.call hB4
  refine ⟨_, rfl, trivial, ?_⟩
  refine T_allocS S6 (fun _ _ => trivial) rfl rfl rfl rfl rfl rfl rfl fun b7 w8 S9 => ?_
  refine T_storeFS 0 S9 (fun _ _ => trivial) rfl rfl rfl rfl rfl rfl rfl rfl rfl (hVs (Go.Au.tagged_len _ _)) (hVs (Go.Au.tagged_len _ _)) (one_hA _) fun w10 S11 => ?_
  refine T_nil ?_
  refine W_seq ?_
  refine W_region ?_
  refine T_allocS S11 (fun _ _ => trivial) rfl rfl rfl rfl rfl rfl rfl fun b12 w13 S14 => ?_
  refine T_nil ?_
  refine W_seq ?_
  refine W_seq ?_
  refine W_region ?_
  refine T_pev rfl rfl rfl rfl ?_
  refine T_nil ?_
  refine W_block ?_
  refine W_loop (fun M ρ w' => ∃ (k : Nat) (G15 : Hp), M = 16 - k ∧ k ≤ 16 ∧ ρ = [(4, .pointer (some ⟨b1, 0, none⟩)), (5, .pointer (some ⟨b7, 0, none⟩)), (6, .pointer (some ⟨b12, 0, none⟩)), (11, .int .i64 (k : Int))] ∧ H.le G15 ∧ St w H G15 [.blk b12 (hV (Go.Au.keyTo (Go.Au.tagged tag l) k) : Value).cells 26, .blk b7 (hV (Go.Au.tagged tag l) : Value).cells 29, .blk b1 (hV (List.replicate 16 0) : Value).cells 26] w')
    (16 - 0) [(4, .pointer (some ⟨b1, 0, none⟩)), (5, .pointer (some ⟨b7, 0, none⟩)), (6, .pointer (some ⟨b12, 0, none⟩)), (11, .int .i64 ((0 : Nat) : Int))] ⟨rfl, rfl, rfl, (congrArg (fun z => some (Value.int .i64 z)) (by omega)), trivial⟩ ⟨0, H, rfl, (by omega), rfl, Hp.le.refl _, S14⟩ ?_
  rintro M ρ w17 ⟨k, G15, rfl, hp19, rfl, hl16, S18⟩
  refine W_seq ?_
  refine W_region ?_
  refine T_pev rfl rfl rfl rfl ?_
  refine T_nil ?_
  refine W_seq ?_
  refine W_cond_dec rfl (fun h20 => ?_) (fun h20 => ?_)
  · refine W_skip ?_
    refine W_seq ?_
    refine W_block ?_
    refine W_seq ?_
    refine W_region ?_
    refine T_pev rfl rfl rfl rfl ?_
    refine T_pev rfl rfl rfl rfl ?_
    refine T_nil ?_
    refine W_region ?_
    refine T_pev rfl rfl rfl rfl ?_
    refine T_pev rfl rfl rfl rfl ?_
    refine T_idxA1 rfl rfl rfl rfl rfl rfl rfl rfl rfl (by first | omega | decide) ?_
    refine T_loadS 1 k S18 rfl rfl rfl rfl rfl rfl rfl rfl (by omega) (cell_hV _ k (by rw [(Go.Au.tagged_len _ _)]; omega)) ?_
    refine T_idxA1 rfl rfl rfl rfl rfl rfl rfl rfl rfl (by first | omega | decide) ?_
    refine T_store1S 0 k S18 (fun _ _ => trivial) rfl rfl rfl rfl rfl rfl rfl rfl rfl rfl rfl (by omega) (by have hz : (hV (Go.Au.keyTo (Go.Au.tagged tag l) k) : Value).cells.size = 16 := hVs (Go.Au.keyTo_len _ _); omega) fun w21 S22 => ?_
    rw [keyTo_put] at S22
    refine T_nil ?_
    refine W_region ?_
    refine T_ari rfl rfl rfl rfl (by omega) ?_
    refine T_pev rfl rfl rfl rfl ?_
    refine T_nil ?_
    exact ⟨16 - (k + 1), [(4, .pointer (some ⟨b1, 0, none⟩)), (5, .pointer (some ⟨b7, 0, none⟩)), (6, .pointer (some ⟨b12, 0, none⟩)), (11, .int .i64 ((k + 1 : Nat) : Int))], by omega, ⟨rfl, rfl, rfl, (congrArg (fun z => some (Value.int .i64 z)) (by omega)), trivial⟩, k + 1, G15, rfl, (by omega), rfl, hl16, S22⟩
  refine W_exit ?_
  refine W_seq ?_
  refine W_region ?_
  refine T_loadFS 0 S18 rfl rfl rfl rfl rfl rfl rfl rfl rfl (hVs (Go.Au.keyTo_len _ _)) ?_
  refine T_re (v' := hV ((Go.Au.tagged tag l).take 16)) (congrArg hV (by rw [show k = 16 by omega]; exact Go.Au.keyTo_full (by omega))) ?_
  refine T_storeFS 2 S18 (fun _ _ => trivial) rfl rfl rfl rfl rfl rfl rfl rfl rfl (hVs (key_len tag l)) (hVs (key_len tag l)) (one_hA _) fun w23 S24 => ?_
  refine T_nil ?_
  refine W_ret ?_
  refine ⟨_, ⟨_, _, _, rfl, rfl, run_loadVarA rfl rfl (hVs (key_len tag l)) (S24.cells 2 rfl), rfl⟩, ?_⟩
  exact ⟨rfl, S24.below⟩


theorem wakesN_ok {H : Hp} {w : World} (_ : H.le (hw w)) : Calls Tryd.prog 6 #[] w fun e w' => e = .returned (.bool true) ∧ Below w.heap.size w w' := wakes_ok w

theorem shaShort_ok {H : Hp} {w : World} (hH : H.le (hw w)) (hT : Tabs H) {tag : List UInt8} {x : List UInt8} {aa1 : Option Addr} {nn1 cc1 : Nat} (hv : Rd H (.slice aa1 nn1 cc1) nn1 1 (x.map bV)) {y : List UInt8} {aa2 : Option Addr} {nn2 cc2 : Nat} (hu : Rd H (.slice aa2 nn2 cc2) nn2 1 (y.map bV)) :
    Calls Tryd.prog 3 #[str tag, .slice aa1 nn1 cc1, .slice aa2 nn2 cc2] w fun e w' => e = .returned (.bool true) ∧ Below w.heap.size w w' := by
  obtain rfl : nn1 = x.length := hv.lenB
  have hvcap : x.length ≤ cc1 := hv.capOf
  obtain rfl : nn2 = y.length := hu.lenB
  have hucap : y.length ≤ cc2 := hu.capOf
  have hx60 : (x.take 60).length ≤ 60 := by rw [List.length_take]; omega
  have hy60 : (y.take 60).length ≤ 60 := by rw [List.length_take]; omega
  refine enter3 _ Tryd.func3 rfl Tryd.ntmps3 Tryd.results3 rfl ?_
  have S0 := St.start w hH
  refine W_seq ?_
  refine W_region ?_
  refine T_pev rfl rfl rfl rfl ?_
  refine T_nil ?_
  refine W_seq ?_
  refine W_seq ?_
  refine W_region ?_
  refine T_pev rfl rfl rfl rfl ?_
  refine T_lenStr rfl rfl rfl rfl rfl rfl ?_
  refine T_pev rfl rfl rfl rfl ?_
  refine T_nil ?_
  refine W_cond_dec rfl (fun h1 => ?_) (fun h1 => ?_)
  · refine W_seq ?_
    refine W_region ?_
    refine T_callS rfl rfl g_aumbry_aumbrylaw02_wakes rfl rfl rfl rfl ((wakesN_ok S0.le ).mono ?_)
    rintro e w3 ⟨rfl, hB2⟩
    have S4 := S0.call hB2
    refine ⟨_, rfl, trivial, ?_⟩
    refine T_pev rfl rfl rfl rfl ?_
    refine T_nil ?_
    refine W_ret ?_
    refine ⟨_, ⟨_, _, rfl, rfl, rfl⟩, ?_⟩
    exact ⟨rfl, S4.below⟩
  refine W_skip ?_
  refine W_seq ?_
  refine W_region ?_
  refine T_pev rfl rfl rfl rfl ?_
  refine T_callS rfl rfl g_aumbry_aumbrykeep_Cut_byte rfl rfl rfl rfl ((cutB_ok S0.le hv 60).mono ?_)
  rintro e w10 ⟨a5, c6, hc7, rfl, hr8, hB9⟩
  have S11 := S0.call hB9
  refine ⟨_, rfl, trivial, ?_⟩
  refine T_pev rfl rfl rfl rfl ?_
  refine T_callS rfl rfl g_aumbry_aumbrykeep_Cut_byte rfl rfl rfl rfl ((cutB_ok S11.le hu 60).mono ?_)
  rintro e w17 ⟨a12, c13, hc14, rfl, hr15, hB16⟩
  have S18 := S11.call hB16
  refine ⟨_, rfl, trivial, ?_⟩
  refine T_pev rfl rfl rfl rfl ?_
  refine T_pev rfl rfl rfl rfl ?_
  refine T_nil ?_
  refine W_seq ?_
  refine W_region ?_
  have htx := Go.Au.text2 (tag := tag) (a := x.take 60) (b := y.take 60) (by omega) (by omega) (by omega)
  have htl := Go.Au.tagged_len tag [x.take 60, y.take 60]
  have ht1 := Go.Au.text1 (tag := tag) (b := x.take 60 ++ y.take 60) (by omega) (by rw [List.length_append]; omega)
  have ht3 := Go.Au.text3 (tag := tag) (a := x.take 60) (b := y.take 60) (c := []) (by omega) (by omega) (by omega) (by decide)
  refine T_pev rfl rfl rfl rfl ?_
  refine T_pev rfl rfl rfl rfl ?_
  refine T_pev rfl rfl rfl rfl ?_
  have rs23 : Rds H [.slice a5 (x.take 60).length c6, .slice a12 (y.take 60).length c13] [(x.take 60), (y.take 60)] := Rds.cons (Rd.canonB hr8) (Rds.cons (Rd.canonB hr15) (Rds.nil _))
  refine T_litS [.slice a5 (x.take 60).length c6, .slice a12 (y.take 60).length c13] rfl rfl rfl rfl rfl rfl rfl rfl rfl rfl rfl rfl rfl (by simp [Value.cells]; rfl) rfl fun a19 w20 hB21 ho22 => ?_
  have S24 := S18.own hB21 ho22
  refine ⟨trivial, ?_⟩
  obtain ⟨G26, hl27, S25, r28⟩ := S24.stillRow 0 rfl
  have r29 := RdL.mk r28 (rs23.mono hl27)
  refine T_callS rfl rfl g_aumbry_sha_Short rfl rfl rfl rfl ((short_ok S25.le (hT.mono hl27) r29 (by omega)).mono ?_)
  rintro e w31 ⟨rfl, hB30⟩
  have S32 := S25.call hB30
  refine ⟨_, rfl, trivial, ?_⟩
  refine T_pev rfl rfl rfl rfl ?_
  refine T_pev rfl rfl rfl rfl ?_
  refine T_pev rfl rfl rfl rfl ?_
  have rs37 : Rds G26 [.slice a5 (x.take 60).length c6, .slice a12 (y.take 60).length c13] [(x.take 60), (y.take 60)] := Rds.cons (Rd.canonB (hr8.mono hl27)) (Rds.cons (Rd.canonB (hr15.mono hl27)) (Rds.nil _))
  refine T_litS [.slice a5 (x.take 60).length c6, .slice a12 (y.take 60).length c13] rfl rfl rfl rfl rfl rfl rfl rfl rfl rfl rfl rfl rfl (by simp [Value.cells]; rfl) rfl fun a33 w34 hB35 ho36 => ?_
  have S38 := S32.own hB35 ho36
  refine ⟨trivial, ?_⟩
  obtain ⟨G40, hl41, S39, r42⟩ := S38.stillRow 0 rfl
  have r43 := RdL.mk r42 (rs37.mono hl41)
  refine T_callS rfl rfl g_aumbry_sha_Tagged rfl rfl rfl rfl ((tagged_ok S39.le (hT.mono (hl27.trans hl41)) r43 (by omega)).mono ?_)
  rintro e w45 ⟨rfl, hB44⟩
  have S46 := S39.call hB44
  refine ⟨_, rfl, trivial, ?_⟩
  refine T_allocS S46 (fun _ _ => trivial) rfl rfl rfl rfl rfl rfl rfl fun b47 w48 S49 => ?_
  refine T_allocS S49 (fun _ _ => trivial) rfl rfl rfl rfl rfl rfl rfl fun b50 w51 S52 => ?_
  refine T_storeFS 1 S52 (fun _ _ => trivial) rfl rfl rfl rfl rfl rfl rfl rfl rfl (hVs (key_len tag ([(x.take 60), (y.take 60)]))) (hVs (key_len tag ([(x.take 60), (y.take 60)]))) (one_hA _) fun w53 S54 => ?_
  refine T_storeFS 0 S54 (fun _ _ => trivial) rfl rfl rfl rfl rfl rfl rfl rfl rfl (hVs (Go.Au.tagged_len _ _)) (hVs (Go.Au.tagged_len _ _)) (one_hA _) fun w55 S56 => ?_
  refine T_nil ?_
  refine W_seq ?_
  refine W_region ?_
  refine T_pev rfl rfl rfl rfl ?_
  refine T_callS rfl rfl g_aumbry_aumbrykeep_Copy_byte rfl rfl rfl rfl ((copyB_ok S56.le (hr8.mono (hl27.trans hl41)) (by omega)).mono ?_)
  rintro e w62 ⟨a57, c58, hc59, rfl, ho60, hB61⟩
  have S63 := S56.own hB61 ho60
  refine ⟨_, rfl, trivial, ?_⟩
  refine T_pev rfl rfl rfl rfl ?_
  refine T_appendS 0 (((x.take 60) ++ (y.take 60)).length) (((x.take 60) ++ (y.take 60)).map bV) S63 (fun _ _ => trivial) rfl rfl rfl rfl rfl rfl rfl rfl rfl rfl rfl rfl rfl rfl ((hr15.mono (hl27.trans hl41)).mono S63.le) (one_bV _) (by first | rfl | (simp; done) | (simp; omega) | omega) (by simp) (by unfold maxLen; simp only [List.length_append, List.length_cons, List.length_nil]; omega) (by show _ * 1 ≤ _; simp only [List.length_append, List.length_cons, List.length_nil]; omega) fun a64 c65 w66 hc67 S68 => ?_
  refine T_pev rfl rfl rfl rfl ?_
  refine T_nil ?_
  refine W_seq ?_
  obtain ⟨G70, hl71, S69, r72⟩ := S68.stillBlk 1 rfl
  refine W_tree (planF Tryd.prog G70 [69]) (.step 0 (.step 1 (.step 2 (.step 3 (.step 4 (.step 5 (.step 6 (.step 9 (.step 10 (.fork 7 11 (.fork 8 11 (.step 11 (.step 12 (.step 13 (.step 14 (.step 15 (.step 16 (.step 17 (.step 18 (.step 19 (.step 22 (.step 23 (.step 24 (.fork 20 25 (.fork 21 25 (.step 25 (.step 26 (.step 27 (.step 28 (.step 29 (.step 30 (.step 31 (.step 32 (.step 33 (.step 34 (.step 35 (.step 36 (.step 37 (.step 38 (.step 39 (.step 40 (.step 41 (.step 42 (.step 43 .done))))))))))))))))))) (.step 21 (.step 26 (.step 27 (.step 28 (.step 29 (.step 30 (.step 31 (.step 32 (.step 33 (.step 34 (.step 35 (.step 36 (.step 37 (.step 38 (.step 39 (.step 40 (.step 41 (.step 42 (.step 43 .done)))))))))))))))))))) (.step 20 (.step 21 (.step 26 (.step 27 (.step 28 (.step 29 (.step 30 (.step 31 (.step 32 (.step 33 (.step 34 (.step 35 (.step 36 (.step 37 (.step 38 (.step 39 (.step 40 (.step 41 (.step 42 (.step 43 .done))))))))))))))))))))))))))))))))) (.step 8 (.step 12 (.step 13 (.step 14 (.step 15 (.step 16 (.step 17 (.step 18 (.step 19 (.step 22 (.step 23 (.step 24 (.fork 20 25 (.fork 21 25 (.step 25 (.step 26 (.step 27 (.step 28 (.step 29 (.step 30 (.step 31 (.step 32 (.step 33 (.step 34 (.step 35 (.step 36 (.step 37 (.step 38 (.step 39 (.step 40 (.step 41 (.step 42 (.step 43 .done))))))))))))))))))) (.step 21 (.step 26 (.step 27 (.step 28 (.step 29 (.step 30 (.step 31 (.step 32 (.step 33 (.step 34 (.step 35 (.step 36 (.step 37 (.step 38 (.step 39 (.step 40 (.step 41 (.step 42 (.step 43 .done)))))))))))))))))))) (.step 20 (.step 21 (.step 26 (.step 27 (.step 28 (.step 29 (.step 30 (.step 31 (.step 32 (.step 33 (.step 34 (.step 35 (.step 36 (.step 37 (.step 38 (.step 39 (.step 40 (.step 41 (.step 42 (.step 43 .done)))))))))))))))))))))))))))))))))) (.step 7 (.step 8 (.step 12 (.step 13 (.step 14 (.step 15 (.step 16 (.step 17 (.step 18 (.step 19 (.step 22 (.step 23 (.step 24 (.fork 20 25 (.fork 21 25 (.step 25 (.step 26 (.step 27 (.step 28 (.step 29 (.step 30 (.step 31 (.step 32 (.step 33 (.step 34 (.step 35 (.step 36 (.step 37 (.step 38 (.step 39 (.step 40 (.step 41 (.step 42 (.step 43 .done))))))))))))))))))) (.step 21 (.step 26 (.step 27 (.step 28 (.step 29 (.step 30 (.step 31 (.step 32 (.step 33 (.step 34 (.step 35 (.step 36 (.step 37 (.step 38 (.step 39 (.step 40 (.step 41 (.step 42 (.step 43 .done)))))))))))))))))))) (.step 20 (.step 21 (.step 26 (.step 27 (.step 28 (.step 29 (.step 30 (.step 31 (.step 32 (.step 33 (.step 34 (.step 35 (.step 36 (.step 37 (.step 38 (.step 39 (.step 40 (.step 41 (.step 42 (.step 43 .done)))))))))))))))))))))))))))))))))))))))))))) rfl (by kernel_rfl) S69.le ?_
  have S73 := S69.drew
  refine TT_step rfl ?_
  obtain ⟨G75, hl76, S74, r77⟩ := S73.stillBlk 1 rfl
  refine T_sliceAll rfl rfl rfl rfl rfl rfl rfl rfl ?_
  have r78 := Rd.of_blk (m := 16) (size := 1) (xs := ((Go.Au.tagged tag ([(x.take 60), (y.take 60)])).take 16).map bV) r77 (hcell1 _) (by rw [List.length_map, (key_len tag ([(x.take 60), (y.take 60)]))])
  refine T_nil ?_
  refine TT_step rfl ?_
  refine T_sliceAc 0 16 rfl rfl rfl rfl rfl rfl rfl rfl rfl rfl (bound_of (by omega)) rfl (by omega) (by omega) (by omega) ?_
  have hl80 : (Go.Au.tagged tag ([(x.take 60), (y.take 60)])).length = 32 := (Go.Au.tagged_len _ _)
  have r79 := Rd.of_blk_at (off := 0 + 0) (m := 16 - 0) (c0 := 32 - 0) (size := 1) (xs := ((Go.Au.tagged tag ([(x.take 60), (y.take 60)])).take (16 - 0)).map bV) (hl76 _ _ r72) (by simp only [List.length_map, List.length_take, List.length_drop]; omega) (by omega) (fun j u hu => hV_cut (l := (Go.Au.tagged tag ([(x.take 60), (y.take 60)]))) (q := 0 + 0) (m := 16 - 0) (by omega) j u (by simpa using hu))
  refine T_nil ?_
  refine TT_step rfl ?_
  refine T_callS rfl rfl g_aumbry_aumbrykeep_Same_byte rfl rfl rfl rfl ((sameB_ok S74.le r78 r79 (by first | omega | (simp; done) | (simp only [List.length_take, List.length_drop]; omega))).mono ?_)
  rintro e w82 ⟨rfl, hB81⟩
  have S83 := S74.call hB81
  refine ⟨_, rfl, ((hl76).trans S83.le), ?_⟩
  refine T_nil ?_
  refine TT_step rfl ?_
  refine T_pev rfl rfl rfl rfl ?_
  refine T_nil ?_
  refine TT_step rfl ?_
  refine T_bool 35 true rfl (decide_eq_true rfl) ?_
  refine T_yes rfl rfl rfl ?_ rfl
  refine T_pev rfl rfl rfl rfl ?_
  refine T_nil ?_
  refine TT_step rfl ?_
  refine T_yes rfl rfl rfl ?_ rfl
  refine T_pev rfl rfl rfl rfl ?_
  refine T_nil ?_
  refine TT_step rfl ?_
  refine T_yes rfl rfl rfl ?_ rfl
  refine T_pev rfl rfl rfl rfl ?_
  refine T_nil ?_
  refine TT_step rfl ?_
  refine T_yes rfl rfl rfl ?_ rfl
  refine T_pev rfl rfl rfl rfl ?_
  refine T_nil ?_
  refine TT_step rfl ?_
  refine T_yes rfl rfl rfl ?_ rfl
  refine T_pev rfl rfl rfl rfl ?_
  refine T_nil ?_
  refine TT_fork rfl rfl ?_ ?_
  · refine T_yes rfl rfl rfl ?_ rfl
    have rs88 : Rds G75 [.slice a5 (x.take 60).length c6, .slice a12 (y.take 60).length c13] [(x.take 60), (y.take 60)] := Rds.cons (Rd.canonB (hr8.mono (hl27.trans (hl41.trans (hl71.trans hl76))))) (Rds.cons (Rd.canonB (hr15.mono (hl27.trans (hl41.trans (hl71.trans hl76))))) (Rds.nil _))
    refine T_litS [.slice a5 (x.take 60).length c6, .slice a12 (y.take 60).length c13] rfl rfl rfl rfl rfl rfl rfl rfl rfl rfl rfl rfl rfl (by simp [Value.cells]; rfl) rfl fun a84 w85 hB86 ho87 => ?_
    have S89 := S83.own hB86 ho87
    refine ⟨((hl76).trans S89.le), ?_⟩
    refine T_nil ?_
    refine TT_fork rfl rfl ?_ ?_
    · refine T_yes rfl rfl rfl ?_ rfl
      obtain ⟨G91, hl92, S90, r93⟩ := S89.stillRow 0 rfl
      have r94 := RdL.mk r93 (rs88.mono hl92)
      refine T_callS rfl rfl g_aumbry_sha_Text rfl rfl rfl rfl ((text_ok S90.le (hT.mono (hl27.trans (hl41.trans (hl71.trans (hl76.trans hl92))))) r94 (by omega)).mono ?_)
      rintro e w100 ⟨a95, c96, hc97, rfl, ho98, hB99⟩
      have S101 := S90.own hB99 ho98
      refine ⟨_, rfl, (((hl76.trans hl92)).trans S101.le), ?_⟩
      refine T_nil ?_
      refine TT_step rfl ?_
      refine T_yes rfl rfl rfl ?_ rfl
      obtain ⟨G107, hl108, S106, r109⟩ := S101.stillRow 1 rfl
      have rs110 : Rds G107 [.slice a64 (((x.take 60) ++ (y.take 60)).length) c65] [((x.take 60) ++ (y.take 60))] := Rds.cons (Rd.canonB r109) (Rds.nil _)
      refine T_litS [.slice a64 (((x.take 60) ++ (y.take 60)).length) c65] rfl rfl rfl rfl rfl rfl rfl rfl rfl rfl rfl rfl rfl (by simp [Value.cells]; rfl) rfl fun a102 w103 hB104 ho105 => ?_
      have S111 := S106.own hB104 ho105
      refine ⟨(((hl76.trans (hl92.trans hl108))).trans S111.le), ?_⟩
      refine T_nil ?_
      refine TT_step rfl ?_
      refine T_yes rfl rfl rfl ?_ rfl
      obtain ⟨G113, hl114, S112, r115⟩ := S111.stillRow 0 rfl
      have r116 := RdL.mk r115 (rs110.mono hl114)
      refine T_callS rfl rfl g_aumbry_sha_Text rfl rfl rfl rfl ((text_ok S112.le (hT.mono (hl27.trans (hl41.trans (hl71.trans (hl76.trans (hl92.trans (hl108.trans hl114))))))) r116 (by omega)).mono ?_)
      rintro e w122 ⟨a117, c118, hc119, rfl, ho120, hB121⟩
      have S123 := S112.own hB121 ho120
      refine ⟨_, rfl, (((hl76.trans (hl92.trans (hl108.trans hl114)))).trans S123.le), ?_⟩
      refine T_nil ?_
      refine TT_step rfl ?_
      refine T_yes rfl rfl rfl ?_ rfl
      obtain ⟨G125, hl126, S124, r127⟩ := S123.stillRow 1 rfl
      obtain ⟨G129, hl130, S128, r131⟩ := S124.stillRow 0 rfl
      refine T_callS rfl rfl g_aumbry_aumbrykeep_Same_byte rfl rfl rfl rfl ((sameB_ok S128.le (r127.mono hl130) r131 (by first | omega | (simp; done) | (simp only [List.length_take, List.length_drop]; omega))).mono ?_)
      rintro e w133 ⟨rfl, hB132⟩
      have S134 := S128.call hB132
      refine ⟨_, rfl, (((hl76.trans (hl92.trans (hl108.trans (hl114.trans (hl126.trans hl130)))))).trans S134.le), ?_⟩
      refine T_nil ?_
      refine TT_step rfl ?_
      refine T_yes rfl rfl rfl ?_ rfl
      refine T_pev rfl rfl rfl rfl ?_
      refine T_nil ?_
      refine TT_step rfl ?_
      refine T_pev rfl rfl rfl rfl ?_
      refine T_nil ?_
      refine TT_step rfl ?_
      refine T_pev rfl rfl rfl rfl ?_
      refine T_nil ?_
      refine TT_step rfl ?_
      refine T_bool 48 true rfl (ndec_t (text_far (by omega) (by omega))) ?_
      refine T_yes rfl rfl rfl ?_ rfl
      refine T_pev rfl rfl rfl rfl ?_
      refine T_nil ?_
      refine TT_step rfl ?_
      refine T_yes rfl rfl rfl ?_ rfl
      refine T_pev rfl rfl rfl rfl ?_
      refine T_nil ?_
      refine TT_step rfl ?_
      refine T_yes rfl rfl rfl ?_ rfl
      refine T_pev rfl rfl rfl rfl ?_
      refine T_nil ?_
      refine TT_step rfl ?_
      refine T_yes rfl rfl rfl ?_ rfl
      refine T_pev rfl rfl rfl rfl ?_
      refine T_nil ?_
      refine TT_step rfl ?_
      refine T_yes rfl rfl rfl ?_ rfl
      refine T_pev rfl rfl rfl rfl ?_
      refine T_nil ?_
      refine TT_step rfl ?_
      refine T_yes rfl rfl rfl ?_ rfl
      refine T_pev rfl rfl rfl rfl ?_
      refine T_nil ?_
      refine TT_fork rfl rfl ?_ ?_
      · refine T_yes rfl rfl rfl ?_ rfl
        have rs139 : Rds G129 [.slice a5 (x.take 60).length c6, .slice a12 (y.take 60).length c13] [(x.take 60), (y.take 60)] := Rds.cons (Rd.canonB (hr8.mono (hl27.trans (hl41.trans (hl71.trans (hl76.trans (hl92.trans (hl108.trans (hl114.trans (hl126.trans hl130)))))))))) (Rds.cons (Rd.canonB (hr15.mono (hl27.trans (hl41.trans (hl71.trans (hl76.trans (hl92.trans (hl108.trans (hl114.trans (hl126.trans hl130)))))))))) (Rds.nil _))
        refine T_litS [.slice a5 (x.take 60).length c6, .slice a12 (y.take 60).length c13] rfl rfl rfl rfl rfl rfl rfl rfl rfl rfl rfl rfl rfl (by simp [Value.cells]; rfl) rfl fun a135 w136 hB137 ho138 => ?_
        have S140 := S134.own hB137 ho138
        refine ⟨(((hl76.trans (hl92.trans (hl108.trans (hl114.trans (hl126.trans hl130)))))).trans S140.le), ?_⟩
        refine T_nil ?_
        refine TT_fork rfl rfl ?_ ?_
        · refine T_yes rfl rfl rfl ?_ rfl
          obtain ⟨G142, hl143, S141, r144⟩ := S140.stillRow 0 rfl
          have r145 := RdL.mk r144 (rs139.mono hl143)
          refine T_callS rfl rfl g_aumbry_sha_Text rfl rfl rfl rfl ((text_ok S141.le (hT.mono (hl27.trans (hl41.trans (hl71.trans (hl76.trans (hl92.trans (hl108.trans (hl114.trans (hl126.trans (hl130.trans hl143)))))))))) r145 (by omega)).mono ?_)
          rintro e w151 ⟨a146, c147, hc148, rfl, ho149, hB150⟩
          have S152 := S141.own hB150 ho149
          refine ⟨_, rfl, (((hl76.trans (hl92.trans (hl108.trans (hl114.trans (hl126.trans (hl130.trans hl143))))))).trans S152.le), ?_⟩
          refine T_nil ?_
          refine TT_step rfl ?_
          refine T_yes rfl rfl rfl ?_ rfl
          have rs157 : Rds G142 [.slice a5 (x.take 60).length c6, .slice a12 (y.take 60).length c13, .slice none 0 0] [(x.take 60), (y.take 60), ([] : List UInt8)] := Rds.cons (Rd.canonB (hr8.mono (hl27.trans (hl41.trans (hl71.trans (hl76.trans (hl92.trans (hl108.trans (hl114.trans (hl126.trans (hl130.trans hl143))))))))))) (Rds.cons (Rd.canonB (hr15.mono (hl27.trans (hl41.trans (hl71.trans (hl76.trans (hl92.trans (hl108.trans (hl114.trans (hl126.trans (hl130.trans hl143))))))))))) (Rds.cons (Rd.canonB (Rd.nil _ _)) (Rds.nil _)))
          refine T_litS [.slice a5 (x.take 60).length c6, .slice a12 (y.take 60).length c13, .slice none 0 0] rfl rfl rfl rfl rfl rfl rfl rfl rfl rfl rfl rfl rfl (by simp [Value.cells]; rfl) rfl fun a153 w154 hB155 ho156 => ?_
          have S158 := S152.own hB155 ho156
          refine ⟨(((hl76.trans (hl92.trans (hl108.trans (hl114.trans (hl126.trans (hl130.trans hl143))))))).trans S158.le), ?_⟩
          refine T_nil ?_
          refine TT_step rfl ?_
          refine T_yes rfl rfl rfl ?_ rfl
          obtain ⟨G160, hl161, S159, r162⟩ := S158.stillRow 0 rfl
          have r163 := RdL.mk r162 (rs157.mono hl161)
          refine T_callS rfl rfl g_aumbry_sha_Text rfl rfl rfl rfl ((text_ok S159.le (hT.mono (hl27.trans (hl41.trans (hl71.trans (hl76.trans (hl92.trans (hl108.trans (hl114.trans (hl126.trans (hl130.trans (hl143.trans hl161))))))))))) r163 (by omega)).mono ?_)
          rintro e w169 ⟨a164, c165, hc166, rfl, ho167, hB168⟩
          have S170 := S159.own hB168 ho167
          refine ⟨_, rfl, (((hl76.trans (hl92.trans (hl108.trans (hl114.trans (hl126.trans (hl130.trans (hl143.trans hl161)))))))).trans S170.le), ?_⟩
          refine T_nil ?_
          refine TT_step rfl ?_
          refine T_yes rfl rfl rfl ?_ rfl
          obtain ⟨G172, hl173, S171, r174⟩ := S170.stillRow 1 rfl
          obtain ⟨G176, hl177, S175, r178⟩ := S171.stillRow 0 rfl
          refine T_callS rfl rfl g_aumbry_aumbrykeep_Same_byte rfl rfl rfl rfl ((sameB_ok S175.le (r174.mono hl177) r178 (by first | omega | (simp; done) | (simp only [List.length_take, List.length_drop]; omega))).mono ?_)
          rintro e w180 ⟨rfl, hB179⟩
          have S181 := S175.call hB179
          refine ⟨_, rfl, (((hl76.trans (hl92.trans (hl108.trans (hl114.trans (hl126.trans (hl130.trans (hl143.trans (hl161.trans (hl173.trans hl177)))))))))).trans S181.le), ?_⟩
          refine T_nil ?_
          refine TT_step rfl ?_
          refine T_yes rfl rfl rfl ?_ rfl
          refine T_pev rfl rfl rfl rfl ?_
          refine T_nil ?_
          refine TT_step rfl ?_
          refine T_pev rfl rfl rfl rfl ?_
          refine T_nil ?_
          refine TT_step rfl ?_
          refine T_pev rfl rfl rfl rfl ?_
          refine T_nil ?_
          refine TT_step rfl ?_
          refine T_bool 62 true rfl (ndec_t text_more) ?_
          refine T_yes rfl rfl rfl ?_ rfl
          refine T_pev rfl rfl rfl rfl ?_
          refine T_nil ?_
          refine TT_step rfl ?_
          refine T_yes rfl rfl rfl ?_ rfl
          refine T_pev rfl rfl rfl rfl ?_
          refine T_nil ?_
          refine TT_step rfl ?_
          refine T_yes rfl rfl rfl ?_ rfl
          refine T_pev rfl rfl rfl rfl ?_
          refine T_nil ?_
          refine TT_step rfl ?_
          refine T_yes rfl rfl rfl ?_ rfl
          have rs186 : Rds G176 [.slice a5 (x.take 60).length c6, .slice a12 (y.take 60).length c13] [(x.take 60), (y.take 60)] := Rds.cons (Rd.canonB (hr8.mono (hl27.trans (hl41.trans (hl71.trans (hl76.trans (hl92.trans (hl108.trans (hl114.trans (hl126.trans (hl130.trans (hl143.trans (hl161.trans (hl173.trans hl177)))))))))))))) (Rds.cons (Rd.canonB (hr15.mono (hl27.trans (hl41.trans (hl71.trans (hl76.trans (hl92.trans (hl108.trans (hl114.trans (hl126.trans (hl130.trans (hl143.trans (hl161.trans (hl173.trans hl177)))))))))))))) (Rds.nil _))
          refine T_litS [.slice a5 (x.take 60).length c6, .slice a12 (y.take 60).length c13] rfl rfl rfl rfl rfl rfl rfl rfl rfl rfl rfl rfl rfl (by simp [Value.cells]; rfl) rfl fun a182 w183 hB184 ho185 => ?_
          have S187 := S181.own hB184 ho185
          refine ⟨(((hl76.trans (hl92.trans (hl108.trans (hl114.trans (hl126.trans (hl130.trans (hl143.trans (hl161.trans (hl173.trans hl177)))))))))).trans S187.le), ?_⟩
          refine T_nil ?_
          refine TT_step rfl ?_
          refine T_yes rfl rfl rfl ?_ rfl
          obtain ⟨G189, hl190, S188, r191⟩ := S187.stillRow 0 rfl
          have r192 := RdL.mk r191 (rs186.mono hl190)
          refine T_callS rfl rfl g_aumbry_sha_Text rfl rfl rfl rfl ((text_ok S188.le (hT.mono (hl27.trans (hl41.trans (hl71.trans (hl76.trans (hl92.trans (hl108.trans (hl114.trans (hl126.trans (hl130.trans (hl143.trans (hl161.trans (hl173.trans (hl177.trans hl190)))))))))))))) r192 (by omega)).mono ?_)
          rintro e w198 ⟨a193, c194, hc195, rfl, ho196, hB197⟩
          have S199 := S188.own hB197 ho196
          refine ⟨_, rfl, (((hl76.trans (hl92.trans (hl108.trans (hl114.trans (hl126.trans (hl130.trans (hl143.trans (hl161.trans (hl173.trans (hl177.trans hl190))))))))))).trans S199.le), ?_⟩
          refine T_nil ?_
          refine TT_step rfl ?_
          refine T_yes rfl rfl rfl ?_ rfl
          obtain ⟨G201, hl202, S200, r203⟩ := S199.stillRow 0 rfl
          refine T_callS rfl rfl g_aumbry_sha_Sum rfl rfl rfl rfl ((sumN_ok S200.le r203 (by omega)).mono ?_)
          rintro e w205 ⟨rfl, hB204⟩
          have S206 := S200.call hB204
          refine ⟨_, rfl, (((hl76.trans (hl92.trans (hl108.trans (hl114.trans (hl126.trans (hl130.trans (hl143.trans (hl161.trans (hl173.trans (hl177.trans (hl190.trans hl202)))))))))))).trans S206.le), ?_⟩
          refine T_nil ?_
          refine TT_step rfl ?_
          refine T_yes rfl rfl rfl ?_ rfl
          refine T_loadGAP _ (fun _ h => h) (still_cells r72) rfl rfl rfl rfl rfl rfl rfl rfl (hVs (Go.Au.tagged_len _ _)) ?_
          refine T_nil ?_
          refine TT_step rfl ?_
          refine T_yes rfl rfl rfl ?_ rfl
          refine T_eqB (xs := Go.Sha.sha (Go.Au.text tag ([(x.take 60), (y.take 60)]))) (ys := Go.Au.tagged tag ([(x.take 60), (y.take 60)])) rfl rfl rfl rfl rfl rfl rfl rfl rfl rfl rfl (Go.Sha.sha_len _) (Go.Au.tagged_len _ _) ?_
          refine T_nil ?_
          refine TT_step rfl ?_
          refine T_pev rfl rfl rfl rfl ?_
          refine T_nil ?_
          refine TT_step rfl ?_
          refine T_pev rfl rfl rfl rfl ?_
          refine T_nil ?_
          refine TT_step rfl ?_
          refine T_bool 72 true rfl (decide_eq_true rfl) ?_
          refine T_yes rfl rfl rfl ?_ rfl
          refine T_callS rfl rfl g_aumbry_aumbrylaw02_wakes rfl rfl rfl rfl ((wakesN_ok S206.le ).mono ?_)
          rintro e w208 ⟨rfl, hB207⟩
          have S209 := S206.call hB207
          refine ⟨_, rfl, (((hl76.trans (hl92.trans (hl108.trans (hl114.trans (hl126.trans (hl130.trans (hl143.trans (hl161.trans (hl173.trans (hl177.trans (hl190.trans hl202)))))))))))).trans S209.le), ?_⟩
          refine T_nil ?_
          refine TT_step rfl ?_
          refine T_pev rfl rfl rfl rfl ?_
          refine T_nil ?_
          refine TT_step rfl ?_
          refine T_pev rfl rfl rfl rfl ?_
          refine T_nil ?_
          refine TT_done ?_
          refine W_ret ?_
          refine ⟨_, ⟨_, _, rfl, rfl, rfl⟩, ?_⟩
          exact ⟨rfl, S209.below⟩
        refine T_yes rfl rfl rfl ?_ rfl
        have rs214 : Rds G129 [.slice a5 (x.take 60).length c6, .slice a12 (y.take 60).length c13, .slice none 0 0] [(x.take 60), (y.take 60), ([] : List UInt8)] := Rds.cons (Rd.canonB (hr8.mono (hl27.trans (hl41.trans (hl71.trans (hl76.trans (hl92.trans (hl108.trans (hl114.trans (hl126.trans hl130)))))))))) (Rds.cons (Rd.canonB (hr15.mono (hl27.trans (hl41.trans (hl71.trans (hl76.trans (hl92.trans (hl108.trans (hl114.trans (hl126.trans hl130)))))))))) (Rds.cons (Rd.canonB (Rd.nil _ _)) (Rds.nil _)))
        refine T_litS [.slice a5 (x.take 60).length c6, .slice a12 (y.take 60).length c13, .slice none 0 0] rfl rfl rfl rfl rfl rfl rfl rfl rfl rfl rfl rfl rfl (by simp [Value.cells]; rfl) rfl fun a210 w211 hB212 ho213 => ?_
        have S215 := S140.own hB212 ho213
        refine ⟨(((hl76.trans (hl92.trans (hl108.trans (hl114.trans (hl126.trans hl130)))))).trans S215.le), ?_⟩
        refine T_nil ?_
        refine TT_step rfl ?_
        refine T_yes rfl rfl rfl ?_ rfl
        obtain ⟨G217, hl218, S216, r219⟩ := S215.stillRow 1 rfl
        have r220 := RdL.mk r219 (rs139.mono hl218)
        refine T_callS rfl rfl g_aumbry_sha_Text rfl rfl rfl rfl ((text_ok S216.le (hT.mono (hl27.trans (hl41.trans (hl71.trans (hl76.trans (hl92.trans (hl108.trans (hl114.trans (hl126.trans (hl130.trans hl218)))))))))) r220 (by omega)).mono ?_)
        rintro e w226 ⟨a221, c222, hc223, rfl, ho224, hB225⟩
        have S227 := S216.own hB225 ho224
        refine ⟨_, rfl, (((hl76.trans (hl92.trans (hl108.trans (hl114.trans (hl126.trans (hl130.trans hl218))))))).trans S227.le), ?_⟩
        refine T_nil ?_
        refine TT_step rfl ?_
        refine T_yes rfl rfl rfl ?_ rfl
        obtain ⟨G229, hl230, S228, r231⟩ := S227.stillRow 1 rfl
        have r232 := RdL.mk r231 (rs214.mono (hl218.trans hl230))
        refine T_callS rfl rfl g_aumbry_sha_Text rfl rfl rfl rfl ((text_ok S228.le (hT.mono (hl27.trans (hl41.trans (hl71.trans (hl76.trans (hl92.trans (hl108.trans (hl114.trans (hl126.trans (hl130.trans (hl218.trans hl230))))))))))) r232 (by omega)).mono ?_)
        rintro e w238 ⟨a233, c234, hc235, rfl, ho236, hB237⟩
        have S239 := S228.own hB237 ho236
        refine ⟨_, rfl, (((hl76.trans (hl92.trans (hl108.trans (hl114.trans (hl126.trans (hl130.trans (hl218.trans hl230)))))))).trans S239.le), ?_⟩
        refine T_nil ?_
        refine TT_step rfl ?_
        refine T_yes rfl rfl rfl ?_ rfl
        obtain ⟨G241, hl242, S240, r243⟩ := S239.stillRow 1 rfl
        obtain ⟨G245, hl246, S244, r247⟩ := S240.stillRow 0 rfl
        refine T_callS rfl rfl g_aumbry_aumbrykeep_Same_byte rfl rfl rfl rfl ((sameB_ok S244.le (r243.mono hl246) r247 (by first | omega | (simp; done) | (simp only [List.length_take, List.length_drop]; omega))).mono ?_)
        rintro e w249 ⟨rfl, hB248⟩
        have S250 := S244.call hB248
        refine ⟨_, rfl, (((hl76.trans (hl92.trans (hl108.trans (hl114.trans (hl126.trans (hl130.trans (hl218.trans (hl230.trans (hl242.trans hl246)))))))))).trans S250.le), ?_⟩
        refine T_nil ?_
        refine TT_step rfl ?_
        refine T_yes rfl rfl rfl ?_ rfl
        refine T_pev rfl rfl rfl rfl ?_
        refine T_nil ?_
        refine TT_step rfl ?_
        refine T_pev rfl rfl rfl rfl ?_
        refine T_nil ?_
        refine TT_step rfl ?_
        refine T_pev rfl rfl rfl rfl ?_
        refine T_nil ?_
        refine TT_step rfl ?_
        refine T_bool 62 true rfl (ndec_t text_more) ?_
        refine T_yes rfl rfl rfl ?_ rfl
        refine T_pev rfl rfl rfl rfl ?_
        refine T_nil ?_
        refine TT_step rfl ?_
        refine T_yes rfl rfl rfl ?_ rfl
        refine T_pev rfl rfl rfl rfl ?_
        refine T_nil ?_
        refine TT_step rfl ?_
        refine T_yes rfl rfl rfl ?_ rfl
        refine T_pev rfl rfl rfl rfl ?_
        refine T_nil ?_
        refine TT_step rfl ?_
        refine T_yes rfl rfl rfl ?_ rfl
        have rs255 : Rds G245 [.slice a5 (x.take 60).length c6, .slice a12 (y.take 60).length c13] [(x.take 60), (y.take 60)] := Rds.cons (Rd.canonB (hr8.mono (hl27.trans (hl41.trans (hl71.trans (hl76.trans (hl92.trans (hl108.trans (hl114.trans (hl126.trans (hl130.trans (hl218.trans (hl230.trans (hl242.trans hl246)))))))))))))) (Rds.cons (Rd.canonB (hr15.mono (hl27.trans (hl41.trans (hl71.trans (hl76.trans (hl92.trans (hl108.trans (hl114.trans (hl126.trans (hl130.trans (hl218.trans (hl230.trans (hl242.trans hl246)))))))))))))) (Rds.nil _))
        refine T_litS [.slice a5 (x.take 60).length c6, .slice a12 (y.take 60).length c13] rfl rfl rfl rfl rfl rfl rfl rfl rfl rfl rfl rfl rfl (by simp [Value.cells]; rfl) rfl fun a251 w252 hB253 ho254 => ?_
        have S256 := S250.own hB253 ho254
        refine ⟨(((hl76.trans (hl92.trans (hl108.trans (hl114.trans (hl126.trans (hl130.trans (hl218.trans (hl230.trans (hl242.trans hl246)))))))))).trans S256.le), ?_⟩
        refine T_nil ?_
        refine TT_step rfl ?_
        refine T_yes rfl rfl rfl ?_ rfl
        obtain ⟨G258, hl259, S257, r260⟩ := S256.stillRow 0 rfl
        have r261 := RdL.mk r260 (rs255.mono hl259)
        refine T_callS rfl rfl g_aumbry_sha_Text rfl rfl rfl rfl ((text_ok S257.le (hT.mono (hl27.trans (hl41.trans (hl71.trans (hl76.trans (hl92.trans (hl108.trans (hl114.trans (hl126.trans (hl130.trans (hl218.trans (hl230.trans (hl242.trans (hl246.trans hl259)))))))))))))) r261 (by omega)).mono ?_)
        rintro e w267 ⟨a262, c263, hc264, rfl, ho265, hB266⟩
        have S268 := S257.own hB266 ho265
        refine ⟨_, rfl, (((hl76.trans (hl92.trans (hl108.trans (hl114.trans (hl126.trans (hl130.trans (hl218.trans (hl230.trans (hl242.trans (hl246.trans hl259))))))))))).trans S268.le), ?_⟩
        refine T_nil ?_
        refine TT_step rfl ?_
        refine T_yes rfl rfl rfl ?_ rfl
        obtain ⟨G270, hl271, S269, r272⟩ := S268.stillRow 0 rfl
        refine T_callS rfl rfl g_aumbry_sha_Sum rfl rfl rfl rfl ((sumN_ok S269.le r272 (by omega)).mono ?_)
        rintro e w274 ⟨rfl, hB273⟩
        have S275 := S269.call hB273
        refine ⟨_, rfl, (((hl76.trans (hl92.trans (hl108.trans (hl114.trans (hl126.trans (hl130.trans (hl218.trans (hl230.trans (hl242.trans (hl246.trans (hl259.trans hl271)))))))))))).trans S275.le), ?_⟩
        refine T_nil ?_
        refine TT_step rfl ?_
        refine T_yes rfl rfl rfl ?_ rfl
        refine T_loadGAP _ (fun _ h => h) (still_cells r72) rfl rfl rfl rfl rfl rfl rfl rfl (hVs (Go.Au.tagged_len _ _)) ?_
        refine T_nil ?_
        refine TT_step rfl ?_
        refine T_yes rfl rfl rfl ?_ rfl
        refine T_eqB (xs := Go.Sha.sha (Go.Au.text tag ([(x.take 60), (y.take 60)]))) (ys := Go.Au.tagged tag ([(x.take 60), (y.take 60)])) rfl rfl rfl rfl rfl rfl rfl rfl rfl rfl rfl (Go.Sha.sha_len _) (Go.Au.tagged_len _ _) ?_
        refine T_nil ?_
        refine TT_step rfl ?_
        refine T_pev rfl rfl rfl rfl ?_
        refine T_nil ?_
        refine TT_step rfl ?_
        refine T_pev rfl rfl rfl rfl ?_
        refine T_nil ?_
        refine TT_step rfl ?_
        refine T_bool 72 true rfl (decide_eq_true rfl) ?_
        refine T_yes rfl rfl rfl ?_ rfl
        refine T_callS rfl rfl g_aumbry_aumbrylaw02_wakes rfl rfl rfl rfl ((wakesN_ok S275.le ).mono ?_)
        rintro e w277 ⟨rfl, hB276⟩
        have S278 := S275.call hB276
        refine ⟨_, rfl, (((hl76.trans (hl92.trans (hl108.trans (hl114.trans (hl126.trans (hl130.trans (hl218.trans (hl230.trans (hl242.trans (hl246.trans (hl259.trans hl271)))))))))))).trans S278.le), ?_⟩
        refine T_nil ?_
        refine TT_step rfl ?_
        refine T_pev rfl rfl rfl rfl ?_
        refine T_nil ?_
        refine TT_step rfl ?_
        refine T_pev rfl rfl rfl rfl ?_
        refine T_nil ?_
        refine TT_done ?_
        refine W_ret ?_
        refine ⟨_, ⟨_, _, rfl, rfl, rfl⟩, ?_⟩
        exact ⟨rfl, S278.below⟩
      refine T_yes rfl rfl rfl ?_ rfl
      have rs283 : Rds G129 [.slice a5 (x.take 60).length c6, .slice a12 (y.take 60).length c13, .slice none 0 0] [(x.take 60), (y.take 60), ([] : List UInt8)] := Rds.cons (Rd.canonB (hr8.mono (hl27.trans (hl41.trans (hl71.trans (hl76.trans (hl92.trans (hl108.trans (hl114.trans (hl126.trans hl130)))))))))) (Rds.cons (Rd.canonB (hr15.mono (hl27.trans (hl41.trans (hl71.trans (hl76.trans (hl92.trans (hl108.trans (hl114.trans (hl126.trans hl130)))))))))) (Rds.cons (Rd.canonB (Rd.nil _ _)) (Rds.nil _)))
      refine T_litS [.slice a5 (x.take 60).length c6, .slice a12 (y.take 60).length c13, .slice none 0 0] rfl rfl rfl rfl rfl rfl rfl rfl rfl rfl rfl rfl rfl (by simp [Value.cells]; rfl) rfl fun a279 w280 hB281 ho282 => ?_
      have S284 := S134.own hB281 ho282
      refine ⟨(((hl76.trans (hl92.trans (hl108.trans (hl114.trans (hl126.trans hl130)))))).trans S284.le), ?_⟩
      refine T_nil ?_
      refine TT_step rfl ?_
      refine T_yes rfl rfl rfl ?_ rfl
      have rs289 : Rds G129 [.slice a5 (x.take 60).length c6, .slice a12 (y.take 60).length c13] [(x.take 60), (y.take 60)] := Rds.cons (Rd.canonB (hr8.mono (hl27.trans (hl41.trans (hl71.trans (hl76.trans (hl92.trans (hl108.trans (hl114.trans (hl126.trans hl130)))))))))) (Rds.cons (Rd.canonB (hr15.mono (hl27.trans (hl41.trans (hl71.trans (hl76.trans (hl92.trans (hl108.trans (hl114.trans (hl126.trans hl130)))))))))) (Rds.nil _))
      refine T_litS [.slice a5 (x.take 60).length c6, .slice a12 (y.take 60).length c13] rfl rfl rfl rfl rfl rfl rfl rfl rfl rfl rfl rfl rfl (by simp [Value.cells]; rfl) rfl fun a285 w286 hB287 ho288 => ?_
      have S290 := S284.own hB287 ho288
      refine ⟨(((hl76.trans (hl92.trans (hl108.trans (hl114.trans (hl126.trans hl130)))))).trans S290.le), ?_⟩
      refine T_nil ?_
      refine TT_step rfl ?_
      refine T_yes rfl rfl rfl ?_ rfl
      obtain ⟨G292, hl293, S291, r294⟩ := S290.stillRow 0 rfl
      have r295 := RdL.mk r294 (rs289.mono hl293)
      refine T_callS rfl rfl g_aumbry_sha_Text rfl rfl rfl rfl ((text_ok S291.le (hT.mono (hl27.trans (hl41.trans (hl71.trans (hl76.trans (hl92.trans (hl108.trans (hl114.trans (hl126.trans (hl130.trans hl293)))))))))) r295 (by omega)).mono ?_)
      rintro e w301 ⟨a296, c297, hc298, rfl, ho299, hB300⟩
      have S302 := S291.own hB300 ho299
      refine ⟨_, rfl, (((hl76.trans (hl92.trans (hl108.trans (hl114.trans (hl126.trans (hl130.trans hl293))))))).trans S302.le), ?_⟩
      refine T_nil ?_
      refine TT_step rfl ?_
      refine T_yes rfl rfl rfl ?_ rfl
      obtain ⟨G304, hl305, S303, r306⟩ := S302.stillRow 1 rfl
      have r307 := RdL.mk r306 (rs283.mono (hl293.trans hl305))
      refine T_callS rfl rfl g_aumbry_sha_Text rfl rfl rfl rfl ((text_ok S303.le (hT.mono (hl27.trans (hl41.trans (hl71.trans (hl76.trans (hl92.trans (hl108.trans (hl114.trans (hl126.trans (hl130.trans (hl293.trans hl305))))))))))) r307 (by omega)).mono ?_)
      rintro e w313 ⟨a308, c309, hc310, rfl, ho311, hB312⟩
      have S314 := S303.own hB312 ho311
      refine ⟨_, rfl, (((hl76.trans (hl92.trans (hl108.trans (hl114.trans (hl126.trans (hl130.trans (hl293.trans hl305)))))))).trans S314.le), ?_⟩
      refine T_nil ?_
      refine TT_step rfl ?_
      refine T_yes rfl rfl rfl ?_ rfl
      obtain ⟨G316, hl317, S315, r318⟩ := S314.stillRow 1 rfl
      obtain ⟨G320, hl321, S319, r322⟩ := S315.stillRow 0 rfl
      refine T_callS rfl rfl g_aumbry_aumbrykeep_Same_byte rfl rfl rfl rfl ((sameB_ok S319.le (r318.mono hl321) r322 (by first | omega | (simp; done) | (simp only [List.length_take, List.length_drop]; omega))).mono ?_)
      rintro e w324 ⟨rfl, hB323⟩
      have S325 := S319.call hB323
      refine ⟨_, rfl, (((hl76.trans (hl92.trans (hl108.trans (hl114.trans (hl126.trans (hl130.trans (hl293.trans (hl305.trans (hl317.trans hl321)))))))))).trans S325.le), ?_⟩
      refine T_nil ?_
      refine TT_step rfl ?_
      refine T_yes rfl rfl rfl ?_ rfl
      refine T_pev rfl rfl rfl rfl ?_
      refine T_nil ?_
      refine TT_step rfl ?_
      refine T_pev rfl rfl rfl rfl ?_
      refine T_nil ?_
      refine TT_step rfl ?_
      refine T_pev rfl rfl rfl rfl ?_
      refine T_nil ?_
      refine TT_step rfl ?_
      refine T_bool 62 true rfl (ndec_t text_more) ?_
      refine T_yes rfl rfl rfl ?_ rfl
      refine T_pev rfl rfl rfl rfl ?_
      refine T_nil ?_
      refine TT_step rfl ?_
      refine T_yes rfl rfl rfl ?_ rfl
      refine T_pev rfl rfl rfl rfl ?_
      refine T_nil ?_
      refine TT_step rfl ?_
      refine T_yes rfl rfl rfl ?_ rfl
      refine T_pev rfl rfl rfl rfl ?_
      refine T_nil ?_
      refine TT_step rfl ?_
      refine T_yes rfl rfl rfl ?_ rfl
      have rs330 : Rds G320 [.slice a5 (x.take 60).length c6, .slice a12 (y.take 60).length c13] [(x.take 60), (y.take 60)] := Rds.cons (Rd.canonB (hr8.mono (hl27.trans (hl41.trans (hl71.trans (hl76.trans (hl92.trans (hl108.trans (hl114.trans (hl126.trans (hl130.trans (hl293.trans (hl305.trans (hl317.trans hl321)))))))))))))) (Rds.cons (Rd.canonB (hr15.mono (hl27.trans (hl41.trans (hl71.trans (hl76.trans (hl92.trans (hl108.trans (hl114.trans (hl126.trans (hl130.trans (hl293.trans (hl305.trans (hl317.trans hl321)))))))))))))) (Rds.nil _))
      refine T_litS [.slice a5 (x.take 60).length c6, .slice a12 (y.take 60).length c13] rfl rfl rfl rfl rfl rfl rfl rfl rfl rfl rfl rfl rfl (by simp [Value.cells]; rfl) rfl fun a326 w327 hB328 ho329 => ?_
      have S331 := S325.own hB328 ho329
      refine ⟨(((hl76.trans (hl92.trans (hl108.trans (hl114.trans (hl126.trans (hl130.trans (hl293.trans (hl305.trans (hl317.trans hl321)))))))))).trans S331.le), ?_⟩
      refine T_nil ?_
      refine TT_step rfl ?_
      refine T_yes rfl rfl rfl ?_ rfl
      obtain ⟨G333, hl334, S332, r335⟩ := S331.stillRow 0 rfl
      have r336 := RdL.mk r335 (rs330.mono hl334)
      refine T_callS rfl rfl g_aumbry_sha_Text rfl rfl rfl rfl ((text_ok S332.le (hT.mono (hl27.trans (hl41.trans (hl71.trans (hl76.trans (hl92.trans (hl108.trans (hl114.trans (hl126.trans (hl130.trans (hl293.trans (hl305.trans (hl317.trans (hl321.trans hl334)))))))))))))) r336 (by omega)).mono ?_)
      rintro e w342 ⟨a337, c338, hc339, rfl, ho340, hB341⟩
      have S343 := S332.own hB341 ho340
      refine ⟨_, rfl, (((hl76.trans (hl92.trans (hl108.trans (hl114.trans (hl126.trans (hl130.trans (hl293.trans (hl305.trans (hl317.trans (hl321.trans hl334))))))))))).trans S343.le), ?_⟩
      refine T_nil ?_
      refine TT_step rfl ?_
      refine T_yes rfl rfl rfl ?_ rfl
      obtain ⟨G345, hl346, S344, r347⟩ := S343.stillRow 0 rfl
      refine T_callS rfl rfl g_aumbry_sha_Sum rfl rfl rfl rfl ((sumN_ok S344.le r347 (by omega)).mono ?_)
      rintro e w349 ⟨rfl, hB348⟩
      have S350 := S344.call hB348
      refine ⟨_, rfl, (((hl76.trans (hl92.trans (hl108.trans (hl114.trans (hl126.trans (hl130.trans (hl293.trans (hl305.trans (hl317.trans (hl321.trans (hl334.trans hl346)))))))))))).trans S350.le), ?_⟩
      refine T_nil ?_
      refine TT_step rfl ?_
      refine T_yes rfl rfl rfl ?_ rfl
      refine T_loadGAP _ (fun _ h => h) (still_cells r72) rfl rfl rfl rfl rfl rfl rfl rfl (hVs (Go.Au.tagged_len _ _)) ?_
      refine T_nil ?_
      refine TT_step rfl ?_
      refine T_yes rfl rfl rfl ?_ rfl
      refine T_eqB (xs := Go.Sha.sha (Go.Au.text tag ([(x.take 60), (y.take 60)]))) (ys := Go.Au.tagged tag ([(x.take 60), (y.take 60)])) rfl rfl rfl rfl rfl rfl rfl rfl rfl rfl rfl (Go.Sha.sha_len _) (Go.Au.tagged_len _ _) ?_
      refine T_nil ?_
      refine TT_step rfl ?_
      refine T_pev rfl rfl rfl rfl ?_
      refine T_nil ?_
      refine TT_step rfl ?_
      refine T_pev rfl rfl rfl rfl ?_
      refine T_nil ?_
      refine TT_step rfl ?_
      refine T_bool 72 true rfl (decide_eq_true rfl) ?_
      refine T_yes rfl rfl rfl ?_ rfl
      refine T_callS rfl rfl g_aumbry_aumbrylaw02_wakes rfl rfl rfl rfl ((wakesN_ok S350.le ).mono ?_)
      rintro e w352 ⟨rfl, hB351⟩
      have S353 := S350.call hB351
      refine ⟨_, rfl, (((hl76.trans (hl92.trans (hl108.trans (hl114.trans (hl126.trans (hl130.trans (hl293.trans (hl305.trans (hl317.trans (hl321.trans (hl334.trans hl346)))))))))))).trans S353.le), ?_⟩
      refine T_nil ?_
      refine TT_step rfl ?_
      refine T_pev rfl rfl rfl rfl ?_
      refine T_nil ?_
      refine TT_step rfl ?_
      refine T_pev rfl rfl rfl rfl ?_
      refine T_nil ?_
      refine TT_done ?_
      refine W_ret ?_
      refine ⟨_, ⟨_, _, rfl, rfl, rfl⟩, ?_⟩
      exact ⟨rfl, S353.below⟩
    refine T_yes rfl rfl rfl ?_ rfl
    obtain ⟨G359, hl360, S358, r361⟩ := S89.stillRow 1 rfl
    have rs362 : Rds G359 [.slice a64 (((x.take 60) ++ (y.take 60)).length) c65] [((x.take 60) ++ (y.take 60))] := Rds.cons (Rd.canonB r361) (Rds.nil _)
    refine T_litS [.slice a64 (((x.take 60) ++ (y.take 60)).length) c65] rfl rfl rfl rfl rfl rfl rfl rfl rfl rfl rfl rfl rfl (by simp [Value.cells]; rfl) rfl fun a354 w355 hB356 ho357 => ?_
    have S363 := S358.own hB356 ho357
    refine ⟨(((hl76.trans hl360)).trans S363.le), ?_⟩
    refine T_nil ?_
    refine TT_step rfl ?_
    refine T_yes rfl rfl rfl ?_ rfl
    obtain ⟨G365, hl366, S364, r367⟩ := S363.stillRow 1 rfl
    have r368 := RdL.mk r367 (rs88.mono (hl360.trans hl366))
    refine T_callS rfl rfl g_aumbry_sha_Text rfl rfl rfl rfl ((text_ok S364.le (hT.mono (hl27.trans (hl41.trans (hl71.trans (hl76.trans (hl360.trans hl366)))))) r368 (by omega)).mono ?_)
    rintro e w374 ⟨a369, c370, hc371, rfl, ho372, hB373⟩
    have S375 := S364.own hB373 ho372
    refine ⟨_, rfl, (((hl76.trans (hl360.trans hl366))).trans S375.le), ?_⟩
    refine T_nil ?_
    refine TT_step rfl ?_
    refine T_yes rfl rfl rfl ?_ rfl
    obtain ⟨G377, hl378, S376, r379⟩ := S375.stillRow 1 rfl
    have r380 := RdL.mk r379 (rs362.mono (hl366.trans hl378))
    refine T_callS rfl rfl g_aumbry_sha_Text rfl rfl rfl rfl ((text_ok S376.le (hT.mono (hl27.trans (hl41.trans (hl71.trans (hl76.trans (hl360.trans (hl366.trans hl378))))))) r380 (by omega)).mono ?_)
    rintro e w386 ⟨a381, c382, hc383, rfl, ho384, hB385⟩
    have S387 := S376.own hB385 ho384
    refine ⟨_, rfl, (((hl76.trans (hl360.trans (hl366.trans hl378)))).trans S387.le), ?_⟩
    refine T_nil ?_
    refine TT_step rfl ?_
    refine T_yes rfl rfl rfl ?_ rfl
    obtain ⟨G389, hl390, S388, r391⟩ := S387.stillRow 1 rfl
    obtain ⟨G393, hl394, S392, r395⟩ := S388.stillRow 0 rfl
    refine T_callS rfl rfl g_aumbry_aumbrykeep_Same_byte rfl rfl rfl rfl ((sameB_ok S392.le (r391.mono hl394) r395 (by first | omega | (simp; done) | (simp only [List.length_take, List.length_drop]; omega))).mono ?_)
    rintro e w397 ⟨rfl, hB396⟩
    have S398 := S392.call hB396
    refine ⟨_, rfl, (((hl76.trans (hl360.trans (hl366.trans (hl378.trans (hl390.trans hl394)))))).trans S398.le), ?_⟩
    refine T_nil ?_
    refine TT_step rfl ?_
    refine T_yes rfl rfl rfl ?_ rfl
    refine T_pev rfl rfl rfl rfl ?_
    refine T_nil ?_
    refine TT_step rfl ?_
    refine T_pev rfl rfl rfl rfl ?_
    refine T_nil ?_
    refine TT_step rfl ?_
    refine T_pev rfl rfl rfl rfl ?_
    refine T_nil ?_
    refine TT_step rfl ?_
    refine T_bool 48 true rfl (ndec_t (text_far (by omega) (by omega))) ?_
    refine T_yes rfl rfl rfl ?_ rfl
    refine T_pev rfl rfl rfl rfl ?_
    refine T_nil ?_
    refine TT_step rfl ?_
    refine T_yes rfl rfl rfl ?_ rfl
    refine T_pev rfl rfl rfl rfl ?_
    refine T_nil ?_
    refine TT_step rfl ?_
    refine T_yes rfl rfl rfl ?_ rfl
    refine T_pev rfl rfl rfl rfl ?_
    refine T_nil ?_
    refine TT_step rfl ?_
    refine T_yes rfl rfl rfl ?_ rfl
    refine T_pev rfl rfl rfl rfl ?_
    refine T_nil ?_
    refine TT_step rfl ?_
    refine T_yes rfl rfl rfl ?_ rfl
    refine T_pev rfl rfl rfl rfl ?_
    refine T_nil ?_
    refine TT_step rfl ?_
    refine T_yes rfl rfl rfl ?_ rfl
    refine T_pev rfl rfl rfl rfl ?_
    refine T_nil ?_
    refine TT_fork rfl rfl ?_ ?_
    · refine T_yes rfl rfl rfl ?_ rfl
      have rs403 : Rds G393 [.slice a5 (x.take 60).length c6, .slice a12 (y.take 60).length c13] [(x.take 60), (y.take 60)] := Rds.cons (Rd.canonB (hr8.mono (hl27.trans (hl41.trans (hl71.trans (hl76.trans (hl360.trans (hl366.trans (hl378.trans (hl390.trans hl394)))))))))) (Rds.cons (Rd.canonB (hr15.mono (hl27.trans (hl41.trans (hl71.trans (hl76.trans (hl360.trans (hl366.trans (hl378.trans (hl390.trans hl394)))))))))) (Rds.nil _))
      refine T_litS [.slice a5 (x.take 60).length c6, .slice a12 (y.take 60).length c13] rfl rfl rfl rfl rfl rfl rfl rfl rfl rfl rfl rfl rfl (by simp [Value.cells]; rfl) rfl fun a399 w400 hB401 ho402 => ?_
      have S404 := S398.own hB401 ho402
      refine ⟨(((hl76.trans (hl360.trans (hl366.trans (hl378.trans (hl390.trans hl394)))))).trans S404.le), ?_⟩
      refine T_nil ?_
      refine TT_fork rfl rfl ?_ ?_
      · refine T_yes rfl rfl rfl ?_ rfl
        obtain ⟨G406, hl407, S405, r408⟩ := S404.stillRow 0 rfl
        have r409 := RdL.mk r408 (rs403.mono hl407)
        refine T_callS rfl rfl g_aumbry_sha_Text rfl rfl rfl rfl ((text_ok S405.le (hT.mono (hl27.trans (hl41.trans (hl71.trans (hl76.trans (hl360.trans (hl366.trans (hl378.trans (hl390.trans (hl394.trans hl407)))))))))) r409 (by omega)).mono ?_)
        rintro e w415 ⟨a410, c411, hc412, rfl, ho413, hB414⟩
        have S416 := S405.own hB414 ho413
        refine ⟨_, rfl, (((hl76.trans (hl360.trans (hl366.trans (hl378.trans (hl390.trans (hl394.trans hl407))))))).trans S416.le), ?_⟩
        refine T_nil ?_
        refine TT_step rfl ?_
        refine T_yes rfl rfl rfl ?_ rfl
        have rs421 : Rds G406 [.slice a5 (x.take 60).length c6, .slice a12 (y.take 60).length c13, .slice none 0 0] [(x.take 60), (y.take 60), ([] : List UInt8)] := Rds.cons (Rd.canonB (hr8.mono (hl27.trans (hl41.trans (hl71.trans (hl76.trans (hl360.trans (hl366.trans (hl378.trans (hl390.trans (hl394.trans hl407))))))))))) (Rds.cons (Rd.canonB (hr15.mono (hl27.trans (hl41.trans (hl71.trans (hl76.trans (hl360.trans (hl366.trans (hl378.trans (hl390.trans (hl394.trans hl407))))))))))) (Rds.cons (Rd.canonB (Rd.nil _ _)) (Rds.nil _)))
        refine T_litS [.slice a5 (x.take 60).length c6, .slice a12 (y.take 60).length c13, .slice none 0 0] rfl rfl rfl rfl rfl rfl rfl rfl rfl rfl rfl rfl rfl (by simp [Value.cells]; rfl) rfl fun a417 w418 hB419 ho420 => ?_
        have S422 := S416.own hB419 ho420
        refine ⟨(((hl76.trans (hl360.trans (hl366.trans (hl378.trans (hl390.trans (hl394.trans hl407))))))).trans S422.le), ?_⟩
        refine T_nil ?_
        refine TT_step rfl ?_
        refine T_yes rfl rfl rfl ?_ rfl
        obtain ⟨G424, hl425, S423, r426⟩ := S422.stillRow 0 rfl
        have r427 := RdL.mk r426 (rs421.mono hl425)
        refine T_callS rfl rfl g_aumbry_sha_Text rfl rfl rfl rfl ((text_ok S423.le (hT.mono (hl27.trans (hl41.trans (hl71.trans (hl76.trans (hl360.trans (hl366.trans (hl378.trans (hl390.trans (hl394.trans (hl407.trans hl425))))))))))) r427 (by omega)).mono ?_)
        rintro e w433 ⟨a428, c429, hc430, rfl, ho431, hB432⟩
        have S434 := S423.own hB432 ho431
        refine ⟨_, rfl, (((hl76.trans (hl360.trans (hl366.trans (hl378.trans (hl390.trans (hl394.trans (hl407.trans hl425)))))))).trans S434.le), ?_⟩
        refine T_nil ?_
        refine TT_step rfl ?_
        refine T_yes rfl rfl rfl ?_ rfl
        obtain ⟨G436, hl437, S435, r438⟩ := S434.stillRow 1 rfl
        obtain ⟨G440, hl441, S439, r442⟩ := S435.stillRow 0 rfl
        refine T_callS rfl rfl g_aumbry_aumbrykeep_Same_byte rfl rfl rfl rfl ((sameB_ok S439.le (r438.mono hl441) r442 (by first | omega | (simp; done) | (simp only [List.length_take, List.length_drop]; omega))).mono ?_)
        rintro e w444 ⟨rfl, hB443⟩
        have S445 := S439.call hB443
        refine ⟨_, rfl, (((hl76.trans (hl360.trans (hl366.trans (hl378.trans (hl390.trans (hl394.trans (hl407.trans (hl425.trans (hl437.trans hl441)))))))))).trans S445.le), ?_⟩
        refine T_nil ?_
        refine TT_step rfl ?_
        refine T_yes rfl rfl rfl ?_ rfl
        refine T_pev rfl rfl rfl rfl ?_
        refine T_nil ?_
        refine TT_step rfl ?_
        refine T_pev rfl rfl rfl rfl ?_
        refine T_nil ?_
        refine TT_step rfl ?_
        refine T_pev rfl rfl rfl rfl ?_
        refine T_nil ?_
        refine TT_step rfl ?_
        refine T_bool 62 true rfl (ndec_t text_more) ?_
        refine T_yes rfl rfl rfl ?_ rfl
        refine T_pev rfl rfl rfl rfl ?_
        refine T_nil ?_
        refine TT_step rfl ?_
        refine T_yes rfl rfl rfl ?_ rfl
        refine T_pev rfl rfl rfl rfl ?_
        refine T_nil ?_
        refine TT_step rfl ?_
        refine T_yes rfl rfl rfl ?_ rfl
        refine T_pev rfl rfl rfl rfl ?_
        refine T_nil ?_
        refine TT_step rfl ?_
        refine T_yes rfl rfl rfl ?_ rfl
        have rs450 : Rds G440 [.slice a5 (x.take 60).length c6, .slice a12 (y.take 60).length c13] [(x.take 60), (y.take 60)] := Rds.cons (Rd.canonB (hr8.mono (hl27.trans (hl41.trans (hl71.trans (hl76.trans (hl360.trans (hl366.trans (hl378.trans (hl390.trans (hl394.trans (hl407.trans (hl425.trans (hl437.trans hl441)))))))))))))) (Rds.cons (Rd.canonB (hr15.mono (hl27.trans (hl41.trans (hl71.trans (hl76.trans (hl360.trans (hl366.trans (hl378.trans (hl390.trans (hl394.trans (hl407.trans (hl425.trans (hl437.trans hl441)))))))))))))) (Rds.nil _))
        refine T_litS [.slice a5 (x.take 60).length c6, .slice a12 (y.take 60).length c13] rfl rfl rfl rfl rfl rfl rfl rfl rfl rfl rfl rfl rfl (by simp [Value.cells]; rfl) rfl fun a446 w447 hB448 ho449 => ?_
        have S451 := S445.own hB448 ho449
        refine ⟨(((hl76.trans (hl360.trans (hl366.trans (hl378.trans (hl390.trans (hl394.trans (hl407.trans (hl425.trans (hl437.trans hl441)))))))))).trans S451.le), ?_⟩
        refine T_nil ?_
        refine TT_step rfl ?_
        refine T_yes rfl rfl rfl ?_ rfl
        obtain ⟨G453, hl454, S452, r455⟩ := S451.stillRow 0 rfl
        have r456 := RdL.mk r455 (rs450.mono hl454)
        refine T_callS rfl rfl g_aumbry_sha_Text rfl rfl rfl rfl ((text_ok S452.le (hT.mono (hl27.trans (hl41.trans (hl71.trans (hl76.trans (hl360.trans (hl366.trans (hl378.trans (hl390.trans (hl394.trans (hl407.trans (hl425.trans (hl437.trans (hl441.trans hl454)))))))))))))) r456 (by omega)).mono ?_)
        rintro e w462 ⟨a457, c458, hc459, rfl, ho460, hB461⟩
        have S463 := S452.own hB461 ho460
        refine ⟨_, rfl, (((hl76.trans (hl360.trans (hl366.trans (hl378.trans (hl390.trans (hl394.trans (hl407.trans (hl425.trans (hl437.trans (hl441.trans hl454))))))))))).trans S463.le), ?_⟩
        refine T_nil ?_
        refine TT_step rfl ?_
        refine T_yes rfl rfl rfl ?_ rfl
        obtain ⟨G465, hl466, S464, r467⟩ := S463.stillRow 0 rfl
        refine T_callS rfl rfl g_aumbry_sha_Sum rfl rfl rfl rfl ((sumN_ok S464.le r467 (by omega)).mono ?_)
        rintro e w469 ⟨rfl, hB468⟩
        have S470 := S464.call hB468
        refine ⟨_, rfl, (((hl76.trans (hl360.trans (hl366.trans (hl378.trans (hl390.trans (hl394.trans (hl407.trans (hl425.trans (hl437.trans (hl441.trans (hl454.trans hl466)))))))))))).trans S470.le), ?_⟩
        refine T_nil ?_
        refine TT_step rfl ?_
        refine T_yes rfl rfl rfl ?_ rfl
        refine T_loadGAP _ (fun _ h => h) (still_cells r72) rfl rfl rfl rfl rfl rfl rfl rfl (hVs (Go.Au.tagged_len _ _)) ?_
        refine T_nil ?_
        refine TT_step rfl ?_
        refine T_yes rfl rfl rfl ?_ rfl
        refine T_eqB (xs := Go.Sha.sha (Go.Au.text tag ([(x.take 60), (y.take 60)]))) (ys := Go.Au.tagged tag ([(x.take 60), (y.take 60)])) rfl rfl rfl rfl rfl rfl rfl rfl rfl rfl rfl (Go.Sha.sha_len _) (Go.Au.tagged_len _ _) ?_
        refine T_nil ?_
        refine TT_step rfl ?_
        refine T_pev rfl rfl rfl rfl ?_
        refine T_nil ?_
        refine TT_step rfl ?_
        refine T_pev rfl rfl rfl rfl ?_
        refine T_nil ?_
        refine TT_step rfl ?_
        refine T_bool 72 true rfl (decide_eq_true rfl) ?_
        refine T_yes rfl rfl rfl ?_ rfl
        refine T_callS rfl rfl g_aumbry_aumbrylaw02_wakes rfl rfl rfl rfl ((wakesN_ok S470.le ).mono ?_)
        rintro e w472 ⟨rfl, hB471⟩
        have S473 := S470.call hB471
        refine ⟨_, rfl, (((hl76.trans (hl360.trans (hl366.trans (hl378.trans (hl390.trans (hl394.trans (hl407.trans (hl425.trans (hl437.trans (hl441.trans (hl454.trans hl466)))))))))))).trans S473.le), ?_⟩
        refine T_nil ?_
        refine TT_step rfl ?_
        refine T_pev rfl rfl rfl rfl ?_
        refine T_nil ?_
        refine TT_step rfl ?_
        refine T_pev rfl rfl rfl rfl ?_
        refine T_nil ?_
        refine TT_done ?_
        refine W_ret ?_
        refine ⟨_, ⟨_, _, rfl, rfl, rfl⟩, ?_⟩
        exact ⟨rfl, S473.below⟩
      refine T_yes rfl rfl rfl ?_ rfl
      have rs478 : Rds G393 [.slice a5 (x.take 60).length c6, .slice a12 (y.take 60).length c13, .slice none 0 0] [(x.take 60), (y.take 60), ([] : List UInt8)] := Rds.cons (Rd.canonB (hr8.mono (hl27.trans (hl41.trans (hl71.trans (hl76.trans (hl360.trans (hl366.trans (hl378.trans (hl390.trans hl394)))))))))) (Rds.cons (Rd.canonB (hr15.mono (hl27.trans (hl41.trans (hl71.trans (hl76.trans (hl360.trans (hl366.trans (hl378.trans (hl390.trans hl394)))))))))) (Rds.cons (Rd.canonB (Rd.nil _ _)) (Rds.nil _)))
      refine T_litS [.slice a5 (x.take 60).length c6, .slice a12 (y.take 60).length c13, .slice none 0 0] rfl rfl rfl rfl rfl rfl rfl rfl rfl rfl rfl rfl rfl (by simp [Value.cells]; rfl) rfl fun a474 w475 hB476 ho477 => ?_
      have S479 := S404.own hB476 ho477
      refine ⟨(((hl76.trans (hl360.trans (hl366.trans (hl378.trans (hl390.trans hl394)))))).trans S479.le), ?_⟩
      refine T_nil ?_
      refine TT_step rfl ?_
      refine T_yes rfl rfl rfl ?_ rfl
      obtain ⟨G481, hl482, S480, r483⟩ := S479.stillRow 1 rfl
      have r484 := RdL.mk r483 (rs403.mono hl482)
      refine T_callS rfl rfl g_aumbry_sha_Text rfl rfl rfl rfl ((text_ok S480.le (hT.mono (hl27.trans (hl41.trans (hl71.trans (hl76.trans (hl360.trans (hl366.trans (hl378.trans (hl390.trans (hl394.trans hl482)))))))))) r484 (by omega)).mono ?_)
      rintro e w490 ⟨a485, c486, hc487, rfl, ho488, hB489⟩
      have S491 := S480.own hB489 ho488
      refine ⟨_, rfl, (((hl76.trans (hl360.trans (hl366.trans (hl378.trans (hl390.trans (hl394.trans hl482))))))).trans S491.le), ?_⟩
      refine T_nil ?_
      refine TT_step rfl ?_
      refine T_yes rfl rfl rfl ?_ rfl
      obtain ⟨G493, hl494, S492, r495⟩ := S491.stillRow 1 rfl
      have r496 := RdL.mk r495 (rs478.mono (hl482.trans hl494))
      refine T_callS rfl rfl g_aumbry_sha_Text rfl rfl rfl rfl ((text_ok S492.le (hT.mono (hl27.trans (hl41.trans (hl71.trans (hl76.trans (hl360.trans (hl366.trans (hl378.trans (hl390.trans (hl394.trans (hl482.trans hl494))))))))))) r496 (by omega)).mono ?_)
      rintro e w502 ⟨a497, c498, hc499, rfl, ho500, hB501⟩
      have S503 := S492.own hB501 ho500
      refine ⟨_, rfl, (((hl76.trans (hl360.trans (hl366.trans (hl378.trans (hl390.trans (hl394.trans (hl482.trans hl494)))))))).trans S503.le), ?_⟩
      refine T_nil ?_
      refine TT_step rfl ?_
      refine T_yes rfl rfl rfl ?_ rfl
      obtain ⟨G505, hl506, S504, r507⟩ := S503.stillRow 1 rfl
      obtain ⟨G509, hl510, S508, r511⟩ := S504.stillRow 0 rfl
      refine T_callS rfl rfl g_aumbry_aumbrykeep_Same_byte rfl rfl rfl rfl ((sameB_ok S508.le (r507.mono hl510) r511 (by first | omega | (simp; done) | (simp only [List.length_take, List.length_drop]; omega))).mono ?_)
      rintro e w513 ⟨rfl, hB512⟩
      have S514 := S508.call hB512
      refine ⟨_, rfl, (((hl76.trans (hl360.trans (hl366.trans (hl378.trans (hl390.trans (hl394.trans (hl482.trans (hl494.trans (hl506.trans hl510)))))))))).trans S514.le), ?_⟩
      refine T_nil ?_
      refine TT_step rfl ?_
      refine T_yes rfl rfl rfl ?_ rfl
      refine T_pev rfl rfl rfl rfl ?_
      refine T_nil ?_
      refine TT_step rfl ?_
      refine T_pev rfl rfl rfl rfl ?_
      refine T_nil ?_
      refine TT_step rfl ?_
      refine T_pev rfl rfl rfl rfl ?_
      refine T_nil ?_
      refine TT_step rfl ?_
      refine T_bool 62 true rfl (ndec_t text_more) ?_
      refine T_yes rfl rfl rfl ?_ rfl
      refine T_pev rfl rfl rfl rfl ?_
      refine T_nil ?_
      refine TT_step rfl ?_
      refine T_yes rfl rfl rfl ?_ rfl
      refine T_pev rfl rfl rfl rfl ?_
      refine T_nil ?_
      refine TT_step rfl ?_
      refine T_yes rfl rfl rfl ?_ rfl
      refine T_pev rfl rfl rfl rfl ?_
      refine T_nil ?_
      refine TT_step rfl ?_
      refine T_yes rfl rfl rfl ?_ rfl
      have rs519 : Rds G509 [.slice a5 (x.take 60).length c6, .slice a12 (y.take 60).length c13] [(x.take 60), (y.take 60)] := Rds.cons (Rd.canonB (hr8.mono (hl27.trans (hl41.trans (hl71.trans (hl76.trans (hl360.trans (hl366.trans (hl378.trans (hl390.trans (hl394.trans (hl482.trans (hl494.trans (hl506.trans hl510)))))))))))))) (Rds.cons (Rd.canonB (hr15.mono (hl27.trans (hl41.trans (hl71.trans (hl76.trans (hl360.trans (hl366.trans (hl378.trans (hl390.trans (hl394.trans (hl482.trans (hl494.trans (hl506.trans hl510)))))))))))))) (Rds.nil _))
      refine T_litS [.slice a5 (x.take 60).length c6, .slice a12 (y.take 60).length c13] rfl rfl rfl rfl rfl rfl rfl rfl rfl rfl rfl rfl rfl (by simp [Value.cells]; rfl) rfl fun a515 w516 hB517 ho518 => ?_
      have S520 := S514.own hB517 ho518
      refine ⟨(((hl76.trans (hl360.trans (hl366.trans (hl378.trans (hl390.trans (hl394.trans (hl482.trans (hl494.trans (hl506.trans hl510)))))))))).trans S520.le), ?_⟩
      refine T_nil ?_
      refine TT_step rfl ?_
      refine T_yes rfl rfl rfl ?_ rfl
      obtain ⟨G522, hl523, S521, r524⟩ := S520.stillRow 0 rfl
      have r525 := RdL.mk r524 (rs519.mono hl523)
      refine T_callS rfl rfl g_aumbry_sha_Text rfl rfl rfl rfl ((text_ok S521.le (hT.mono (hl27.trans (hl41.trans (hl71.trans (hl76.trans (hl360.trans (hl366.trans (hl378.trans (hl390.trans (hl394.trans (hl482.trans (hl494.trans (hl506.trans (hl510.trans hl523)))))))))))))) r525 (by omega)).mono ?_)
      rintro e w531 ⟨a526, c527, hc528, rfl, ho529, hB530⟩
      have S532 := S521.own hB530 ho529
      refine ⟨_, rfl, (((hl76.trans (hl360.trans (hl366.trans (hl378.trans (hl390.trans (hl394.trans (hl482.trans (hl494.trans (hl506.trans (hl510.trans hl523))))))))))).trans S532.le), ?_⟩
      refine T_nil ?_
      refine TT_step rfl ?_
      refine T_yes rfl rfl rfl ?_ rfl
      obtain ⟨G534, hl535, S533, r536⟩ := S532.stillRow 0 rfl
      refine T_callS rfl rfl g_aumbry_sha_Sum rfl rfl rfl rfl ((sumN_ok S533.le r536 (by omega)).mono ?_)
      rintro e w538 ⟨rfl, hB537⟩
      have S539 := S533.call hB537
      refine ⟨_, rfl, (((hl76.trans (hl360.trans (hl366.trans (hl378.trans (hl390.trans (hl394.trans (hl482.trans (hl494.trans (hl506.trans (hl510.trans (hl523.trans hl535)))))))))))).trans S539.le), ?_⟩
      refine T_nil ?_
      refine TT_step rfl ?_
      refine T_yes rfl rfl rfl ?_ rfl
      refine T_loadGAP _ (fun _ h => h) (still_cells r72) rfl rfl rfl rfl rfl rfl rfl rfl (hVs (Go.Au.tagged_len _ _)) ?_
      refine T_nil ?_
      refine TT_step rfl ?_
      refine T_yes rfl rfl rfl ?_ rfl
      refine T_eqB (xs := Go.Sha.sha (Go.Au.text tag ([(x.take 60), (y.take 60)]))) (ys := Go.Au.tagged tag ([(x.take 60), (y.take 60)])) rfl rfl rfl rfl rfl rfl rfl rfl rfl rfl rfl (Go.Sha.sha_len _) (Go.Au.tagged_len _ _) ?_
      refine T_nil ?_
      refine TT_step rfl ?_
      refine T_pev rfl rfl rfl rfl ?_
      refine T_nil ?_
      refine TT_step rfl ?_
      refine T_pev rfl rfl rfl rfl ?_
      refine T_nil ?_
      refine TT_step rfl ?_
      refine T_bool 72 true rfl (decide_eq_true rfl) ?_
      refine T_yes rfl rfl rfl ?_ rfl
      refine T_callS rfl rfl g_aumbry_aumbrylaw02_wakes rfl rfl rfl rfl ((wakesN_ok S539.le ).mono ?_)
      rintro e w541 ⟨rfl, hB540⟩
      have S542 := S539.call hB540
      refine ⟨_, rfl, (((hl76.trans (hl360.trans (hl366.trans (hl378.trans (hl390.trans (hl394.trans (hl482.trans (hl494.trans (hl506.trans (hl510.trans (hl523.trans hl535)))))))))))).trans S542.le), ?_⟩
      refine T_nil ?_
      refine TT_step rfl ?_
      refine T_pev rfl rfl rfl rfl ?_
      refine T_nil ?_
      refine TT_step rfl ?_
      refine T_pev rfl rfl rfl rfl ?_
      refine T_nil ?_
      refine TT_done ?_
      refine W_ret ?_
      refine ⟨_, ⟨_, _, rfl, rfl, rfl⟩, ?_⟩
      exact ⟨rfl, S542.below⟩
    refine T_yes rfl rfl rfl ?_ rfl
    have rs547 : Rds G393 [.slice a5 (x.take 60).length c6, .slice a12 (y.take 60).length c13, .slice none 0 0] [(x.take 60), (y.take 60), ([] : List UInt8)] := Rds.cons (Rd.canonB (hr8.mono (hl27.trans (hl41.trans (hl71.trans (hl76.trans (hl360.trans (hl366.trans (hl378.trans (hl390.trans hl394)))))))))) (Rds.cons (Rd.canonB (hr15.mono (hl27.trans (hl41.trans (hl71.trans (hl76.trans (hl360.trans (hl366.trans (hl378.trans (hl390.trans hl394)))))))))) (Rds.cons (Rd.canonB (Rd.nil _ _)) (Rds.nil _)))
    refine T_litS [.slice a5 (x.take 60).length c6, .slice a12 (y.take 60).length c13, .slice none 0 0] rfl rfl rfl rfl rfl rfl rfl rfl rfl rfl rfl rfl rfl (by simp [Value.cells]; rfl) rfl fun a543 w544 hB545 ho546 => ?_
    have S548 := S398.own hB545 ho546
    refine ⟨(((hl76.trans (hl360.trans (hl366.trans (hl378.trans (hl390.trans hl394)))))).trans S548.le), ?_⟩
    refine T_nil ?_
    refine TT_step rfl ?_
    refine T_yes rfl rfl rfl ?_ rfl
    have rs553 : Rds G393 [.slice a5 (x.take 60).length c6, .slice a12 (y.take 60).length c13] [(x.take 60), (y.take 60)] := Rds.cons (Rd.canonB (hr8.mono (hl27.trans (hl41.trans (hl71.trans (hl76.trans (hl360.trans (hl366.trans (hl378.trans (hl390.trans hl394)))))))))) (Rds.cons (Rd.canonB (hr15.mono (hl27.trans (hl41.trans (hl71.trans (hl76.trans (hl360.trans (hl366.trans (hl378.trans (hl390.trans hl394)))))))))) (Rds.nil _))
    refine T_litS [.slice a5 (x.take 60).length c6, .slice a12 (y.take 60).length c13] rfl rfl rfl rfl rfl rfl rfl rfl rfl rfl rfl rfl rfl (by simp [Value.cells]; rfl) rfl fun a549 w550 hB551 ho552 => ?_
    have S554 := S548.own hB551 ho552
    refine ⟨(((hl76.trans (hl360.trans (hl366.trans (hl378.trans (hl390.trans hl394)))))).trans S554.le), ?_⟩
    refine T_nil ?_
    refine TT_step rfl ?_
    refine T_yes rfl rfl rfl ?_ rfl
    obtain ⟨G556, hl557, S555, r558⟩ := S554.stillRow 0 rfl
    have r559 := RdL.mk r558 (rs553.mono hl557)
    refine T_callS rfl rfl g_aumbry_sha_Text rfl rfl rfl rfl ((text_ok S555.le (hT.mono (hl27.trans (hl41.trans (hl71.trans (hl76.trans (hl360.trans (hl366.trans (hl378.trans (hl390.trans (hl394.trans hl557)))))))))) r559 (by omega)).mono ?_)
    rintro e w565 ⟨a560, c561, hc562, rfl, ho563, hB564⟩
    have S566 := S555.own hB564 ho563
    refine ⟨_, rfl, (((hl76.trans (hl360.trans (hl366.trans (hl378.trans (hl390.trans (hl394.trans hl557))))))).trans S566.le), ?_⟩
    refine T_nil ?_
    refine TT_step rfl ?_
    refine T_yes rfl rfl rfl ?_ rfl
    obtain ⟨G568, hl569, S567, r570⟩ := S566.stillRow 1 rfl
    have r571 := RdL.mk r570 (rs547.mono (hl557.trans hl569))
    refine T_callS rfl rfl g_aumbry_sha_Text rfl rfl rfl rfl ((text_ok S567.le (hT.mono (hl27.trans (hl41.trans (hl71.trans (hl76.trans (hl360.trans (hl366.trans (hl378.trans (hl390.trans (hl394.trans (hl557.trans hl569))))))))))) r571 (by omega)).mono ?_)
    rintro e w577 ⟨a572, c573, hc574, rfl, ho575, hB576⟩
    have S578 := S567.own hB576 ho575
    refine ⟨_, rfl, (((hl76.trans (hl360.trans (hl366.trans (hl378.trans (hl390.trans (hl394.trans (hl557.trans hl569)))))))).trans S578.le), ?_⟩
    refine T_nil ?_
    refine TT_step rfl ?_
    refine T_yes rfl rfl rfl ?_ rfl
    obtain ⟨G580, hl581, S579, r582⟩ := S578.stillRow 1 rfl
    obtain ⟨G584, hl585, S583, r586⟩ := S579.stillRow 0 rfl
    refine T_callS rfl rfl g_aumbry_aumbrykeep_Same_byte rfl rfl rfl rfl ((sameB_ok S583.le (r582.mono hl585) r586 (by first | omega | (simp; done) | (simp only [List.length_take, List.length_drop]; omega))).mono ?_)
    rintro e w588 ⟨rfl, hB587⟩
    have S589 := S583.call hB587
    refine ⟨_, rfl, (((hl76.trans (hl360.trans (hl366.trans (hl378.trans (hl390.trans (hl394.trans (hl557.trans (hl569.trans (hl581.trans hl585)))))))))).trans S589.le), ?_⟩
    refine T_nil ?_
    refine TT_step rfl ?_
    refine T_yes rfl rfl rfl ?_ rfl
    refine T_pev rfl rfl rfl rfl ?_
    refine T_nil ?_
    refine TT_step rfl ?_
    refine T_pev rfl rfl rfl rfl ?_
    refine T_nil ?_
    refine TT_step rfl ?_
    refine T_pev rfl rfl rfl rfl ?_
    refine T_nil ?_
    refine TT_step rfl ?_
    refine T_bool 62 true rfl (ndec_t text_more) ?_
    refine T_yes rfl rfl rfl ?_ rfl
    refine T_pev rfl rfl rfl rfl ?_
    refine T_nil ?_
    refine TT_step rfl ?_
    refine T_yes rfl rfl rfl ?_ rfl
    refine T_pev rfl rfl rfl rfl ?_
    refine T_nil ?_
    refine TT_step rfl ?_
    refine T_yes rfl rfl rfl ?_ rfl
    refine T_pev rfl rfl rfl rfl ?_
    refine T_nil ?_
    refine TT_step rfl ?_
    refine T_yes rfl rfl rfl ?_ rfl
    have rs594 : Rds G584 [.slice a5 (x.take 60).length c6, .slice a12 (y.take 60).length c13] [(x.take 60), (y.take 60)] := Rds.cons (Rd.canonB (hr8.mono (hl27.trans (hl41.trans (hl71.trans (hl76.trans (hl360.trans (hl366.trans (hl378.trans (hl390.trans (hl394.trans (hl557.trans (hl569.trans (hl581.trans hl585)))))))))))))) (Rds.cons (Rd.canonB (hr15.mono (hl27.trans (hl41.trans (hl71.trans (hl76.trans (hl360.trans (hl366.trans (hl378.trans (hl390.trans (hl394.trans (hl557.trans (hl569.trans (hl581.trans hl585)))))))))))))) (Rds.nil _))
    refine T_litS [.slice a5 (x.take 60).length c6, .slice a12 (y.take 60).length c13] rfl rfl rfl rfl rfl rfl rfl rfl rfl rfl rfl rfl rfl (by simp [Value.cells]; rfl) rfl fun a590 w591 hB592 ho593 => ?_
    have S595 := S589.own hB592 ho593
    refine ⟨(((hl76.trans (hl360.trans (hl366.trans (hl378.trans (hl390.trans (hl394.trans (hl557.trans (hl569.trans (hl581.trans hl585)))))))))).trans S595.le), ?_⟩
    refine T_nil ?_
    refine TT_step rfl ?_
    refine T_yes rfl rfl rfl ?_ rfl
    obtain ⟨G597, hl598, S596, r599⟩ := S595.stillRow 0 rfl
    have r600 := RdL.mk r599 (rs594.mono hl598)
    refine T_callS rfl rfl g_aumbry_sha_Text rfl rfl rfl rfl ((text_ok S596.le (hT.mono (hl27.trans (hl41.trans (hl71.trans (hl76.trans (hl360.trans (hl366.trans (hl378.trans (hl390.trans (hl394.trans (hl557.trans (hl569.trans (hl581.trans (hl585.trans hl598)))))))))))))) r600 (by omega)).mono ?_)
    rintro e w606 ⟨a601, c602, hc603, rfl, ho604, hB605⟩
    have S607 := S596.own hB605 ho604
    refine ⟨_, rfl, (((hl76.trans (hl360.trans (hl366.trans (hl378.trans (hl390.trans (hl394.trans (hl557.trans (hl569.trans (hl581.trans (hl585.trans hl598))))))))))).trans S607.le), ?_⟩
    refine T_nil ?_
    refine TT_step rfl ?_
    refine T_yes rfl rfl rfl ?_ rfl
    obtain ⟨G609, hl610, S608, r611⟩ := S607.stillRow 0 rfl
    refine T_callS rfl rfl g_aumbry_sha_Sum rfl rfl rfl rfl ((sumN_ok S608.le r611 (by omega)).mono ?_)
    rintro e w613 ⟨rfl, hB612⟩
    have S614 := S608.call hB612
    refine ⟨_, rfl, (((hl76.trans (hl360.trans (hl366.trans (hl378.trans (hl390.trans (hl394.trans (hl557.trans (hl569.trans (hl581.trans (hl585.trans (hl598.trans hl610)))))))))))).trans S614.le), ?_⟩
    refine T_nil ?_
    refine TT_step rfl ?_
    refine T_yes rfl rfl rfl ?_ rfl
    refine T_loadGAP _ (fun _ h => h) (still_cells r72) rfl rfl rfl rfl rfl rfl rfl rfl (hVs (Go.Au.tagged_len _ _)) ?_
    refine T_nil ?_
    refine TT_step rfl ?_
    refine T_yes rfl rfl rfl ?_ rfl
    refine T_eqB (xs := Go.Sha.sha (Go.Au.text tag ([(x.take 60), (y.take 60)]))) (ys := Go.Au.tagged tag ([(x.take 60), (y.take 60)])) rfl rfl rfl rfl rfl rfl rfl rfl rfl rfl rfl (Go.Sha.sha_len _) (Go.Au.tagged_len _ _) ?_
    refine T_nil ?_
    refine TT_step rfl ?_
    refine T_pev rfl rfl rfl rfl ?_
    refine T_nil ?_
    refine TT_step rfl ?_
    refine T_pev rfl rfl rfl rfl ?_
    refine T_nil ?_
    refine TT_step rfl ?_
    refine T_bool 72 true rfl (decide_eq_true rfl) ?_
    refine T_yes rfl rfl rfl ?_ rfl
    refine T_callS rfl rfl g_aumbry_aumbrylaw02_wakes rfl rfl rfl rfl ((wakesN_ok S614.le ).mono ?_)
    rintro e w616 ⟨rfl, hB615⟩
    have S617 := S614.call hB615
    refine ⟨_, rfl, (((hl76.trans (hl360.trans (hl366.trans (hl378.trans (hl390.trans (hl394.trans (hl557.trans (hl569.trans (hl581.trans (hl585.trans (hl598.trans hl610)))))))))))).trans S617.le), ?_⟩
    refine T_nil ?_
    refine TT_step rfl ?_
    refine T_pev rfl rfl rfl rfl ?_
    refine T_nil ?_
    refine TT_step rfl ?_
    refine T_pev rfl rfl rfl rfl ?_
    refine T_nil ?_
    refine TT_done ?_
    refine W_ret ?_
    refine ⟨_, ⟨_, _, rfl, rfl, rfl⟩, ?_⟩
    exact ⟨rfl, S617.below⟩
  refine T_yes rfl rfl rfl ?_ rfl
  obtain ⟨G623, hl624, S622, r625⟩ := S83.stillRow 0 rfl
  have rs626 : Rds G623 [.slice a64 (((x.take 60) ++ (y.take 60)).length) c65] [((x.take 60) ++ (y.take 60))] := Rds.cons (Rd.canonB r625) (Rds.nil _)
  refine T_litS [.slice a64 (((x.take 60) ++ (y.take 60)).length) c65] rfl rfl rfl rfl rfl rfl rfl rfl rfl rfl rfl rfl rfl (by simp [Value.cells]; rfl) rfl fun a618 w619 hB620 ho621 => ?_
  have S627 := S622.own hB620 ho621
  refine ⟨(((hl76.trans hl624)).trans S627.le), ?_⟩
  refine T_nil ?_
  refine TT_step rfl ?_
  refine T_yes rfl rfl rfl ?_ rfl
  have rs632 : Rds G623 [.slice a5 (x.take 60).length c6, .slice a12 (y.take 60).length c13] [(x.take 60), (y.take 60)] := Rds.cons (Rd.canonB (hr8.mono (hl27.trans (hl41.trans (hl71.trans (hl76.trans hl624)))))) (Rds.cons (Rd.canonB (hr15.mono (hl27.trans (hl41.trans (hl71.trans (hl76.trans hl624)))))) (Rds.nil _))
  refine T_litS [.slice a5 (x.take 60).length c6, .slice a12 (y.take 60).length c13] rfl rfl rfl rfl rfl rfl rfl rfl rfl rfl rfl rfl rfl (by simp [Value.cells]; rfl) rfl fun a628 w629 hB630 ho631 => ?_
  have S633 := S627.own hB630 ho631
  refine ⟨(((hl76.trans hl624)).trans S633.le), ?_⟩
  refine T_nil ?_
  refine TT_step rfl ?_
  refine T_yes rfl rfl rfl ?_ rfl
  obtain ⟨G635, hl636, S634, r637⟩ := S633.stillRow 0 rfl
  have r638 := RdL.mk r637 (rs632.mono hl636)
  refine T_callS rfl rfl g_aumbry_sha_Text rfl rfl rfl rfl ((text_ok S634.le (hT.mono (hl27.trans (hl41.trans (hl71.trans (hl76.trans (hl624.trans hl636)))))) r638 (by omega)).mono ?_)
  rintro e w644 ⟨a639, c640, hc641, rfl, ho642, hB643⟩
  have S645 := S634.own hB643 ho642
  refine ⟨_, rfl, (((hl76.trans (hl624.trans hl636))).trans S645.le), ?_⟩
  refine T_nil ?_
  refine TT_step rfl ?_
  refine T_yes rfl rfl rfl ?_ rfl
  obtain ⟨G647, hl648, S646, r649⟩ := S645.stillRow 1 rfl
  have r650 := RdL.mk r649 (rs626.mono (hl636.trans hl648))
  refine T_callS rfl rfl g_aumbry_sha_Text rfl rfl rfl rfl ((text_ok S646.le (hT.mono (hl27.trans (hl41.trans (hl71.trans (hl76.trans (hl624.trans (hl636.trans hl648))))))) r650 (by omega)).mono ?_)
  rintro e w656 ⟨a651, c652, hc653, rfl, ho654, hB655⟩
  have S657 := S646.own hB655 ho654
  refine ⟨_, rfl, (((hl76.trans (hl624.trans (hl636.trans hl648)))).trans S657.le), ?_⟩
  refine T_nil ?_
  refine TT_step rfl ?_
  refine T_yes rfl rfl rfl ?_ rfl
  obtain ⟨G659, hl660, S658, r661⟩ := S657.stillRow 1 rfl
  obtain ⟨G663, hl664, S662, r665⟩ := S658.stillRow 0 rfl
  refine T_callS rfl rfl g_aumbry_aumbrykeep_Same_byte rfl rfl rfl rfl ((sameB_ok S662.le (r661.mono hl664) r665 (by first | omega | (simp; done) | (simp only [List.length_take, List.length_drop]; omega))).mono ?_)
  rintro e w667 ⟨rfl, hB666⟩
  have S668 := S662.call hB666
  refine ⟨_, rfl, (((hl76.trans (hl624.trans (hl636.trans (hl648.trans (hl660.trans hl664)))))).trans S668.le), ?_⟩
  refine T_nil ?_
  refine TT_step rfl ?_
  refine T_yes rfl rfl rfl ?_ rfl
  refine T_pev rfl rfl rfl rfl ?_
  refine T_nil ?_
  refine TT_step rfl ?_
  refine T_pev rfl rfl rfl rfl ?_
  refine T_nil ?_
  refine TT_step rfl ?_
  refine T_pev rfl rfl rfl rfl ?_
  refine T_nil ?_
  refine TT_step rfl ?_
  refine T_bool 48 true rfl (ndec_t (text_far (by omega) (by omega))) ?_
  refine T_yes rfl rfl rfl ?_ rfl
  refine T_pev rfl rfl rfl rfl ?_
  refine T_nil ?_
  refine TT_step rfl ?_
  refine T_yes rfl rfl rfl ?_ rfl
  refine T_pev rfl rfl rfl rfl ?_
  refine T_nil ?_
  refine TT_step rfl ?_
  refine T_yes rfl rfl rfl ?_ rfl
  refine T_pev rfl rfl rfl rfl ?_
  refine T_nil ?_
  refine TT_step rfl ?_
  refine T_yes rfl rfl rfl ?_ rfl
  refine T_pev rfl rfl rfl rfl ?_
  refine T_nil ?_
  refine TT_step rfl ?_
  refine T_yes rfl rfl rfl ?_ rfl
  refine T_pev rfl rfl rfl rfl ?_
  refine T_nil ?_
  refine TT_step rfl ?_
  refine T_yes rfl rfl rfl ?_ rfl
  refine T_pev rfl rfl rfl rfl ?_
  refine T_nil ?_
  refine TT_fork rfl rfl ?_ ?_
  · refine T_yes rfl rfl rfl ?_ rfl
    have rs673 : Rds G663 [.slice a5 (x.take 60).length c6, .slice a12 (y.take 60).length c13] [(x.take 60), (y.take 60)] := Rds.cons (Rd.canonB (hr8.mono (hl27.trans (hl41.trans (hl71.trans (hl76.trans (hl624.trans (hl636.trans (hl648.trans (hl660.trans hl664)))))))))) (Rds.cons (Rd.canonB (hr15.mono (hl27.trans (hl41.trans (hl71.trans (hl76.trans (hl624.trans (hl636.trans (hl648.trans (hl660.trans hl664)))))))))) (Rds.nil _))
    refine T_litS [.slice a5 (x.take 60).length c6, .slice a12 (y.take 60).length c13] rfl rfl rfl rfl rfl rfl rfl rfl rfl rfl rfl rfl rfl (by simp [Value.cells]; rfl) rfl fun a669 w670 hB671 ho672 => ?_
    have S674 := S668.own hB671 ho672
    refine ⟨(((hl76.trans (hl624.trans (hl636.trans (hl648.trans (hl660.trans hl664)))))).trans S674.le), ?_⟩
    refine T_nil ?_
    refine TT_fork rfl rfl ?_ ?_
    · refine T_yes rfl rfl rfl ?_ rfl
      obtain ⟨G676, hl677, S675, r678⟩ := S674.stillRow 0 rfl
      have r679 := RdL.mk r678 (rs673.mono hl677)
      refine T_callS rfl rfl g_aumbry_sha_Text rfl rfl rfl rfl ((text_ok S675.le (hT.mono (hl27.trans (hl41.trans (hl71.trans (hl76.trans (hl624.trans (hl636.trans (hl648.trans (hl660.trans (hl664.trans hl677)))))))))) r679 (by omega)).mono ?_)
      rintro e w685 ⟨a680, c681, hc682, rfl, ho683, hB684⟩
      have S686 := S675.own hB684 ho683
      refine ⟨_, rfl, (((hl76.trans (hl624.trans (hl636.trans (hl648.trans (hl660.trans (hl664.trans hl677))))))).trans S686.le), ?_⟩
      refine T_nil ?_
      refine TT_step rfl ?_
      refine T_yes rfl rfl rfl ?_ rfl
      have rs691 : Rds G676 [.slice a5 (x.take 60).length c6, .slice a12 (y.take 60).length c13, .slice none 0 0] [(x.take 60), (y.take 60), ([] : List UInt8)] := Rds.cons (Rd.canonB (hr8.mono (hl27.trans (hl41.trans (hl71.trans (hl76.trans (hl624.trans (hl636.trans (hl648.trans (hl660.trans (hl664.trans hl677))))))))))) (Rds.cons (Rd.canonB (hr15.mono (hl27.trans (hl41.trans (hl71.trans (hl76.trans (hl624.trans (hl636.trans (hl648.trans (hl660.trans (hl664.trans hl677))))))))))) (Rds.cons (Rd.canonB (Rd.nil _ _)) (Rds.nil _)))
      refine T_litS [.slice a5 (x.take 60).length c6, .slice a12 (y.take 60).length c13, .slice none 0 0] rfl rfl rfl rfl rfl rfl rfl rfl rfl rfl rfl rfl rfl (by simp [Value.cells]; rfl) rfl fun a687 w688 hB689 ho690 => ?_
      have S692 := S686.own hB689 ho690
      refine ⟨(((hl76.trans (hl624.trans (hl636.trans (hl648.trans (hl660.trans (hl664.trans hl677))))))).trans S692.le), ?_⟩
      refine T_nil ?_
      refine TT_step rfl ?_
      refine T_yes rfl rfl rfl ?_ rfl
      obtain ⟨G694, hl695, S693, r696⟩ := S692.stillRow 0 rfl
      have r697 := RdL.mk r696 (rs691.mono hl695)
      refine T_callS rfl rfl g_aumbry_sha_Text rfl rfl rfl rfl ((text_ok S693.le (hT.mono (hl27.trans (hl41.trans (hl71.trans (hl76.trans (hl624.trans (hl636.trans (hl648.trans (hl660.trans (hl664.trans (hl677.trans hl695))))))))))) r697 (by omega)).mono ?_)
      rintro e w703 ⟨a698, c699, hc700, rfl, ho701, hB702⟩
      have S704 := S693.own hB702 ho701
      refine ⟨_, rfl, (((hl76.trans (hl624.trans (hl636.trans (hl648.trans (hl660.trans (hl664.trans (hl677.trans hl695)))))))).trans S704.le), ?_⟩
      refine T_nil ?_
      refine TT_step rfl ?_
      refine T_yes rfl rfl rfl ?_ rfl
      obtain ⟨G706, hl707, S705, r708⟩ := S704.stillRow 1 rfl
      obtain ⟨G710, hl711, S709, r712⟩ := S705.stillRow 0 rfl
      refine T_callS rfl rfl g_aumbry_aumbrykeep_Same_byte rfl rfl rfl rfl ((sameB_ok S709.le (r708.mono hl711) r712 (by first | omega | (simp; done) | (simp only [List.length_take, List.length_drop]; omega))).mono ?_)
      rintro e w714 ⟨rfl, hB713⟩
      have S715 := S709.call hB713
      refine ⟨_, rfl, (((hl76.trans (hl624.trans (hl636.trans (hl648.trans (hl660.trans (hl664.trans (hl677.trans (hl695.trans (hl707.trans hl711)))))))))).trans S715.le), ?_⟩
      refine T_nil ?_
      refine TT_step rfl ?_
      refine T_yes rfl rfl rfl ?_ rfl
      refine T_pev rfl rfl rfl rfl ?_
      refine T_nil ?_
      refine TT_step rfl ?_
      refine T_pev rfl rfl rfl rfl ?_
      refine T_nil ?_
      refine TT_step rfl ?_
      refine T_pev rfl rfl rfl rfl ?_
      refine T_nil ?_
      refine TT_step rfl ?_
      refine T_bool 62 true rfl (ndec_t text_more) ?_
      refine T_yes rfl rfl rfl ?_ rfl
      refine T_pev rfl rfl rfl rfl ?_
      refine T_nil ?_
      refine TT_step rfl ?_
      refine T_yes rfl rfl rfl ?_ rfl
      refine T_pev rfl rfl rfl rfl ?_
      refine T_nil ?_
      refine TT_step rfl ?_
      refine T_yes rfl rfl rfl ?_ rfl
      refine T_pev rfl rfl rfl rfl ?_
      refine T_nil ?_
      refine TT_step rfl ?_
      refine T_yes rfl rfl rfl ?_ rfl
      have rs720 : Rds G710 [.slice a5 (x.take 60).length c6, .slice a12 (y.take 60).length c13] [(x.take 60), (y.take 60)] := Rds.cons (Rd.canonB (hr8.mono (hl27.trans (hl41.trans (hl71.trans (hl76.trans (hl624.trans (hl636.trans (hl648.trans (hl660.trans (hl664.trans (hl677.trans (hl695.trans (hl707.trans hl711)))))))))))))) (Rds.cons (Rd.canonB (hr15.mono (hl27.trans (hl41.trans (hl71.trans (hl76.trans (hl624.trans (hl636.trans (hl648.trans (hl660.trans (hl664.trans (hl677.trans (hl695.trans (hl707.trans hl711)))))))))))))) (Rds.nil _))
      refine T_litS [.slice a5 (x.take 60).length c6, .slice a12 (y.take 60).length c13] rfl rfl rfl rfl rfl rfl rfl rfl rfl rfl rfl rfl rfl (by simp [Value.cells]; rfl) rfl fun a716 w717 hB718 ho719 => ?_
      have S721 := S715.own hB718 ho719
      refine ⟨(((hl76.trans (hl624.trans (hl636.trans (hl648.trans (hl660.trans (hl664.trans (hl677.trans (hl695.trans (hl707.trans hl711)))))))))).trans S721.le), ?_⟩
      refine T_nil ?_
      refine TT_step rfl ?_
      refine T_yes rfl rfl rfl ?_ rfl
      obtain ⟨G723, hl724, S722, r725⟩ := S721.stillRow 0 rfl
      have r726 := RdL.mk r725 (rs720.mono hl724)
      refine T_callS rfl rfl g_aumbry_sha_Text rfl rfl rfl rfl ((text_ok S722.le (hT.mono (hl27.trans (hl41.trans (hl71.trans (hl76.trans (hl624.trans (hl636.trans (hl648.trans (hl660.trans (hl664.trans (hl677.trans (hl695.trans (hl707.trans (hl711.trans hl724)))))))))))))) r726 (by omega)).mono ?_)
      rintro e w732 ⟨a727, c728, hc729, rfl, ho730, hB731⟩
      have S733 := S722.own hB731 ho730
      refine ⟨_, rfl, (((hl76.trans (hl624.trans (hl636.trans (hl648.trans (hl660.trans (hl664.trans (hl677.trans (hl695.trans (hl707.trans (hl711.trans hl724))))))))))).trans S733.le), ?_⟩
      refine T_nil ?_
      refine TT_step rfl ?_
      refine T_yes rfl rfl rfl ?_ rfl
      obtain ⟨G735, hl736, S734, r737⟩ := S733.stillRow 0 rfl
      refine T_callS rfl rfl g_aumbry_sha_Sum rfl rfl rfl rfl ((sumN_ok S734.le r737 (by omega)).mono ?_)
      rintro e w739 ⟨rfl, hB738⟩
      have S740 := S734.call hB738
      refine ⟨_, rfl, (((hl76.trans (hl624.trans (hl636.trans (hl648.trans (hl660.trans (hl664.trans (hl677.trans (hl695.trans (hl707.trans (hl711.trans (hl724.trans hl736)))))))))))).trans S740.le), ?_⟩
      refine T_nil ?_
      refine TT_step rfl ?_
      refine T_yes rfl rfl rfl ?_ rfl
      refine T_loadGAP _ (fun _ h => h) (still_cells r72) rfl rfl rfl rfl rfl rfl rfl rfl (hVs (Go.Au.tagged_len _ _)) ?_
      refine T_nil ?_
      refine TT_step rfl ?_
      refine T_yes rfl rfl rfl ?_ rfl
      refine T_eqB (xs := Go.Sha.sha (Go.Au.text tag ([(x.take 60), (y.take 60)]))) (ys := Go.Au.tagged tag ([(x.take 60), (y.take 60)])) rfl rfl rfl rfl rfl rfl rfl rfl rfl rfl rfl (Go.Sha.sha_len _) (Go.Au.tagged_len _ _) ?_
      refine T_nil ?_
      refine TT_step rfl ?_
      refine T_pev rfl rfl rfl rfl ?_
      refine T_nil ?_
      refine TT_step rfl ?_
      refine T_pev rfl rfl rfl rfl ?_
      refine T_nil ?_
      refine TT_step rfl ?_
      refine T_bool 72 true rfl (decide_eq_true rfl) ?_
      refine T_yes rfl rfl rfl ?_ rfl
      refine T_callS rfl rfl g_aumbry_aumbrylaw02_wakes rfl rfl rfl rfl ((wakesN_ok S740.le ).mono ?_)
      rintro e w742 ⟨rfl, hB741⟩
      have S743 := S740.call hB741
      refine ⟨_, rfl, (((hl76.trans (hl624.trans (hl636.trans (hl648.trans (hl660.trans (hl664.trans (hl677.trans (hl695.trans (hl707.trans (hl711.trans (hl724.trans hl736)))))))))))).trans S743.le), ?_⟩
      refine T_nil ?_
      refine TT_step rfl ?_
      refine T_pev rfl rfl rfl rfl ?_
      refine T_nil ?_
      refine TT_step rfl ?_
      refine T_pev rfl rfl rfl rfl ?_
      refine T_nil ?_
      refine TT_done ?_
      refine W_ret ?_
      refine ⟨_, ⟨_, _, rfl, rfl, rfl⟩, ?_⟩
      exact ⟨rfl, S743.below⟩
    refine T_yes rfl rfl rfl ?_ rfl
    have rs748 : Rds G663 [.slice a5 (x.take 60).length c6, .slice a12 (y.take 60).length c13, .slice none 0 0] [(x.take 60), (y.take 60), ([] : List UInt8)] := Rds.cons (Rd.canonB (hr8.mono (hl27.trans (hl41.trans (hl71.trans (hl76.trans (hl624.trans (hl636.trans (hl648.trans (hl660.trans hl664)))))))))) (Rds.cons (Rd.canonB (hr15.mono (hl27.trans (hl41.trans (hl71.trans (hl76.trans (hl624.trans (hl636.trans (hl648.trans (hl660.trans hl664)))))))))) (Rds.cons (Rd.canonB (Rd.nil _ _)) (Rds.nil _)))
    refine T_litS [.slice a5 (x.take 60).length c6, .slice a12 (y.take 60).length c13, .slice none 0 0] rfl rfl rfl rfl rfl rfl rfl rfl rfl rfl rfl rfl rfl (by simp [Value.cells]; rfl) rfl fun a744 w745 hB746 ho747 => ?_
    have S749 := S674.own hB746 ho747
    refine ⟨(((hl76.trans (hl624.trans (hl636.trans (hl648.trans (hl660.trans hl664)))))).trans S749.le), ?_⟩
    refine T_nil ?_
    refine TT_step rfl ?_
    refine T_yes rfl rfl rfl ?_ rfl
    obtain ⟨G751, hl752, S750, r753⟩ := S749.stillRow 1 rfl
    have r754 := RdL.mk r753 (rs673.mono hl752)
    refine T_callS rfl rfl g_aumbry_sha_Text rfl rfl rfl rfl ((text_ok S750.le (hT.mono (hl27.trans (hl41.trans (hl71.trans (hl76.trans (hl624.trans (hl636.trans (hl648.trans (hl660.trans (hl664.trans hl752)))))))))) r754 (by omega)).mono ?_)
    rintro e w760 ⟨a755, c756, hc757, rfl, ho758, hB759⟩
    have S761 := S750.own hB759 ho758
    refine ⟨_, rfl, (((hl76.trans (hl624.trans (hl636.trans (hl648.trans (hl660.trans (hl664.trans hl752))))))).trans S761.le), ?_⟩
    refine T_nil ?_
    refine TT_step rfl ?_
    refine T_yes rfl rfl rfl ?_ rfl
    obtain ⟨G763, hl764, S762, r765⟩ := S761.stillRow 1 rfl
    have r766 := RdL.mk r765 (rs748.mono (hl752.trans hl764))
    refine T_callS rfl rfl g_aumbry_sha_Text rfl rfl rfl rfl ((text_ok S762.le (hT.mono (hl27.trans (hl41.trans (hl71.trans (hl76.trans (hl624.trans (hl636.trans (hl648.trans (hl660.trans (hl664.trans (hl752.trans hl764))))))))))) r766 (by omega)).mono ?_)
    rintro e w772 ⟨a767, c768, hc769, rfl, ho770, hB771⟩
    have S773 := S762.own hB771 ho770
    refine ⟨_, rfl, (((hl76.trans (hl624.trans (hl636.trans (hl648.trans (hl660.trans (hl664.trans (hl752.trans hl764)))))))).trans S773.le), ?_⟩
    refine T_nil ?_
    refine TT_step rfl ?_
    refine T_yes rfl rfl rfl ?_ rfl
    obtain ⟨G775, hl776, S774, r777⟩ := S773.stillRow 1 rfl
    obtain ⟨G779, hl780, S778, r781⟩ := S774.stillRow 0 rfl
    refine T_callS rfl rfl g_aumbry_aumbrykeep_Same_byte rfl rfl rfl rfl ((sameB_ok S778.le (r777.mono hl780) r781 (by first | omega | (simp; done) | (simp only [List.length_take, List.length_drop]; omega))).mono ?_)
    rintro e w783 ⟨rfl, hB782⟩
    have S784 := S778.call hB782
    refine ⟨_, rfl, (((hl76.trans (hl624.trans (hl636.trans (hl648.trans (hl660.trans (hl664.trans (hl752.trans (hl764.trans (hl776.trans hl780)))))))))).trans S784.le), ?_⟩
    refine T_nil ?_
    refine TT_step rfl ?_
    refine T_yes rfl rfl rfl ?_ rfl
    refine T_pev rfl rfl rfl rfl ?_
    refine T_nil ?_
    refine TT_step rfl ?_
    refine T_pev rfl rfl rfl rfl ?_
    refine T_nil ?_
    refine TT_step rfl ?_
    refine T_pev rfl rfl rfl rfl ?_
    refine T_nil ?_
    refine TT_step rfl ?_
    refine T_bool 62 true rfl (ndec_t text_more) ?_
    refine T_yes rfl rfl rfl ?_ rfl
    refine T_pev rfl rfl rfl rfl ?_
    refine T_nil ?_
    refine TT_step rfl ?_
    refine T_yes rfl rfl rfl ?_ rfl
    refine T_pev rfl rfl rfl rfl ?_
    refine T_nil ?_
    refine TT_step rfl ?_
    refine T_yes rfl rfl rfl ?_ rfl
    refine T_pev rfl rfl rfl rfl ?_
    refine T_nil ?_
    refine TT_step rfl ?_
    refine T_yes rfl rfl rfl ?_ rfl
    have rs789 : Rds G779 [.slice a5 (x.take 60).length c6, .slice a12 (y.take 60).length c13] [(x.take 60), (y.take 60)] := Rds.cons (Rd.canonB (hr8.mono (hl27.trans (hl41.trans (hl71.trans (hl76.trans (hl624.trans (hl636.trans (hl648.trans (hl660.trans (hl664.trans (hl752.trans (hl764.trans (hl776.trans hl780)))))))))))))) (Rds.cons (Rd.canonB (hr15.mono (hl27.trans (hl41.trans (hl71.trans (hl76.trans (hl624.trans (hl636.trans (hl648.trans (hl660.trans (hl664.trans (hl752.trans (hl764.trans (hl776.trans hl780)))))))))))))) (Rds.nil _))
    refine T_litS [.slice a5 (x.take 60).length c6, .slice a12 (y.take 60).length c13] rfl rfl rfl rfl rfl rfl rfl rfl rfl rfl rfl rfl rfl (by simp [Value.cells]; rfl) rfl fun a785 w786 hB787 ho788 => ?_
    have S790 := S784.own hB787 ho788
    refine ⟨(((hl76.trans (hl624.trans (hl636.trans (hl648.trans (hl660.trans (hl664.trans (hl752.trans (hl764.trans (hl776.trans hl780)))))))))).trans S790.le), ?_⟩
    refine T_nil ?_
    refine TT_step rfl ?_
    refine T_yes rfl rfl rfl ?_ rfl
    obtain ⟨G792, hl793, S791, r794⟩ := S790.stillRow 0 rfl
    have r795 := RdL.mk r794 (rs789.mono hl793)
    refine T_callS rfl rfl g_aumbry_sha_Text rfl rfl rfl rfl ((text_ok S791.le (hT.mono (hl27.trans (hl41.trans (hl71.trans (hl76.trans (hl624.trans (hl636.trans (hl648.trans (hl660.trans (hl664.trans (hl752.trans (hl764.trans (hl776.trans (hl780.trans hl793)))))))))))))) r795 (by omega)).mono ?_)
    rintro e w801 ⟨a796, c797, hc798, rfl, ho799, hB800⟩
    have S802 := S791.own hB800 ho799
    refine ⟨_, rfl, (((hl76.trans (hl624.trans (hl636.trans (hl648.trans (hl660.trans (hl664.trans (hl752.trans (hl764.trans (hl776.trans (hl780.trans hl793))))))))))).trans S802.le), ?_⟩
    refine T_nil ?_
    refine TT_step rfl ?_
    refine T_yes rfl rfl rfl ?_ rfl
    obtain ⟨G804, hl805, S803, r806⟩ := S802.stillRow 0 rfl
    refine T_callS rfl rfl g_aumbry_sha_Sum rfl rfl rfl rfl ((sumN_ok S803.le r806 (by omega)).mono ?_)
    rintro e w808 ⟨rfl, hB807⟩
    have S809 := S803.call hB807
    refine ⟨_, rfl, (((hl76.trans (hl624.trans (hl636.trans (hl648.trans (hl660.trans (hl664.trans (hl752.trans (hl764.trans (hl776.trans (hl780.trans (hl793.trans hl805)))))))))))).trans S809.le), ?_⟩
    refine T_nil ?_
    refine TT_step rfl ?_
    refine T_yes rfl rfl rfl ?_ rfl
    refine T_loadGAP _ (fun _ h => h) (still_cells r72) rfl rfl rfl rfl rfl rfl rfl rfl (hVs (Go.Au.tagged_len _ _)) ?_
    refine T_nil ?_
    refine TT_step rfl ?_
    refine T_yes rfl rfl rfl ?_ rfl
    refine T_eqB (xs := Go.Sha.sha (Go.Au.text tag ([(x.take 60), (y.take 60)]))) (ys := Go.Au.tagged tag ([(x.take 60), (y.take 60)])) rfl rfl rfl rfl rfl rfl rfl rfl rfl rfl rfl (Go.Sha.sha_len _) (Go.Au.tagged_len _ _) ?_
    refine T_nil ?_
    refine TT_step rfl ?_
    refine T_pev rfl rfl rfl rfl ?_
    refine T_nil ?_
    refine TT_step rfl ?_
    refine T_pev rfl rfl rfl rfl ?_
    refine T_nil ?_
    refine TT_step rfl ?_
    refine T_bool 72 true rfl (decide_eq_true rfl) ?_
    refine T_yes rfl rfl rfl ?_ rfl
    refine T_callS rfl rfl g_aumbry_aumbrylaw02_wakes rfl rfl rfl rfl ((wakesN_ok S809.le ).mono ?_)
    rintro e w811 ⟨rfl, hB810⟩
    have S812 := S809.call hB810
    refine ⟨_, rfl, (((hl76.trans (hl624.trans (hl636.trans (hl648.trans (hl660.trans (hl664.trans (hl752.trans (hl764.trans (hl776.trans (hl780.trans (hl793.trans hl805)))))))))))).trans S812.le), ?_⟩
    refine T_nil ?_
    refine TT_step rfl ?_
    refine T_pev rfl rfl rfl rfl ?_
    refine T_nil ?_
    refine TT_step rfl ?_
    refine T_pev rfl rfl rfl rfl ?_
    refine T_nil ?_
    refine TT_done ?_
    refine W_ret ?_
    refine ⟨_, ⟨_, _, rfl, rfl, rfl⟩, ?_⟩
    exact ⟨rfl, S812.below⟩
  refine T_yes rfl rfl rfl ?_ rfl
  have rs817 : Rds G663 [.slice a5 (x.take 60).length c6, .slice a12 (y.take 60).length c13, .slice none 0 0] [(x.take 60), (y.take 60), ([] : List UInt8)] := Rds.cons (Rd.canonB (hr8.mono (hl27.trans (hl41.trans (hl71.trans (hl76.trans (hl624.trans (hl636.trans (hl648.trans (hl660.trans hl664)))))))))) (Rds.cons (Rd.canonB (hr15.mono (hl27.trans (hl41.trans (hl71.trans (hl76.trans (hl624.trans (hl636.trans (hl648.trans (hl660.trans hl664)))))))))) (Rds.cons (Rd.canonB (Rd.nil _ _)) (Rds.nil _)))
  refine T_litS [.slice a5 (x.take 60).length c6, .slice a12 (y.take 60).length c13, .slice none 0 0] rfl rfl rfl rfl rfl rfl rfl rfl rfl rfl rfl rfl rfl (by simp [Value.cells]; rfl) rfl fun a813 w814 hB815 ho816 => ?_
  have S818 := S668.own hB815 ho816
  refine ⟨(((hl76.trans (hl624.trans (hl636.trans (hl648.trans (hl660.trans hl664)))))).trans S818.le), ?_⟩
  refine T_nil ?_
  refine TT_step rfl ?_
  refine T_yes rfl rfl rfl ?_ rfl
  have rs823 : Rds G663 [.slice a5 (x.take 60).length c6, .slice a12 (y.take 60).length c13] [(x.take 60), (y.take 60)] := Rds.cons (Rd.canonB (hr8.mono (hl27.trans (hl41.trans (hl71.trans (hl76.trans (hl624.trans (hl636.trans (hl648.trans (hl660.trans hl664)))))))))) (Rds.cons (Rd.canonB (hr15.mono (hl27.trans (hl41.trans (hl71.trans (hl76.trans (hl624.trans (hl636.trans (hl648.trans (hl660.trans hl664)))))))))) (Rds.nil _))
  refine T_litS [.slice a5 (x.take 60).length c6, .slice a12 (y.take 60).length c13] rfl rfl rfl rfl rfl rfl rfl rfl rfl rfl rfl rfl rfl (by simp [Value.cells]; rfl) rfl fun a819 w820 hB821 ho822 => ?_
  have S824 := S818.own hB821 ho822
  refine ⟨(((hl76.trans (hl624.trans (hl636.trans (hl648.trans (hl660.trans hl664)))))).trans S824.le), ?_⟩
  refine T_nil ?_
  refine TT_step rfl ?_
  refine T_yes rfl rfl rfl ?_ rfl
  obtain ⟨G826, hl827, S825, r828⟩ := S824.stillRow 0 rfl
  have r829 := RdL.mk r828 (rs823.mono hl827)
  refine T_callS rfl rfl g_aumbry_sha_Text rfl rfl rfl rfl ((text_ok S825.le (hT.mono (hl27.trans (hl41.trans (hl71.trans (hl76.trans (hl624.trans (hl636.trans (hl648.trans (hl660.trans (hl664.trans hl827)))))))))) r829 (by omega)).mono ?_)
  rintro e w835 ⟨a830, c831, hc832, rfl, ho833, hB834⟩
  have S836 := S825.own hB834 ho833
  refine ⟨_, rfl, (((hl76.trans (hl624.trans (hl636.trans (hl648.trans (hl660.trans (hl664.trans hl827))))))).trans S836.le), ?_⟩
  refine T_nil ?_
  refine TT_step rfl ?_
  refine T_yes rfl rfl rfl ?_ rfl
  obtain ⟨G838, hl839, S837, r840⟩ := S836.stillRow 1 rfl
  have r841 := RdL.mk r840 (rs817.mono (hl827.trans hl839))
  refine T_callS rfl rfl g_aumbry_sha_Text rfl rfl rfl rfl ((text_ok S837.le (hT.mono (hl27.trans (hl41.trans (hl71.trans (hl76.trans (hl624.trans (hl636.trans (hl648.trans (hl660.trans (hl664.trans (hl827.trans hl839))))))))))) r841 (by omega)).mono ?_)
  rintro e w847 ⟨a842, c843, hc844, rfl, ho845, hB846⟩
  have S848 := S837.own hB846 ho845
  refine ⟨_, rfl, (((hl76.trans (hl624.trans (hl636.trans (hl648.trans (hl660.trans (hl664.trans (hl827.trans hl839)))))))).trans S848.le), ?_⟩
  refine T_nil ?_
  refine TT_step rfl ?_
  refine T_yes rfl rfl rfl ?_ rfl
  obtain ⟨G850, hl851, S849, r852⟩ := S848.stillRow 1 rfl
  obtain ⟨G854, hl855, S853, r856⟩ := S849.stillRow 0 rfl
  refine T_callS rfl rfl g_aumbry_aumbrykeep_Same_byte rfl rfl rfl rfl ((sameB_ok S853.le (r852.mono hl855) r856 (by first | omega | (simp; done) | (simp only [List.length_take, List.length_drop]; omega))).mono ?_)
  rintro e w858 ⟨rfl, hB857⟩
  have S859 := S853.call hB857
  refine ⟨_, rfl, (((hl76.trans (hl624.trans (hl636.trans (hl648.trans (hl660.trans (hl664.trans (hl827.trans (hl839.trans (hl851.trans hl855)))))))))).trans S859.le), ?_⟩
  refine T_nil ?_
  refine TT_step rfl ?_
  refine T_yes rfl rfl rfl ?_ rfl
  refine T_pev rfl rfl rfl rfl ?_
  refine T_nil ?_
  refine TT_step rfl ?_
  refine T_pev rfl rfl rfl rfl ?_
  refine T_nil ?_
  refine TT_step rfl ?_
  refine T_pev rfl rfl rfl rfl ?_
  refine T_nil ?_
  refine TT_step rfl ?_
  refine T_bool 62 true rfl (ndec_t text_more) ?_
  refine T_yes rfl rfl rfl ?_ rfl
  refine T_pev rfl rfl rfl rfl ?_
  refine T_nil ?_
  refine TT_step rfl ?_
  refine T_yes rfl rfl rfl ?_ rfl
  refine T_pev rfl rfl rfl rfl ?_
  refine T_nil ?_
  refine TT_step rfl ?_
  refine T_yes rfl rfl rfl ?_ rfl
  refine T_pev rfl rfl rfl rfl ?_
  refine T_nil ?_
  refine TT_step rfl ?_
  refine T_yes rfl rfl rfl ?_ rfl
  have rs864 : Rds G854 [.slice a5 (x.take 60).length c6, .slice a12 (y.take 60).length c13] [(x.take 60), (y.take 60)] := Rds.cons (Rd.canonB (hr8.mono (hl27.trans (hl41.trans (hl71.trans (hl76.trans (hl624.trans (hl636.trans (hl648.trans (hl660.trans (hl664.trans (hl827.trans (hl839.trans (hl851.trans hl855)))))))))))))) (Rds.cons (Rd.canonB (hr15.mono (hl27.trans (hl41.trans (hl71.trans (hl76.trans (hl624.trans (hl636.trans (hl648.trans (hl660.trans (hl664.trans (hl827.trans (hl839.trans (hl851.trans hl855)))))))))))))) (Rds.nil _))
  refine T_litS [.slice a5 (x.take 60).length c6, .slice a12 (y.take 60).length c13] rfl rfl rfl rfl rfl rfl rfl rfl rfl rfl rfl rfl rfl (by simp [Value.cells]; rfl) rfl fun a860 w861 hB862 ho863 => ?_
  have S865 := S859.own hB862 ho863
  refine ⟨(((hl76.trans (hl624.trans (hl636.trans (hl648.trans (hl660.trans (hl664.trans (hl827.trans (hl839.trans (hl851.trans hl855)))))))))).trans S865.le), ?_⟩
  refine T_nil ?_
  refine TT_step rfl ?_
  refine T_yes rfl rfl rfl ?_ rfl
  obtain ⟨G867, hl868, S866, r869⟩ := S865.stillRow 0 rfl
  have r870 := RdL.mk r869 (rs864.mono hl868)
  refine T_callS rfl rfl g_aumbry_sha_Text rfl rfl rfl rfl ((text_ok S866.le (hT.mono (hl27.trans (hl41.trans (hl71.trans (hl76.trans (hl624.trans (hl636.trans (hl648.trans (hl660.trans (hl664.trans (hl827.trans (hl839.trans (hl851.trans (hl855.trans hl868)))))))))))))) r870 (by omega)).mono ?_)
  rintro e w876 ⟨a871, c872, hc873, rfl, ho874, hB875⟩
  have S877 := S866.own hB875 ho874
  refine ⟨_, rfl, (((hl76.trans (hl624.trans (hl636.trans (hl648.trans (hl660.trans (hl664.trans (hl827.trans (hl839.trans (hl851.trans (hl855.trans hl868))))))))))).trans S877.le), ?_⟩
  refine T_nil ?_
  refine TT_step rfl ?_
  refine T_yes rfl rfl rfl ?_ rfl
  obtain ⟨G879, hl880, S878, r881⟩ := S877.stillRow 0 rfl
  refine T_callS rfl rfl g_aumbry_sha_Sum rfl rfl rfl rfl ((sumN_ok S878.le r881 (by omega)).mono ?_)
  rintro e w883 ⟨rfl, hB882⟩
  have S884 := S878.call hB882
  refine ⟨_, rfl, (((hl76.trans (hl624.trans (hl636.trans (hl648.trans (hl660.trans (hl664.trans (hl827.trans (hl839.trans (hl851.trans (hl855.trans (hl868.trans hl880)))))))))))).trans S884.le), ?_⟩
  refine T_nil ?_
  refine TT_step rfl ?_
  refine T_yes rfl rfl rfl ?_ rfl
  refine T_loadGAP _ (fun _ h => h) (still_cells r72) rfl rfl rfl rfl rfl rfl rfl rfl (hVs (Go.Au.tagged_len _ _)) ?_
  refine T_nil ?_
  refine TT_step rfl ?_
  refine T_yes rfl rfl rfl ?_ rfl
  refine T_eqB (xs := Go.Sha.sha (Go.Au.text tag ([(x.take 60), (y.take 60)]))) (ys := Go.Au.tagged tag ([(x.take 60), (y.take 60)])) rfl rfl rfl rfl rfl rfl rfl rfl rfl rfl rfl (Go.Sha.sha_len _) (Go.Au.tagged_len _ _) ?_
  refine T_nil ?_
  refine TT_step rfl ?_
  refine T_pev rfl rfl rfl rfl ?_
  refine T_nil ?_
  refine TT_step rfl ?_
  refine T_pev rfl rfl rfl rfl ?_
  refine T_nil ?_
  refine TT_step rfl ?_
  refine T_bool 72 true rfl (decide_eq_true rfl) ?_
  refine T_yes rfl rfl rfl ?_ rfl
  refine T_callS rfl rfl g_aumbry_aumbrylaw02_wakes rfl rfl rfl rfl ((wakesN_ok S884.le ).mono ?_)
  rintro e w886 ⟨rfl, hB885⟩
  have S887 := S884.call hB885
  refine ⟨_, rfl, (((hl76.trans (hl624.trans (hl636.trans (hl648.trans (hl660.trans (hl664.trans (hl827.trans (hl839.trans (hl851.trans (hl855.trans (hl868.trans hl880)))))))))))).trans S887.le), ?_⟩
  refine T_nil ?_
  refine TT_step rfl ?_
  refine T_pev rfl rfl rfl rfl ?_
  refine T_nil ?_
  refine TT_step rfl ?_
  refine T_pev rfl rfl rfl rfl ?_
  refine T_nil ?_
  refine TT_done ?_
  refine W_ret ?_
  refine ⟨_, ⟨_, _, rfl, rfl, rfl⟩, ?_⟩
  exact ⟨rfl, S887.below⟩


theorem shaTags_ok {H : Hp} {w : World} (hH : H.le (hw w)) (hT : Tabs H) {tag : List UInt8} {l : List (List UInt8)} {aa1 : Option Addr} {nn1 cc1 : Nat} (hv : RdL H (.slice aa1 nn1 cc1) l) :
    Calls Tryd.prog 4 #[str tag, .slice aa1 nn1 cc1] w fun e w' => e = .returned (.bool true) ∧ Below w.heap.size w w' := by
  obtain rfl : nn1 = l.length := hv.len
  refine enter2 _ Tryd.func4 rfl Tryd.ntmps4 Tryd.results4 rfl ?_
  have S0 := St.start w hH
  refine W_seq ?_
  refine W_region ?_
  refine T_pev rfl rfl rfl rfl ?_
  refine T_nil ?_
  refine W_seq ?_
  refine W_seq ?_
  refine W_region ?_
  refine T_pev rfl rfl rfl rfl ?_
  refine T_lenStr rfl rfl rfl rfl rfl rfl ?_
  refine T_pev rfl rfl rfl rfl ?_
  refine T_nil ?_
  refine W_cond_dec rfl (fun h1 => ?_) (fun h1 => ?_)
  · refine W_seq ?_
    refine W_region ?_
    refine T_callS rfl rfl g_aumbry_aumbrylaw02_wakes rfl rfl rfl rfl ((wakesN_ok S0.le ).mono ?_)
    rintro e w3 ⟨rfl, hB2⟩
    have S4 := S0.call hB2
    refine ⟨_, rfl, trivial, ?_⟩
    refine T_pev rfl rfl rfl rfl ?_
    refine T_nil ?_
    refine W_ret ?_
    refine ⟨_, ⟨_, _, rfl, rfl, rfl⟩, ?_⟩
    exact ⟨rfl, S4.below⟩
  refine W_skip ?_
  refine W_seq ?_
  refine W_region ?_
  refine T_pev rfl rfl rfl rfl ?_
  refine T_nil ?_
  refine W_seq ?_
  refine W_seq ?_
  refine W_region ?_
  refine T_pev rfl rfl rfl rfl ?_
  refine T_nil ?_
  refine W_block ?_
  have S5 := S0.nilRow 22 1
  have rs6 := Rds.nil H
  refine W_loop (fun M ρ w' => ∃ (k : Nat) (a9 : Option Addr) (c10 : Nat) (hs12 : List Value) (G7 : Hp), M = 6 - k ∧ k ≤ 6 ∧ k ≤ l.length ∧ ρ = [(0, str tag), (1, .slice aa1 l.length cc1), (5, .slice a9 ((Go.Au.cuts l k).length) c10), (6, .int .i64 (k : Int))] ∧ H.le G7 ∧ St w H G7 [.row 22 1 (.slice a9 ((Go.Au.cuts l k).length) c10) ((Go.Au.cuts l k).length) hs12] w' ∧ Rds G7 hs12 (Go.Au.cuts l k) ∧ (Go.Au.cuts l k).length ≤ c10)
    (6 - 0) [(0, str tag), (1, .slice aa1 l.length cc1), (5, .slice none 0 0), (6, .int .i64 ((0 : Nat) : Int))] ⟨rfl, rfl, rfl, (congrArg (fun z => some (Value.int .i64 z)) (by omega)), trivial⟩ ⟨0, none, 0, _, H, rfl, (by omega), (by omega), rfl, Hp.le.refl _, S5, rs6, (Nat.le_refl _)⟩ ?_
  rintro M ρ w14 ⟨k, a9, c10, hs12, G7, rfl, hp16, hp17, rfl, hl8, S15, rs13, hc11⟩
  refine W_seq ?_
  refine W_seq ?_
  refine W_region ?_
  refine T_pev rfl rfl rfl rfl ?_
  refine T_pev rfl rfl rfl rfl ?_
  refine T_pev rfl rfl rfl rfl ?_
  refine T_pev rfl rfl rfl rfl ?_
  refine T_pev rfl rfl rfl rfl ?_
  refine T_part (t := 15) rfl (List.cons_ne_nil _ _) (fun h18' => ?_) (fun h18' => ?_)
  · have h18 := of_decide_eq_true h18'
    refine T_yes rfl rfl rfl ?_ rfl
    refine T_pev rfl rfl rfl rfl ?_
    refine T_yes rfl rfl rfl ?_ rfl
    refine T_pev rfl rfl rfl rfl ?_
    refine T_pev rfl rfl rfl rfl ?_
    refine T_nil ?_
    refine W_cond_dec rfl (fun h19 => ?_) (fun h19 => ?_)
    · refine W_skip ?_
      refine W_seq ?_
      refine W_block ?_
      refine W_region ?_
      refine T_pev rfl rfl rfl rfl ?_
      refine T_pev rfl rfl rfl rfl ?_
      refine T_pev rfl rfl rfl rfl ?_
      obtain ⟨hs23, r24, r25⟩ := (hv.mono hl8)
      refine T_idxR k r24 rfl rfl rfl rfl rfl rfl rfl rfl rfl (by omega) (by omega) fun b20 o21 hc22 => ?_
      obtain ⟨a28, c29, hc31, hv27, r30⟩ := r25.at k (by omega)
      have hc32 := hc22 0 (.slice a28 (l.getD k []).length c29) (by simpa using hv27)
      simp only [Nat.add_zero] at hc32
      refine T_loadG S15 hc32 rfl rfl rfl rfl rfl rfl rfl ?_
      refine T_callS rfl rfl g_aumbry_aumbrykeep_Cut_byte rfl rfl rfl rfl ((cutB_ok S15.le r30 100).mono ?_)
      rintro e w38 ⟨a33, c34, hc35, rfl, hr36, hB37⟩
      have S39 := S15.call hB37
      refine ⟨_, rfl, trivial, ?_⟩
      have rs44 : Rds G7 [.slice a33 ((l.getD k []).take 100).length c34] [((l.getD k []).take 100)] := Rds.cons (Rd.canonB hr36) (Rds.nil _)
      refine T_litS [.slice a33 ((l.getD k []).take 100).length c34] rfl rfl rfl rfl rfl rfl rfl rfl rfl rfl rfl rfl rfl (by simp [Value.cells]; rfl) rfl fun a40 w41 hB42 ho43 => ?_
      have S45 := S39.own hB42 ho43
      refine ⟨trivial, ?_⟩
      have hD46 : (Go.Au.cuts l k ++ [((l.getD k []).take 100)]) = Go.Au.cuts l (k + 1) := (Go.Au.cuts_snoc (by omega))
      refine T_appendS 1 ((Go.Au.cuts l (k + 1)).length) _ S45 (fun _ _ => trivial) rfl rfl rfl rfl rfl rfl rfl rfl rfl rfl rfl rfl rfl rfl (S45.rd 0 rfl) rs44.one (by rw [← hD46]; first | rfl | (simp; done) | (simp; omega) | omega) rfl (by unfold maxLen; have hcl := Go.Au.cuts_len l k (by omega); have hcl2 := Go.Au.cuts_len l (k + 1) (by omega); omega) (by show _ * 24 ≤ _; have hcl := Go.Au.cuts_len l k (by omega); have hcl2 := Go.Au.cuts_len l (k + 1) (by omega); omega) fun a47 c48 w49 hc50 S51 => ?_
      have rs52 := Rds.append rs13 rs44
      rw [hD46] at rs52
      refine T_pev rfl rfl rfl rfl ?_
      refine T_nil ?_
      refine W_region ?_
      refine T_pev rfl rfl rfl rfl ?_
      refine T_ari rfl rfl rfl rfl (by omega) ?_
      refine T_pev rfl rfl rfl rfl ?_
      refine T_nil ?_
      have S53 := S51.drop 0
      exact ⟨6 - (k + 1), [(0, str tag), (1, .slice aa1 l.length cc1), (5, .slice a47 ((Go.Au.cuts l (k + 1)).length) c48), (6, .int .i64 ((k + 1 : Nat) : Int))], by omega, ⟨rfl, rfl, rfl, (congrArg (fun z => some (Value.int .i64 z)) (by omega)), trivial⟩, k + 1, a47, c48, _, G7, rfl, (by omega), (by omega), rfl, hl8, S53, rs52, hc50⟩
    refine W_exit ?_
    refine W_seq ?_
    refine W_region ?_
    have htx := cuts_text (tag := tag) (l := l) (k := k) (by omega) (by omega)
    refine T_pev rfl rfl rfl rfl ?_
    refine T_pev rfl rfl rfl rfl ?_
    obtain ⟨G55, hl56, S54, r57⟩ := S15.stillRow 0 rfl
    have r58 := RdL.mk r57 (rs13.mono hl56)
    refine T_callS rfl rfl g_aumbry_sha_Text rfl rfl rfl rfl ((text_ok S54.le (hT.mono (hl8.trans hl56)) r58 (by omega)).mono ?_)
    rintro e w64 ⟨a59, c60, hc61, rfl, ho62, hB63⟩
    have S65 := S54.own hB63 ho62
    refine ⟨_, rfl, trivial, ?_⟩
    refine T_pev rfl rfl rfl rfl ?_
    refine T_pev rfl rfl rfl rfl ?_
    refine T_callS rfl rfl g_aumbry_aumbryref01_Text rfl rfl rfl rfl ((textR_ok S65.le r58 (by omega)).mono ?_)
    rintro e w71 ⟨a66, c67, hc68, rfl, ho69, hB70⟩
    have S72 := S65.own hB70 ho69
    refine ⟨_, rfl, trivial, ?_⟩
    obtain ⟨G74, hl75, S73, r76⟩ := S72.stillRow 1 rfl
    obtain ⟨G78, hl79, S77, r80⟩ := S73.stillRow 0 rfl
    refine T_callS rfl rfl g_aumbry_aumbrykeep_Same_byte rfl rfl rfl rfl ((sameB_ok S77.le (r76.mono hl79) r80 (by first | omega | (simp; done) | (simp only [List.length_take, List.length_drop]; omega))).mono ?_)
    rintro e w82 ⟨rfl, hB81⟩
    have S83 := S77.call hB81
    refine ⟨_, rfl, trivial, ?_⟩
    refine T_pev rfl rfl rfl rfl ?_
    refine T_bool 36 true rfl (decide_eq_true (by first | rfl | omega)) ?_
    refine T_yes rfl rfl rfl ?_ rfl
    refine T_pev rfl rfl rfl rfl ?_
    refine T_yes rfl rfl rfl ?_ rfl
    refine T_pev rfl rfl rfl rfl ?_
    refine T_yes rfl rfl rfl ?_ rfl
    refine T_callS rfl rfl g_aumbry_sha_Tagged rfl rfl rfl rfl ((tagged_ok S83.le (hT.mono (hl8.trans (hl56.trans (hl75.trans hl79)))) (r58.mono (hl75.trans hl79)) (by omega)).mono ?_)
    rintro e w85 ⟨rfl, hB84⟩
    have S86 := S83.call hB84
    refine ⟨_, rfl, trivial, ?_⟩
    refine T_yes rfl rfl rfl ?_ rfl
    refine T_pev rfl rfl rfl rfl ?_
    refine T_yes rfl rfl rfl ?_ rfl
    refine T_pev rfl rfl rfl rfl ?_
    refine T_yes rfl rfl rfl ?_ rfl
    refine T_callS rfl rfl g_aumbry_aumbryref01_Tagged rfl rfl rfl rfl ((taggedR_ok S86.le (r58.mono (hl75.trans hl79)) (by omega)).mono ?_)
    rintro e w88 ⟨rfl, hB87⟩
    have S89 := S86.call hB87
    refine ⟨_, rfl, trivial, ?_⟩
    refine T_yes rfl rfl rfl ?_ rfl
    refine T_eqB (xs := Go.Au.tagged tag (Go.Au.cuts l k)) (ys := Go.Au.tagged tag (Go.Au.cuts l k)) rfl rfl rfl rfl rfl rfl rfl rfl rfl rfl rfl (Go.Au.tagged_len _ _) (Go.Au.tagged_len _ _) ?_
    refine T_pev rfl rfl rfl rfl ?_
    refine T_pev rfl rfl rfl rfl ?_
    refine T_bool 45 true rfl (decide_eq_true (by first | rfl | omega)) ?_
    refine T_yes rfl rfl rfl ?_ rfl
    refine T_pev rfl rfl rfl rfl ?_
    refine T_yes rfl rfl rfl ?_ rfl
    refine T_pev rfl rfl rfl rfl ?_
    refine T_yes rfl rfl rfl ?_ rfl
    refine T_callS rfl rfl g_aumbry_sha_Short rfl rfl rfl rfl ((short_ok S89.le (hT.mono (hl8.trans (hl56.trans (hl75.trans hl79)))) (r58.mono (hl75.trans hl79)) (by omega)).mono ?_)
    rintro e w91 ⟨rfl, hB90⟩
    have S92 := S89.call hB90
    refine ⟨_, rfl, trivial, ?_⟩
    refine T_yes rfl rfl rfl ?_ rfl
    refine T_pev rfl rfl rfl rfl ?_
    refine T_yes rfl rfl rfl ?_ rfl
    refine T_pev rfl rfl rfl rfl ?_
    refine T_yes rfl rfl rfl ?_ rfl
    refine T_callS rfl rfl g_aumbry_aumbryref01_Short rfl rfl rfl rfl ((shortR_ok S92.le (r58.mono (hl75.trans hl79)) (by omega)).mono ?_)
    rintro e w94 ⟨rfl, hB93⟩
    have S95 := S92.call hB93
    refine ⟨_, rfl, trivial, ?_⟩
    refine T_yes rfl rfl rfl ?_ rfl
    refine T_eqB (xs := ((Go.Au.tagged tag (Go.Au.cuts l k)).take 16)) (ys := ((Go.Au.tagged tag (Go.Au.cuts l k)).take 16)) rfl rfl rfl rfl rfl rfl rfl rfl rfl rfl rfl (key_len tag (Go.Au.cuts l k)) (key_len tag (Go.Au.cuts l k)) ?_
    refine T_pev rfl rfl rfl rfl ?_
    refine T_pev rfl rfl rfl rfl ?_
    refine T_bool 54 true rfl (decide_eq_true (by first | rfl | omega)) ?_
    refine T_yes rfl rfl rfl ?_ rfl
    refine T_callS rfl rfl g_aumbry_aumbrylaw02_wakes rfl rfl rfl rfl ((wakesN_ok S95.le ).mono ?_)
    rintro e w97 ⟨rfl, hB96⟩
    have S98 := S95.call hB96
    refine ⟨_, rfl, trivial, ?_⟩
    refine T_pev rfl rfl rfl rfl ?_
    refine T_pev rfl rfl rfl rfl ?_
    refine T_nil ?_
    refine W_ret ?_
    refine ⟨_, ⟨_, _, rfl, rfl, rfl⟩, ?_⟩
    exact ⟨rfl, S98.below⟩
  have h18 := of_decide_eq_false h18'
  refine T_no rfl rfl rfl rfl rfl rfl ?_
  refine T_no rfl rfl rfl rfl rfl rfl ?_
  refine T_pev rfl rfl rfl rfl ?_
  refine T_nil ?_
  refine W_cond_false rfl ?_
  refine W_exit ?_
  refine W_seq ?_
  refine W_region ?_
  have htx := cuts_text (tag := tag) (l := l) (k := k) (by omega) (by omega)
  refine T_pev rfl rfl rfl rfl ?_
  refine T_pev rfl rfl rfl rfl ?_
  obtain ⟨G100, hl101, S99, r102⟩ := S15.stillRow 0 rfl
  have r103 := RdL.mk r102 (rs13.mono hl101)
  refine T_callS rfl rfl g_aumbry_sha_Text rfl rfl rfl rfl ((text_ok S99.le (hT.mono (hl8.trans hl101)) r103 (by omega)).mono ?_)
  rintro e w109 ⟨a104, c105, hc106, rfl, ho107, hB108⟩
  have S110 := S99.own hB108 ho107
  refine ⟨_, rfl, trivial, ?_⟩
  refine T_pev rfl rfl rfl rfl ?_
  refine T_pev rfl rfl rfl rfl ?_
  refine T_callS rfl rfl g_aumbry_aumbryref01_Text rfl rfl rfl rfl ((textR_ok S110.le r103 (by omega)).mono ?_)
  rintro e w116 ⟨a111, c112, hc113, rfl, ho114, hB115⟩
  have S117 := S110.own hB115 ho114
  refine ⟨_, rfl, trivial, ?_⟩
  obtain ⟨G119, hl120, S118, r121⟩ := S117.stillRow 1 rfl
  obtain ⟨G123, hl124, S122, r125⟩ := S118.stillRow 0 rfl
  refine T_callS rfl rfl g_aumbry_aumbrykeep_Same_byte rfl rfl rfl rfl ((sameB_ok S122.le (r121.mono hl124) r125 (by first | omega | (simp; done) | (simp only [List.length_take, List.length_drop]; omega))).mono ?_)
  rintro e w127 ⟨rfl, hB126⟩
  have S128 := S122.call hB126
  refine ⟨_, rfl, trivial, ?_⟩
  refine T_pev rfl rfl rfl rfl ?_
  refine T_bool 36 true rfl (decide_eq_true (by first | rfl | omega)) ?_
  refine T_yes rfl rfl rfl ?_ rfl
  refine T_pev rfl rfl rfl rfl ?_
  refine T_yes rfl rfl rfl ?_ rfl
  refine T_pev rfl rfl rfl rfl ?_
  refine T_yes rfl rfl rfl ?_ rfl
  refine T_callS rfl rfl g_aumbry_sha_Tagged rfl rfl rfl rfl ((tagged_ok S128.le (hT.mono (hl8.trans (hl101.trans (hl120.trans hl124)))) (r103.mono (hl120.trans hl124)) (by omega)).mono ?_)
  rintro e w130 ⟨rfl, hB129⟩
  have S131 := S128.call hB129
  refine ⟨_, rfl, trivial, ?_⟩
  refine T_yes rfl rfl rfl ?_ rfl
  refine T_pev rfl rfl rfl rfl ?_
  refine T_yes rfl rfl rfl ?_ rfl
  refine T_pev rfl rfl rfl rfl ?_
  refine T_yes rfl rfl rfl ?_ rfl
  refine T_callS rfl rfl g_aumbry_aumbryref01_Tagged rfl rfl rfl rfl ((taggedR_ok S131.le (r103.mono (hl120.trans hl124)) (by omega)).mono ?_)
  rintro e w133 ⟨rfl, hB132⟩
  have S134 := S131.call hB132
  refine ⟨_, rfl, trivial, ?_⟩
  refine T_yes rfl rfl rfl ?_ rfl
  refine T_eqB (xs := Go.Au.tagged tag (Go.Au.cuts l k)) (ys := Go.Au.tagged tag (Go.Au.cuts l k)) rfl rfl rfl rfl rfl rfl rfl rfl rfl rfl rfl (Go.Au.tagged_len _ _) (Go.Au.tagged_len _ _) ?_
  refine T_pev rfl rfl rfl rfl ?_
  refine T_pev rfl rfl rfl rfl ?_
  refine T_bool 45 true rfl (decide_eq_true (by first | rfl | omega)) ?_
  refine T_yes rfl rfl rfl ?_ rfl
  refine T_pev rfl rfl rfl rfl ?_
  refine T_yes rfl rfl rfl ?_ rfl
  refine T_pev rfl rfl rfl rfl ?_
  refine T_yes rfl rfl rfl ?_ rfl
  refine T_callS rfl rfl g_aumbry_sha_Short rfl rfl rfl rfl ((short_ok S134.le (hT.mono (hl8.trans (hl101.trans (hl120.trans hl124)))) (r103.mono (hl120.trans hl124)) (by omega)).mono ?_)
  rintro e w136 ⟨rfl, hB135⟩
  have S137 := S134.call hB135
  refine ⟨_, rfl, trivial, ?_⟩
  refine T_yes rfl rfl rfl ?_ rfl
  refine T_pev rfl rfl rfl rfl ?_
  refine T_yes rfl rfl rfl ?_ rfl
  refine T_pev rfl rfl rfl rfl ?_
  refine T_yes rfl rfl rfl ?_ rfl
  refine T_callS rfl rfl g_aumbry_aumbryref01_Short rfl rfl rfl rfl ((shortR_ok S137.le (r103.mono (hl120.trans hl124)) (by omega)).mono ?_)
  rintro e w139 ⟨rfl, hB138⟩
  have S140 := S137.call hB138
  refine ⟨_, rfl, trivial, ?_⟩
  refine T_yes rfl rfl rfl ?_ rfl
  refine T_eqB (xs := ((Go.Au.tagged tag (Go.Au.cuts l k)).take 16)) (ys := ((Go.Au.tagged tag (Go.Au.cuts l k)).take 16)) rfl rfl rfl rfl rfl rfl rfl rfl rfl rfl rfl (key_len tag (Go.Au.cuts l k)) (key_len tag (Go.Au.cuts l k)) ?_
  refine T_pev rfl rfl rfl rfl ?_
  refine T_pev rfl rfl rfl rfl ?_
  refine T_bool 54 true rfl (decide_eq_true (by first | rfl | omega)) ?_
  refine T_yes rfl rfl rfl ?_ rfl
  refine T_callS rfl rfl g_aumbry_aumbrylaw02_wakes rfl rfl rfl rfl ((wakesN_ok S140.le ).mono ?_)
  rintro e w142 ⟨rfl, hB141⟩
  have S143 := S140.call hB141
  refine ⟨_, rfl, trivial, ?_⟩
  refine T_pev rfl rfl rfl rfl ?_
  refine T_pev rfl rfl rfl rfl ?_
  refine T_nil ?_
  refine W_ret ?_
  refine ⟨_, ⟨_, _, rfl, rfl, rfl⟩, ?_⟩
  exact ⟨rfl, S143.below⟩

end Go.Proofs.YtikgpfhjhfpmbaaDoor
