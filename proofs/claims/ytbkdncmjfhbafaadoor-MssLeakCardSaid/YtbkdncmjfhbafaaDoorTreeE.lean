/- Breaks: the program's; what is a break. -/
import Derived.Test.YtbkdncmjfhbafaaDoorTreeD
set_option linter.unusedVariables false
set_option linter.unusedSimpArgs false
set_option maxRecDepth 8192
namespace Go.Proofs.YtbkdncmjfhbafaaDoor
open Go Go.F Go.RowKit

theorem textP_bd {d : List UInt8} (h : d.length = 64) : (Go.Au.textP d).length < 10000 := Go.Au.text2 (by decide) (by rw [List.length_take]; omega) (by rw [List.length_drop]; omega)
theorem textP2 {x : List UInt8} (h : x.length = 64) : Go.Au.text [110, 111, 100, 101] [x.take 32, (x.drop 32).take 32] = Go.Au.textP x := by
  rw [List.take_of_length_le (l := List.drop 32 _) (by rw [List.length_drop]; omega)]; rfl
theorem unl_end {W w : World} {H G : Hp} {D1 D2 E1 E2 : List UInt8} {a1 a2 : Option Addr} {c1 c2 : Nat} (h1 : D1 = E1) (h2 : D2 = E2) (r1 : Rd G (.slice a1 D1.length c1) D1.length 1 (D1.map bV)) (r2 : Rd G (.slice a2 D2.length c2) D2.length 1 (D2.map bV)) (hG : G.le (F.ext H W.heap.size w)) (hB : Below W.heap.size W w) :
    ∃ a c a' c', Ending.returned (.agg #[.slice a1 D1.length c1, .slice a2 D2.length c2]) = .returned (.agg #[.slice a E1.length c, .slice a' E2.length c']) ∧ Rd (F.ext H W.heap.size w) (.slice a E1.length c) E1.length 1 (E1.map bV) ∧ Rd (F.ext H W.heap.size w) (.slice a' E2.length c') E2.length 1 (E2.map bV) ∧ Below W.heap.size W w := by
  subst h1; subst h2; exact ⟨a1, c1, a2, c2, rfl, r1.mono hG, r2.mono hG, hB⟩
theorem br_end {W w : World} {H G : Hp} {A B : List UInt8} {o : Option (List UInt8 × List UInt8)} {a1 a2 : Option Addr} {c1 c2 : Nat} (h : o = some (A, B)) (r1 : Rd G (.slice a1 A.length c1) A.length 1 (A.map bV)) (r2 : Rd G (.slice a2 B.length c2) B.length 1 (B.map bV)) (hG : G.le (F.ext H W.heap.size w)) (hB : Below W.heap.size W w) :
    ∃ a c a' c', Ending.returned (.tuple #[.agg #[.slice a1 A.length c1, .slice a2 B.length c2], .bool true]) = .returned (.tuple #[.agg #[.slice a (Go.Au.brA o).length c, .slice a' (Go.Au.brB o).length c'], .bool o.isSome]) ∧ Rd (F.ext H W.heap.size w) (.slice a (Go.Au.brA o).length c) (Go.Au.brA o).length 1 ((Go.Au.brA o).map bV) ∧ Rd (F.ext H W.heap.size w) (.slice a' (Go.Au.brB o).length c') (Go.Au.brB o).length 1 ((Go.Au.brB o).map bV) ∧ Below W.heap.size W w := by
  subst h; exact ⟨a1, c1, a2, c2, rfl, r1.mono hG, r2.mono hG, hB⟩
theorem beq_ok {H : Hp} {w : World} (hH : H.le (hw w)) {l : List UInt8} {aa0 : Option Addr} {nn0 cc0 : Nat} (hv : Rd H (.slice aa0 nn0 cc0) nn0 1 (l.map bV)) {m : List UInt8} {aa1 : Option Addr} {nn1 cc1 : Nat} (hu : Rd H (.slice aa1 nn1 cc1) nn1 1 (m.map bV)) :
    Calls Tryd.prog 49 #[.slice aa0 nn0 cc0, .slice aa1 nn1 cc1] w fun e w' => e = .returned (.bool (decide (l = m))) ∧ Below w.heap.size w w' := by
  obtain rfl : nn0 = l.length := hv.lenB
  have hvcap : l.length ≤ cc0 := hv.capOf
  obtain rfl : nn1 = m.length := hu.lenB
  have hucap : m.length ≤ cc1 := hu.capOf
  refine enter2 _ Tryd.func49 rfl Tryd.ntmps49 Tryd.results49 rfl ?_
  have S0 := St.start w hH
  refine W_seq ?_
  refine W_region ?_
  refine T_pev rfl rfl rfl rfl ?_
  refine T_nil ?_
  refine W_seq ?_
  refine W_region ?_
  refine T_pev rfl rfl rfl rfl ?_
  refine T_convG S0 hv rfl rfl rfl rfl rfl rfl rfl rfl rfl ?_
  refine T_pev rfl rfl rfl rfl ?_
  refine T_convG S0 hu rfl rfl rfl rfl rfl rfl rfl rfl rfl ?_
  refine T_streq rfl rfl rfl rfl rfl rfl ?_
  refine T_pev rfl rfl rfl rfl ?_
  refine T_nil ?_
  refine W_ret ?_
  refine ⟨_, ⟨_, _, rfl, rfl, rfl⟩, ?_⟩
  exact ⟨rfl, S0.below⟩


theorem isbr_ok {H : Hp} {w : World} (hH : H.le (hw w)) (hT : Tabs H) {A B : List UInt8} {a1 a2 : Option Addr} {n1 c1 n2 c2 : Nat} (hA : Rd H (.slice a1 n1 c1) n1 1 (A.map bV)) (hB : Rd H (.slice a2 n2 c2) n2 1 (B.map bV)) (hbA : A.length ≤ 100000) (hbB : B.length ≤ 100000) :
    Calls Tryd.prog 17 #[.agg #[.slice a1 n1 c1, .slice a2 n2 c2]] w fun e w' => e = .returned (.bool (!decide (A = B) && decide (Go.Sha.sha A = Go.Sha.sha B))) ∧ Below w.heap.size w w' := by
  obtain rfl : n1 = A.length := hA.lenB
  obtain rfl : n2 = B.length := hB.lenB
  refine enter1 _ Tryd.func17 rfl Tryd.ntmps17 Tryd.results17 rfl ?_
  have S0 := St.start w hH
  refine W_seq ?_
  refine W_region ?_
  refine T_boxS S0 (fun _ _ => trivial) rfl rfl rfl rfl rfl rfl fun b1 w2 S3 => ?_
  refine T_pev rfl rfl rfl rfl ?_
  refine T_nil ?_
  refine W_seq ?_
  obtain ⟨G5, hl6, S4, r7⟩ := S3.stillBlk 0 rfl
  refine W_plan (planF Tryd.prog G5 [14]) rfl (by kernel_rfl) S4.le ?_
  have S8 := S4.drew
  refine T_fldm 0 rfl rfl rfl rfl rfl rfl (by decide) rfl rfl rfl ?_
  refine T_loadG S8 (still_cell r7 rfl) rfl rfl rfl rfl rfl rfl rfl ?_
  refine T_fldm 1 rfl rfl rfl rfl rfl rfl (by decide) rfl rfl rfl ?_
  refine T_loadG S8 (still_cell r7 rfl) rfl rfl rfl rfl rfl rfl rfl ?_
  refine T_callS rfl rfl g_bytes_Equal rfl rfl rfl rfl ((beq_ok S8.le (hA.mono hl6) (hB.mono hl6)).mono ?_)
  rintro e w10 ⟨rfl, hB9⟩
  have S11 := S8.call hB9
  refine ⟨_, rfl, (((Hp.le.refl _)).trans S11.le), ?_⟩
  refine T_pev rfl rfl rfl rfl ?_
  refine T_pev rfl rfl rfl rfl ?_
  refine T_part (t := 9) rfl (List.cons_ne_nil _ _) (fun h12' => ?_) (fun h12' => ?_)
  · have h12 := of_ndec_t h12'
    refine T_yes rfl rfl rfl ?_ rfl
    refine T_fldm 0 rfl rfl rfl rfl rfl rfl (by decide) rfl rfl rfl ?_
    refine T_yes rfl rfl rfl ?_ rfl
    refine T_loadG S11 (still_cell r7 rfl) rfl rfl rfl rfl rfl rfl rfl ?_
    refine T_yes rfl rfl rfl ?_ rfl
    refine T_callS rfl rfl g_aumbry_sha_Sum rfl rfl rfl rfl ((sumN_ok S11.le (hA.mono hl6) (by omega)).mono ?_)
    rintro e w14 ⟨rfl, hB13⟩
    have S15 := S11.call hB13
    refine ⟨_, rfl, (((Hp.le.refl _)).trans S15.le), ?_⟩
    refine T_yes rfl rfl rfl ?_ rfl
    refine T_fldm 1 rfl rfl rfl rfl rfl rfl (by decide) rfl rfl rfl ?_
    refine T_yes rfl rfl rfl ?_ rfl
    refine T_loadGP (fun _ h => h) (still_cell r7 rfl) rfl rfl rfl rfl rfl rfl rfl ?_
    refine T_yes rfl rfl rfl ?_ rfl
    refine T_callS rfl rfl g_aumbry_sha_Sum rfl rfl rfl rfl ((sumN_ok S15.le (hB.mono hl6) (by omega)).mono ?_)
    rintro e w17 ⟨rfl, hB16⟩
    have S18 := S15.call hB16
    refine ⟨_, rfl, (((Hp.le.refl _)).trans S18.le), ?_⟩
    refine T_yes rfl rfl rfl ?_ rfl
    refine T_eqB (xs := Go.Sha.sha A) (ys := Go.Sha.sha B) rfl rfl rfl rfl rfl rfl rfl rfl rfl rfl rfl (Go.Sha.sha_len _) (Go.Sha.sha_len _) ?_
    refine T_pev rfl rfl rfl rfl ?_
    refine T_pev rfl rfl rfl rfl ?_
    refine T_nil ?_
    refine W_ret ?_
    refine ⟨_, ⟨_, _, rfl, rfl, rfl⟩, ?_⟩
    exact ⟨by simp [h12]; rfl, S18.below⟩
  have h12 := of_ndec_f h12'
  refine T_no rfl rfl rfl rfl rfl rfl ?_
  refine T_no rfl rfl rfl rfl rfl rfl ?_
  refine T_no rfl rfl rfl rfl rfl rfl ?_
  refine T_no rfl rfl rfl rfl rfl rfl ?_
  refine T_no rfl rfl rfl rfl rfl rfl ?_
  refine T_no rfl rfl rfl rfl rfl rfl ?_
  refine T_no rfl rfl rfl rfl rfl rfl ?_
  refine T_pev rfl rfl rfl rfl ?_
  refine T_pev rfl rfl rfl rfl ?_
  refine T_nil ?_
  refine W_ret ?_
  refine ⟨_, ⟨_, _, rfl, rfl, rfl⟩, ?_⟩
  exact ⟨by simp [h12]; rfl, S11.below⟩


theorem isbrR_ok {H : Hp} {w : World} (hH : H.le (hw w)) {A B : List UInt8} {a1 a2 : Option Addr} {n1 c1 n2 c2 : Nat} (hA : Rd H (.slice a1 n1 c1) n1 1 (A.map bV)) (hB : Rd H (.slice a2 n2 c2) n2 1 (B.map bV)) (hbA : A.length ≤ 100000) (hbB : B.length ≤ 100000) :
    Calls Tryd.prog 18 #[.agg #[.slice a1 n1 c1, .slice a2 n2 c2]] w fun e w' => e = .returned (.bool (!decide (A = B) && decide (Go.Sha.sha A = Go.Sha.sha B))) ∧ Below w.heap.size w w' := by
  obtain rfl : n1 = A.length := hA.lenB
  obtain rfl : n2 = B.length := hB.lenB
  refine enter1 _ Tryd.func18 rfl Tryd.ntmps18 Tryd.results18 rfl ?_
  have S0 := St.start w hH
  refine W_seq ?_
  refine W_region ?_
  refine T_boxS S0 (fun _ _ => trivial) rfl rfl rfl rfl rfl rfl fun b1 w2 S3 => ?_
  refine T_pev rfl rfl rfl rfl ?_
  refine T_nil ?_
  refine W_seq ?_
  obtain ⟨G5, hl6, S4, r7⟩ := S3.stillBlk 0 rfl
  refine W_plan (planF Tryd.prog G5 [15]) rfl (by kernel_rfl) S4.le ?_
  have S8 := S4.drew
  refine T_fldm 0 rfl rfl rfl rfl rfl rfl (by decide) rfl rfl rfl ?_
  refine T_loadG S8 (still_cell r7 rfl) rfl rfl rfl rfl rfl rfl rfl ?_
  refine T_convG S8 (hA.mono hl6) rfl rfl rfl rfl rfl rfl rfl rfl rfl ?_
  refine T_fldm 1 rfl rfl rfl rfl rfl rfl (by decide) rfl rfl rfl ?_
  refine T_loadG S8 (still_cell r7 rfl) rfl rfl rfl rfl rfl rfl rfl ?_
  refine T_convG S8 (hB.mono hl6) rfl rfl rfl rfl rfl rfl rfl rfl rfl ?_
  refine T_strne rfl rfl rfl rfl rfl rfl ?_
  refine T_pev rfl rfl rfl rfl ?_
  refine T_part (t := 10) rfl (List.cons_ne_nil _ _) (fun h9' => ?_) (fun h9' => ?_)
  · have h9 := of_ndec_t h9'
    refine T_yes rfl rfl rfl ?_ rfl
    refine T_fldm 0 rfl rfl rfl rfl rfl rfl (by decide) rfl rfl rfl ?_
    refine T_yes rfl rfl rfl ?_ rfl
    refine T_loadG S8 (still_cell r7 rfl) rfl rfl rfl rfl rfl rfl rfl ?_
    refine T_yes rfl rfl rfl ?_ rfl
    refine T_callS rfl rfl g_aumbry_aumbryref01_Sum rfl rfl rfl rfl ((sumR_ok S8.le (hA.mono hl6) (by omega)).mono ?_)
    rintro e w11 ⟨rfl, hB10⟩
    have S12 := S8.call hB10
    refine ⟨_, rfl, (((Hp.le.refl _)).trans S12.le), ?_⟩
    refine T_yes rfl rfl rfl ?_ rfl
    refine T_fldm 1 rfl rfl rfl rfl rfl rfl (by decide) rfl rfl rfl ?_
    refine T_yes rfl rfl rfl ?_ rfl
    refine T_loadGP (fun _ h => h) (still_cell r7 rfl) rfl rfl rfl rfl rfl rfl rfl ?_
    refine T_yes rfl rfl rfl ?_ rfl
    refine T_callS rfl rfl g_aumbry_aumbryref01_Sum rfl rfl rfl rfl ((sumR_ok S12.le (hB.mono hl6) (by omega)).mono ?_)
    rintro e w14 ⟨rfl, hB13⟩
    have S15 := S12.call hB13
    refine ⟨_, rfl, (((Hp.le.refl _)).trans S15.le), ?_⟩
    refine T_yes rfl rfl rfl ?_ rfl
    refine T_eqB (xs := Go.Sha.sha A) (ys := Go.Sha.sha B) rfl rfl rfl rfl rfl rfl rfl rfl rfl rfl rfl (Go.Sha.sha_len _) (Go.Sha.sha_len _) ?_
    refine T_pev rfl rfl rfl rfl ?_
    refine T_pev rfl rfl rfl rfl ?_
    refine T_nil ?_
    refine W_ret ?_
    refine ⟨_, ⟨_, _, rfl, rfl, rfl⟩, ?_⟩
    exact ⟨by simp [h9]; rfl, S15.below⟩
  have h9 := of_ndec_f h9'
  refine T_no rfl rfl rfl rfl rfl rfl ?_
  refine T_no rfl rfl rfl rfl rfl rfl ?_
  refine T_no rfl rfl rfl rfl rfl rfl ?_
  refine T_no rfl rfl rfl rfl rfl rfl ?_
  refine T_no rfl rfl rfl rfl rfl rfl ?_
  refine T_no rfl rfl rfl rfl rfl rfl ?_
  refine T_no rfl rfl rfl rfl rfl rfl ?_
  refine T_pev rfl rfl rfl rfl ?_
  refine T_pev rfl rfl rfl rfl ?_
  refine T_nil ?_
  refine W_ret ?_
  refine ⟨_, ⟨_, _, rfl, rfl, rfl⟩, ?_⟩
  exact ⟨by simp [h9]; rfl, S8.below⟩


theorem unlike_ok {H : Hp} {w : World} (hH : H.le (hw w)) (hT : Tabs H) {x y : List UInt8} (hx : x.length = 64) (hy : y.length = 64) :
    Calls Tryd.prog 101 #[hV x, hV y] w fun e w' => ∃ a1 c1 a2 c2, e = .returned (.agg #[.slice a1 (Go.Au.textP x).length c1, .slice a2 (Go.Au.textP y).length c2]) ∧ Rd (F.ext H w.heap.size w') (.slice a1 (Go.Au.textP x).length c1) (Go.Au.textP x).length 1 ((Go.Au.textP x).map bV) ∧ Rd (F.ext H w.heap.size w') (.slice a2 (Go.Au.textP y).length c2) (Go.Au.textP y).length 1 ((Go.Au.textP y).map bV) ∧ Below w.heap.size w w' := by
  refine enter2 _ Tryd.func101 rfl Tryd.ntmps101 Tryd.results101 rfl ?_
  have S0 := St.start w hH
  refine W_seq ?_
  refine W_region ?_
  refine T_boxS S0 (fun _ _ => trivial) rfl rfl rfl rfl rfl rfl fun b1 w2 S3 => ?_
  refine T_boxS S3 (fun _ _ => trivial) rfl rfl rfl rfl rfl rfl fun b4 w5 S6 => ?_
  refine T_allocS S6 (fun _ _ => trivial) rfl rfl rfl rfl rfl rfl rfl fun b7 w8 S9 => ?_
  refine T_nil ?_
  refine W_seq ?_
  obtain ⟨G11, hl12, S10, r13⟩ := S9.stillBlk 1 rfl
  refine W_plan (planF Tryd.prog G11 [11, 13]) rfl (by kernel_rfl) S10.le ?_
  have S14 := S10.drew
  refine T_idxAm 0 rfl rfl rfl rfl rfl rfl rfl rfl (by decide) rfl ?_
  have hl16 : x.length = 64 := hx
  have hl15 : (x.take 32).length = 32 := by simp only [List.length_take, List.length_drop]; omega
  refine T_loadAS ((x.take 32).map bV).toArray 1 S14 rfl rfl rfl rfl rfl rfl rfl rfl rfl (hVs hl15) (hV_cut (l := x) (q := 0) (m := 32) (by omega)) ?_
  refine T_idxAm 32 rfl rfl rfl rfl rfl rfl rfl rfl (by decide) rfl ?_
  have hl18 : x.length = 64 := hx
  have hl17 : ((x.drop 32).take 32).length = 32 := by simp only [List.length_take, List.length_drop]; omega
  refine T_loadAS (((x.drop 32).take 32).map bV).toArray 1 S14 rfl rfl rfl rfl rfl rfl rfl rfl rfl (hVs hl17) (hV_cut (l := x) (q := 32) (m := 32) (by omega)) ?_
  refine T_callS rfl rfl g_aumbry_tree_text rfl rfl rfl rfl ((ntext_ok S14.le (hT.mono hl12) hl15 hl17).mono ?_)
  rintro e w24 ⟨a19, c20, hc21, rfl, ho22, hB23⟩
  have S25 := S14.own hB23 ho22
  refine ⟨_, rfl, (((Hp.le.refl _)).trans S25.le), ?_⟩
  refine T_idxAm 0 rfl rfl rfl rfl rfl rfl rfl rfl (by decide) rfl ?_
  have hl26 : y.length = 64 := hy
  have hl27 : (y.take 32).length = 32 := by simp only [List.length_take, List.length_drop]; omega
  refine T_loadGAP _ (fun _ h => h) (still_part r13 (hV_cut (l := y) (q := 0) (m := 32) (by omega))) rfl rfl rfl rfl rfl rfl rfl rfl (hVs hl27) ?_
  refine T_idxAm 32 rfl rfl rfl rfl rfl rfl rfl rfl (by decide) rfl ?_
  have hl28 : y.length = 64 := hy
  have hl29 : ((y.drop 32).take 32).length = 32 := by simp only [List.length_take, List.length_drop]; omega
  refine T_loadGAP _ (fun _ h => h) (still_part r13 (hV_cut (l := y) (q := 32) (m := 32) (by omega))) rfl rfl rfl rfl rfl rfl rfl rfl (hVs hl29) ?_
  refine T_callS rfl rfl g_aumbry_tree_text rfl rfl rfl rfl ((ntext_ok S25.le (hT.mono hl12) hl27 hl29).mono ?_)
  rintro e w35 ⟨a30, c31, hc32, rfl, ho33, hB34⟩
  have S36 := S25.own hB34 ho33
  refine ⟨_, rfl, (((Hp.le.refl _)).trans S36.le), ?_⟩
  obtain ⟨G38, hl39, S37, r40⟩ := S36.stillRow 1 rfl
  obtain ⟨G42, hl43, S41, r44⟩ := S37.stillRow 0 rfl
  refine T_buildS (cells := #[.slice a19 ((Go.Au.text [110, 111, 100, 101] [(x.take 32), ((x.drop 32).take 32)]).length) c20, .slice a30 ((Go.Au.text [110, 111, 100, 101] [(y.take 32), ((y.drop 32).take 32)]).length) c31]) rfl rfl rfl rfl rfl rfl rfl rfl rfl rfl ?_
  refine T_storeFS 0 S41 (fun _ h => ((hl39.trans hl43)).trans h) rfl rfl rfl rfl rfl rfl rfl rfl rfl (by first | rfl | simp [hVs, *]) (by first | rfl | simp [hVs, *]) (one_all rfl) fun w45 S46 => ?_
  refine T_nil ?_
  refine W_ret ?_
  refine ⟨_, ⟨_, _, _, rfl, rfl, run_loadVarA rfl rfl (by first | rfl | simp [hVs, *]) (S46.cells 0 rfl), rfl⟩, ?_⟩
  exact unl_end (textP2 hx) (textP2 hy) (r40.mono hl43) r44 S46.fin S46.below


theorem break_ok {H : Hp} {w : World} (hH : H.le (hw w)) (hT : Tabs H) (n i : Int) {x y : List UInt8} (hx : x.length = 32) (hy : y.length = 32) {p : List (List UInt8)} {aa4 : Option Addr} {nn4 cc4 : Nat} (hp : RdH H (.slice aa4 nn4 cc4) 32 p) {q : List (List UInt8)} {aa5 : Option Addr} {nn5 cc5 : Nat} (hq : RdH H (.slice aa5 nn5 cc5) 32 q) :
    Calls Tryd.prog 74 #[.int .i64 n, .int .i64 i, hV x, hV y, .slice aa4 nn4 cc4, .slice aa5 nn5 cc5] w fun e w' => ∃ a1 c1 a2 c2, e = .returned (.tuple #[.agg #[.slice a1 (Go.Au.brA (Go.Au.brk n i x y p q)).length c1, .slice a2 (Go.Au.brB (Go.Au.brk n i x y p q)).length c2], .bool (Go.Au.brk n i x y p q).isSome]) ∧ Rd (F.ext H w.heap.size w') (.slice a1 (Go.Au.brA (Go.Au.brk n i x y p q)).length c1) (Go.Au.brA (Go.Au.brk n i x y p q)).length 1 ((Go.Au.brA (Go.Au.brk n i x y p q)).map bV) ∧ Rd (F.ext H w.heap.size w') (.slice a2 (Go.Au.brB (Go.Au.brk n i x y p q)).length c2) (Go.Au.brB (Go.Au.brk n i x y p q)).length 1 ((Go.Au.brB (Go.Au.brk n i x y p q)).map bV) ∧ Below w.heap.size w w' := by
  obtain rfl : nn4 = p.length := hp.len
  have hpcap : p.length ≤ cc4 := hp.2.capOf
  obtain rfl : nn5 = q.length := hq.len
  have hqcap : q.length ≤ cc5 := hq.2.capOf
  refine enter6 _ Tryd.func74 rfl Tryd.ntmps74 Tryd.results74 rfl ?_
  have S0 := St.start w hH
  refine W_seq ?_
  refine W_region ?_
  refine T_boxS S0 (fun _ _ => trivial) rfl rfl rfl rfl rfl rfl fun b1 w2 S3 => ?_
  refine T_boxS S3 (fun _ _ => trivial) rfl rfl rfl rfl rfl rfl fun b4 w5 S6 => ?_
  refine T_allocS S6 (fun _ _ => trivial) rfl rfl rfl rfl rfl rfl rfl fun b7 w8 S9 => ?_
  refine T_pev rfl rfl rfl rfl ?_
  refine T_nil ?_
  refine W_seq ?_
  refine W_region ?_
  refine T_pev rfl rfl rfl rfl ?_
  refine T_pev rfl rfl rfl rfl ?_
  refine T_loadFS 2 S9 rfl rfl rfl rfl rfl rfl rfl rfl rfl (hVs hx) ?_
  refine T_pev rfl rfl rfl rfl ?_
  refine T_callS rfl rfl g_aumbry_tree_way rfl rfl rfl rfl ((way_ok S9.le hT n i hx hp).mono ?_)
  rintro e w15 ⟨a10, c11, hc12, rfl, hr13, hB14⟩
  obtain ⟨G17, eG19⟩ : ∃ G, G = F.ext H w8.heap.size w15 := ⟨_, rfl⟩
  obtain ⟨hl18, S16⟩ := S9.ext hB14
  rw [← eG19] at hl18 S16 hr13
  refine ⟨_, rfl, trivial, ?_⟩
  refine T_pev rfl rfl rfl rfl ?_
  refine T_pev rfl rfl rfl rfl ?_
  refine T_pev rfl rfl rfl rfl ?_
  refine T_pev rfl rfl rfl rfl ?_
  refine T_allocS S16 (fun _ _ => trivial) rfl rfl rfl rfl rfl rfl rfl fun b20 w21 S22 => ?_
  refine T_pev rfl rfl rfl rfl ?_
  refine T_storeFS 0 S22 (fun _ _ => trivial) rfl rfl rfl rfl rfl rfl rfl rfl rfl (hVs (Go.Au.climbH_len _ _ hx _)) (hVs (Go.Au.climbH_len _ _ hx _)) (one_hA _) fun w23 S24 => ?_
  refine T_pev rfl rfl rfl rfl ?_
  refine T_nil ?_
  refine W_seq ?_
  refine W_region ?_
  refine T_pev rfl rfl rfl rfl ?_
  refine T_pev rfl rfl rfl rfl ?_
  refine T_loadFS 2 S24 rfl rfl rfl rfl rfl rfl rfl rfl rfl (hVs hy) ?_
  refine T_pev rfl rfl rfl rfl ?_
  refine T_callS rfl rfl g_aumbry_tree_way rfl rfl rfl rfl ((way_ok S24.le (hT.mono hl18) n i hy (hq.mono hl18)).mono ?_)
  rintro e w30 ⟨a25, c26, hc27, rfl, hr28, hB29⟩
  obtain ⟨G32, eG34⟩ : ∃ G, G = F.ext G17 w23.heap.size w30 := ⟨_, rfl⟩
  obtain ⟨hl33, S31⟩ := S24.ext hB29
  rw [← eG34] at hl33 S31 hr28
  refine ⟨_, rfl, trivial, ?_⟩
  refine T_pev rfl rfl rfl rfl ?_
  refine T_pev rfl rfl rfl rfl ?_
  refine T_pev rfl rfl rfl rfl ?_
  refine T_pev rfl rfl rfl rfl ?_
  refine T_allocS S31 (fun _ _ => trivial) rfl rfl rfl rfl rfl rfl rfl fun b35 w36 S37 => ?_
  refine T_pev rfl rfl rfl rfl ?_
  refine T_storeFS 0 S37 (fun _ _ => trivial) rfl rfl rfl rfl rfl rfl rfl rfl rfl (hVs (Go.Au.climbH_len _ _ hy _)) (hVs (Go.Au.climbH_len _ _ hy _)) (one_hA _) fun w38 S39 => ?_
  refine T_pev rfl rfl rfl rfl ?_
  refine T_nil ?_
  refine W_seq ?_
  refine W_seq ?_
  refine W_region ?_
  refine T_pev rfl rfl rfl rfl ?_
  refine T_pev rfl rfl rfl rfl ?_
  refine T_pev rfl rfl rfl rfl ?_
  refine T_part (t := 41) rfl (List.cons_ne_nil _ _) (fun h40' => ?_) (fun h40' => ?_)
  · have h40 := h40'
    refine T_no rfl rfl rfl rfl rfl rfl ?_
    refine T_no rfl rfl rfl rfl rfl rfl ?_
    refine T_pev rfl rfl rfl rfl ?_
    refine T_pev rfl rfl rfl rfl ?_
    refine T_no rfl rfl rfl rfl rfl rfl ?_
    refine T_no rfl rfl rfl rfl rfl rfl ?_
    refine T_no rfl rfl rfl rfl rfl rfl ?_
    refine T_pev rfl rfl rfl rfl ?_
    refine T_nil ?_
    refine W_cond_true rfl ?_
    refine W_seq ?_
    refine W_region ?_
    refine T_buildS (cells := #[.slice none 0 0, .slice none 0 0]) rfl rfl rfl rfl rfl rfl rfl rfl rfl rfl ?_
    refine T_storeFS 2 S39 (fun _ _ => trivial) rfl rfl rfl rfl rfl rfl rfl rfl rfl (by first | rfl | simp [hVs, *]) (by first | rfl | simp [hVs, *]) (one_all rfl) fun w41 S42 => ?_
    refine T_pev rfl rfl rfl rfl ?_
    refine T_nil ?_
    refine W_ret ?_
    refine ⟨_, ⟨_, _, _, rfl, rfl, run_loadVarA rfl rfl (by first | rfl | simp [hVs, *]) (S42.cells 2 rfl), ⟨_, _, rfl, rfl, rfl⟩⟩, ?_⟩
    have hno : (Go.Au.brk n i x y p q) = none := Go.Au.brk_no1 (by simpa using h40)
    rw [hno]
    exact ⟨none, 0, none, 0, rfl, nilB _, nilB _, S42.below⟩
  have h40 := h40'
  refine T_yes rfl rfl rfl ?_ rfl
  refine T_pev rfl rfl rfl rfl ?_
  refine T_yes rfl rfl rfl ?_ rfl
  refine T_pev rfl rfl rfl rfl ?_
  refine T_pev rfl rfl rfl rfl ?_
  refine T_pev rfl rfl rfl rfl ?_
  refine T_part (t := 45) rfl (List.cons_ne_nil _ _) (fun h43' => ?_) (fun h43' => ?_)
  · have h43 := h43'
    refine T_no rfl rfl rfl rfl rfl rfl ?_
    refine T_no rfl rfl rfl rfl rfl rfl ?_
    refine T_no rfl rfl rfl rfl rfl rfl ?_
    refine T_pev rfl rfl rfl rfl ?_
    refine T_nil ?_
    refine W_cond_true rfl ?_
    refine W_seq ?_
    refine W_region ?_
    refine T_buildS (cells := #[.slice none 0 0, .slice none 0 0]) rfl rfl rfl rfl rfl rfl rfl rfl rfl rfl ?_
    refine T_storeFS 2 S39 (fun _ _ => trivial) rfl rfl rfl rfl rfl rfl rfl rfl rfl (by first | rfl | simp [hVs, *]) (by first | rfl | simp [hVs, *]) (one_all rfl) fun w44 S45 => ?_
    refine T_pev rfl rfl rfl rfl ?_
    refine T_nil ?_
    refine W_ret ?_
    refine ⟨_, ⟨_, _, _, rfl, rfl, run_loadVarA rfl rfl (by first | rfl | simp [hVs, *]) (S45.cells 2 rfl), ⟨_, _, rfl, rfl, rfl⟩⟩, ?_⟩
    have hno : (Go.Au.brk n i x y p q) = none := Go.Au.brk_no2 (by simpa using h43)
    rw [hno]
    exact ⟨none, 0, none, 0, rfl, nilB _, nilB _, S45.below⟩
  have h43 := h43'
  refine T_yes rfl rfl rfl ?_ rfl
  refine T_loadFS 1 S39 rfl rfl rfl rfl rfl rfl rfl rfl rfl (hVs (Go.Au.climbH_len _ _ hx _)) ?_
  refine T_yes rfl rfl rfl ?_ rfl
  refine T_loadFS 0 S39 rfl rfl rfl rfl rfl rfl rfl rfl rfl (hVs (Go.Au.climbH_len _ _ hy _)) ?_
  refine T_yes rfl rfl rfl ?_ rfl
  refine T_neB (xs := Go.Au.climbH n i x p) (ys := Go.Au.climbH n i y q) rfl rfl rfl rfl rfl rfl rfl rfl rfl rfl rfl (Go.Au.climbH_len _ _ hx _) (Go.Au.climbH_len _ _ hy _) ?_
  refine T_pev rfl rfl rfl rfl ?_
  refine T_nil ?_
  refine W_cond_not rfl (fun h46 => ?_) (fun h46 => ?_)
  · refine W_seq ?_
    refine W_region ?_
    refine T_buildS (cells := #[.slice none 0 0, .slice none 0 0]) rfl rfl rfl rfl rfl rfl rfl rfl rfl rfl ?_
    refine T_storeFS 2 S39 (fun _ _ => trivial) rfl rfl rfl rfl rfl rfl rfl rfl rfl (by first | rfl | simp [hVs, *]) (by first | rfl | simp [hVs, *]) (one_all rfl) fun w47 S48 => ?_
    refine T_pev rfl rfl rfl rfl ?_
    refine T_nil ?_
    refine W_ret ?_
    refine ⟨_, ⟨_, _, _, rfl, rfl, run_loadVarA rfl rfl (by first | rfl | simp [hVs, *]) (S48.cells 2 rfl), ⟨_, _, rfl, rfl, rfl⟩⟩, ?_⟩
    have hno : (Go.Au.brk n i x y p q) = none := Go.Au.brk_no3 h46
    rw [hno]
    exact ⟨none, 0, none, 0, rfl, nilB _, nilB _, S48.below⟩
  refine W_skip ?_
  refine W_seq ?_
  refine W_seq ?_
  refine W_region ?_
  have hok1 : Go.Au.okW n i p.length = true := by simpa using h40
  have hok2 : Go.Au.okW n i q.length = true := by simpa using h43
  have hcl : Go.Au.climbH n i x p = Go.Au.climbH n i y q := by simpa using h46
  have hXl := Go.Au.waysH_len (x := x) hok1
  have hYl := Go.Au.waysH_len (x := y) hok2
  have hO1 := Go.Au.okW_of hok1
  have hO2 := Go.Au.okW_of hok2
  have hlg := Go.Au.lg_le (n := n.toNat) (m := 8) (by omega)
  refine T_pev rfl rfl rfl rfl ?_
  refine T_pev rfl rfl rfl rfl ?_
  refine T_ari rfl rfl rfl rfl (by omega) ?_
  refine T_pev rfl rfl rfl rfl ?_
  refine T_nil ?_
  refine W_block ?_
  refine W_loop (fun M ρ w' => ∃ (k : Nat) (G49 : Hp), M = 1 + k ∧ k ≤ p.length ∧ Go.Au.lastNe (Go.Au.waysH n i x p) (Go.Au.waysH n i y q) p.length = Go.Au.lastNe (Go.Au.waysH n i x p) (Go.Au.waysH n i y q) k ∧ ρ = [(12, .pointer (some ⟨b7, 0, none⟩)), (14, .slice a10 (Go.Au.waysH n i x p).length c11), (17, .slice a25 (Go.Au.waysH n i y q).length c26), (20, .int .i64 (((k : Nat) : Int) - 1))] ∧ G32.le G49 ∧ St w H G49 [.blk b35 (hV (Go.Au.climbH n i y q) : Value).cells 26, .blk b20 (hV (Go.Au.climbH n i x p) : Value).cells 26, .blk b7 (.agg #[.slice none 0 0, .slice none 0 0] : Value).cells 34, .blk b4 (hV y : Value).cells 26, .blk b1 (hV x : Value).cells 26] w')
    (1 + p.length) [(12, .pointer (some ⟨b7, 0, none⟩)), (14, .slice a10 (Go.Au.waysH n i x p).length c11), (17, .slice a25 (Go.Au.waysH n i y q).length c26), (20, .int .i64 (((p.length : Nat) : Int) - 1))] ⟨rfl, rfl, rfl, (congrArg (fun z => some (Value.int .i64 z)) (by omega)), trivial⟩ ⟨p.length, G32, rfl, (by omega), (by rfl), rfl, Hp.le.refl _, S39⟩ ?_
  rintro M ρ w51 ⟨k, G49, rfl, hp53, hinv, rfl, hl50, S52⟩
  refine W_seq ?_
  refine W_seq ?_
  refine W_region ?_
  refine T_pev rfl rfl rfl rfl ?_
  refine T_pev rfl rfl rfl rfl ?_
  refine T_nil ?_
  refine W_cond_dec rfl (fun h55 => ?_) (fun h55 => ?_)
  · refine W_skip ?_
    refine W_seq ?_
    refine W_block ?_
    refine W_seq ?_
    refine W_draw rfl (by kernel_rfl) ?_
    have S56 := S52.drew
    obtain ⟨j, rfl⟩ : ∃ j, k = j + 1 := ⟨k - 1, by omega⟩
    refine T_pev rfl rfl rfl rfl ?_
    refine T_pev rfl rfl rfl rfl ?_
    refine T_idxR j (hr13.mono (hl33.trans hl50)).2 rfl rfl rfl rfl rfl rfl rfl rfl rfl (by omega) (by omega) fun b57 o58 hc59 => ?_
    have hc60 := cells_h (hr13.mono (hl33.trans hl50)).1 j (by omega) hc59
    have hl61 := len_h (hr13.mono (hl33.trans hl50)).1 j (by omega)
    refine T_loadGA _ S56 hc60 rfl rfl rfl rfl rfl rfl rfl rfl (hVs hl61) ?_
    refine T_pev rfl rfl rfl rfl ?_
    refine T_pev rfl rfl rfl rfl ?_
    refine T_idxR j (hr28.mono hl50).2 rfl rfl rfl rfl rfl rfl rfl rfl rfl (by omega) (by omega) fun b62 o63 hc64 => ?_
    have hc65 := cells_h (hr28.mono hl50).1 j (by omega) hc64
    have hl66 := len_h (hr28.mono hl50).1 j (by omega)
    refine T_loadGA _ S56 hc65 rfl rfl rfl rfl rfl rfl rfl rfl (hVs hl66) ?_
    refine T_neP (len := 32) (xs := (Go.Au.waysH n i x p).getD j []) (ys := (Go.Au.waysH n i y q).getD j []) rfl rfl rfl rfl rfl rfl rfl rfl rfl rfl rfl rfl rfl rfl rfl hl61 hl66 ?_
    refine T_nil ?_
    refine W_cond_not rfl (fun h67 => ?_) (fun h67 => ?_)
    · refine W_seq ?_
      refine W_draw rfl (by kernel_rfl) ?_
      have S68 := S56.drew
      refine T_pev rfl rfl rfl rfl ?_
      refine T_pev rfl rfl rfl rfl ?_
      refine T_idxR j (hr13.mono (hl33.trans hl50)).2 rfl rfl rfl rfl rfl rfl rfl rfl rfl (by omega) (by omega) fun b69 o70 hc71 => ?_
      have hc72 := cells_h (hr13.mono (hl33.trans hl50)).1 j (by omega) hc71
      have hl73 := len_h (hr13.mono (hl33.trans hl50)).1 j (by omega)
      refine T_loadGA _ S68 hc72 rfl rfl rfl rfl rfl rfl rfl rfl (hVs hl73) ?_
      refine T_pev rfl rfl rfl rfl ?_
      refine T_pev rfl rfl rfl rfl ?_
      refine T_idxR j (hr28.mono hl50).2 rfl rfl rfl rfl rfl rfl rfl rfl rfl (by omega) (by omega) fun b74 o75 hc76 => ?_
      have hc77 := cells_h (hr28.mono hl50).1 j (by omega) hc76
      have hl78 := len_h (hr28.mono hl50).1 j (by omega)
      refine T_loadGA _ S68 hc77 rfl rfl rfl rfl rfl rfl rfl rfl (hVs hl78) ?_
      refine T_callS rfl rfl g_aumbry_tree_unlike rfl rfl rfl rfl ((unlike_ok S68.le (hT.mono (hl18.trans (hl33.trans hl50))) hl73 hl78).mono ?_)
      rintro e w86 ⟨a79, c80, a81, c82, rfl, r83, r84, hB85⟩
      obtain ⟨G88, eG90⟩ : ∃ G, G = F.ext G49 w51.drew.drew.heap.size w86 := ⟨_, rfl⟩
      obtain ⟨hl89, S87⟩ := S68.ext hB85
      rw [← eG90] at hl89 S87 r83 r84
      refine ⟨_, rfl, trivial, ?_⟩
      refine T_storeFS 2 S87 (fun _ _ => trivial) rfl rfl rfl rfl rfl rfl rfl rfl rfl (by first | rfl | simp [hVs, *]) (by first | rfl | simp [hVs, *]) (one_all rfl) fun w91 S92 => ?_
      refine T_pev rfl rfl rfl rfl ?_
      refine T_nil ?_
      refine W_ret ?_
      refine ⟨_, ⟨_, _, _, rfl, rfl, run_loadVarA rfl rfl (by first | rfl | simp [hVs, *]) (S92.cells 2 rfl), ⟨_, _, rfl, rfl, rfl⟩⟩, ?_⟩
      have hyes := Go.Au.brk_eq (a := x) (b := y) hok1 hok2 hcl (hinv.trans (Go.Au.lastNe_at h67))
      exact br_end hyes r83 r84 S92.fin S92.below
    refine W_skip ?_
    refine W_region ?_
    refine T_pev rfl rfl rfl rfl ?_
    refine T_ari rfl rfl rfl rfl (by omega) ?_
    refine T_pev rfl rfl rfl rfl ?_
    refine T_nil ?_
    have HEQ := hinv.trans (Go.Au.lastNe_eq h67)
    exact ⟨1 + j, [(12, .pointer (some ⟨b7, 0, none⟩)), (14, .slice a10 (Go.Au.waysH n i x p).length c11), (17, .slice a25 (Go.Au.waysH n i y q).length c26), (20, .int .i64 (((j : Nat) : Int) - 1))], by omega, ⟨rfl, rfl, rfl, (congrArg (fun z => some (Value.int .i64 z)) (by omega)), trivial⟩, j, G49, rfl, (by omega), (by exact HEQ), rfl, hl50, S56⟩
  refine W_exit ?_
  refine W_seq ?_
  refine W_region ?_
  refine T_buildS (cells := #[.slice none 0 0, .slice none 0 0]) rfl rfl rfl rfl rfl rfl rfl rfl rfl rfl ?_
  refine T_storeFS 2 S52 (fun _ _ => trivial) rfl rfl rfl rfl rfl rfl rfl rfl rfl (by first | rfl | simp [hVs, *]) (by first | rfl | simp [hVs, *]) (one_all rfl) fun w93 S94 => ?_
  refine T_pev rfl rfl rfl rfl ?_
  refine T_nil ?_
  refine W_ret ?_
  refine ⟨_, ⟨_, _, _, rfl, rfl, run_loadVarA rfl rfl (by first | rfl | simp [hVs, *]) (S94.cells 2 rfl), ⟨_, _, rfl, rfl, rfl⟩⟩, ?_⟩
  obtain rfl : k = 0 := by omega
  have hno : (Go.Au.brk n i x y p q) = none := Go.Au.brk_eq hok1 hok2 hcl hinv
  rw [hno]
  exact ⟨none, 0, none, 0, rfl, nilB _, nilB _, S94.below⟩



end Go.Proofs.YtbkdncmjfhbafaaDoor
