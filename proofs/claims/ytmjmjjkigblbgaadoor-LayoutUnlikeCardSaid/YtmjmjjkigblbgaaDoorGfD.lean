/- The document's matrix. -/
import Derived.Test.YtmjmjjkigblbgaaDoorGfC
set_option linter.unusedVariables false
set_option linter.unusedSimpArgs false
set_option maxRecDepth 8192
namespace Go.Proofs.YtmjmjjkigblbgaaDoor
open Go Go.F Go.RowKit
open Go.Au

theorem rprod_n {H : Hp} {w : World} (hH : H.le (hw w)) {A : List (List UInt8)} {aa0 : Option Addr} {nn0 cc0 : Nat} (hv : RdL H (.slice aa0 nn0 cc0) A) {B : List (List UInt8)} {aa1 : Option Addr} {nn1 cc1 : Nat} (hu : RdL H (.slice aa1 nn1 cc1) B) (k n : Nat) (hn : A.length = n) (hA : n ≤ 16) (hB : 1 ≤ B.length ∧ B.length ≤ 16) (hk : k ≤ 16) (hax : ∀ x ∈ A, x.length ≤ 16) (hbx : ∀ x ∈ B, x.length = k) :
  Calls Tryd.prog 127 #[.slice aa0 nn0 cc0, .slice aa1 nn1 cc1] w fun e w' => ∃ a c, e = .returned (.slice a n c) ∧ RdL (F.ext H w.heap.size w') (.slice a n c) (prod A B k n) ∧ Below w.heap.size w w' := by
 subst hn
 exact rprod_ok hH hv hu k hA hB hk hax hbx

theorem rmatrix_ok {H : Hp} {w : World} (hH : H.le (hw w)) (k n : Nat) (hk : 1 ≤ k ∧ k ≤ 5) (hn : k ≤ n ∧ n ≤ 16) :
  Calls Tryd.prog 117 #[.int .i64 ((k : Nat) : Int), .int .i64 ((n : Nat) : Int)] w fun e w' => ∃ a c, e = .returned (.slice a n c) ∧ RdL (F.ext H w.heap.size w') (.slice a n c) (prod (vand k n) (invTo (vand k k) k k) k n) ∧ Below w.heap.size w w' := by
 have hvl := vand_len k n
 have hvk := vand_len k k
 have hil := invTo_len (vand k k) k k
 refine enter2 _ Tryd.func117 rfl Tryd.ntmps117 Tryd.results117 rfl ?_
 have S0 := St.start w hH
 refine Wr (Pv (Nr ?_))
 iterate 2 refine Pv ?_
 refine Cs g_aumbry_aumbryref04_Vandermonde ((rvand_ok S0.le n k (by omega) (by omega)).mono ?_)
 rintro e w5 ⟨a1, c2, rfl, r3, hB4⟩
 obtain ⟨G7, eG9⟩ : ∃ G, G = F.ext H w.heap.size w5 := ⟨_, rfl⟩
 obtain ⟨hl8, S6⟩ := S0.ext hB4
 rw [← eG9] at hl8 S6 r3
 refine ⟨_, rfl, trivial, ?_⟩
 refine Pv (Nr ?_)
 iterate 2 refine Pv ?_
 obtain ⟨hs14, r15, r16⟩ := (id r3)
 refine T_sliceR 0 k r15 rfl rfl rfl rfl rfl rfl rfl rfl rfl rfl (bound_of (by omega)) rfl (by omega) (by omega) fun a10 c11 hc12 r13 => ?_
 have r17 := RdL.mk r13 (r16.cut 0 (k - 0))
 have hvt : (((vand k n).drop 0).take (k - 0)) = vand k k := vand_cut (by omega)
 have r22 := r17
 rw [hvt] at r22
 refine Cs g_aumbry_aumbryref04_Inverse ((rinverse_ok (V := vand k k) S6.le r22 k (by omega) (vand_len k k) (vand_el k k) (fun c hc => gauss_piv (by omega) (by omega) hc)).mono ?_)
 rintro e w23 ⟨a18, c19, rfl, r20, hix, hB21⟩
 obtain ⟨G25, eG27⟩ : ∃ G, G = F.ext G7 w5.heap.size w23 := ⟨_, rfl⟩
 obtain ⟨hl26, S24⟩ := S6.ext hB21
 rw [← eG27] at hl26 S24 r20
 refine ⟨_, rfl, trivial, ?_⟩
 iterate 5 refine Pv ?_
 refine Nr ?_
 iterate 2 refine Pv ?_
 refine Cs g_aumbry_aumbryref04_Product ((rprod_n S24.le (r3.mono hl26) r20 k n (vand_len _ _) (by omega) (by rw [invTo_len]; omega) (by omega) (fun x hx => by have := vand_el _ _ x hx; omega) hix).mono ?_)
 rintro e w32 ⟨a28, c29, rfl, r30, hB31⟩
 obtain ⟨G34, eG36⟩ : ∃ G, G = F.ext G25 w23.heap.size w32 := ⟨_, rfl⟩
 obtain ⟨hl35, S33⟩ := S24.ext hB31
 rw [← eG36] at hl35 S33 r30
 refine ⟨_, rfl, trivial, ?_⟩
 refine Pv (T_nil (W_ret ?_))
 refine ⟨_, ⟨_, _, rfl, rfl, rfl⟩, ?_⟩
 
 exact ⟨_, _, rfl, (r30).mono S33.fin, S33.below⟩

end Go.Proofs.YtmjmjjkigblbgaaDoor
