/- The field and matrices of the program: safe, and of what shape. -/
import Derived.Test.YtmjmjjkigblbgaaGreatDoorChecked
import Derived.Test.YtmjmjjkigblbgaaGreatDoorFDoor
set_option linter.unusedVariables false
set_option linter.unusedSimpArgs false
set_option maxRecDepth 8192
namespace Go.Proofs.YtmjmjjkigblbgaaGreatDoor
open Go Go.F Go.RowKit

theorem g_aumbry_gf_twice : goFn Tryz.prog 163 = true := by kernel_rfl
theorem g_aumbry_gf_Add : goFn Tryz.prog 165 = true := by kernel_rfl
theorem g_aumbry_gf_New : goFn Tryz.prog 134 = true := by kernel_rfl
theorem g_aumbry_gf_Field_Pow : goFn Tryz.prog 135 = true := by kernel_rfl
theorem g_aumbry_gf_Field_Inv : goFn Tryz.prog 143 = true := by kernel_rfl
theorem g_aumbry_gf_Field_Mul : goFn Tryz.prog 142 = true := by kernel_rfl
theorem g_aumbry_gf_sum : goFn Tryz.prog 166 = true := by kernel_rfl
theorem g_aumbry_gf_Field_Dot : goFn Tryz.prog 145 = true := by kernel_rfl
theorem g_aumbry_matrix_in : goFn Tryz.prog 133 = true := by kernel_rfl
theorem g_aumbry_matrix_made : goFn Tryz.prog 136 = true := by kernel_rfl
theorem g_aumbry_matrix_Vandermonde_1 : goFn Tryz.prog 137 = true := by kernel_rfl
theorem g_aumbry_matrix_Vandermonde : goFn Tryz.prog 107 = true := by kernel_rfl
theorem g_aumbry_matrix_may : goFn Tryz.prog 138 = true := by kernel_rfl
theorem g_aumbry_matrix_Unit_1 : goFn Tryz.prog 164 = true := by kernel_rfl
theorem g_aumbry_matrix_Unit : goFn Tryz.prog 140 = true := by kernel_rfl
theorem g_aumbry_matrix_column : goFn Tryz.prog 147 = true := by kernel_rfl
theorem g_aumbry_matrix_scale : goFn Tryz.prog 141 = true := by kernel_rfl
theorem g_aumbry_matrix_take : goFn Tryz.prog 144 = true := by kernel_rfl
theorem g_aumbry_matrix_Inverse_1 : goFn Tryz.prog 139 = true := by kernel_rfl
theorem g_aumbry_matrix_Inverse : goFn Tryz.prog 108 = true := by kernel_rfl
theorem g_aumbry_matrix_Mul_1 : goFn Tryz.prog 146 = true := by kernel_rfl
theorem g_aumbry_matrix_Mul : goFn Tryz.prog 109 = true := by kernel_rfl
theorem g_aumbry_rs_New : goFn Tryz.prog 68 = true := by kernel_rfl
theorem gtwice_w {W : World} {H : Hp} {B : Bp} {w : World} (C0 : Wk W H B w) (x : UInt8) :
  Calls Tryz.prog 163 #[bV x] w fun e w' => ∃ B', B.le B' ∧ Wk W H B' w' ∧ ∃ x : UInt8, e = .returned (bV x) := by
 refine enter1 _ Tryz.func163 rfl Tryz.ntmps163 Tryz.results163 rfl (Wr (Pv (T_nil (W_seq (Wr ?_)))))
 refine Pv ?_
 have hb_x := x.toNat_lt
 refine Pv ?_
 refine T_gen8 (wk_wrap _) fun x21 => (Pv (T_nil ?_))
 refine W_cond_not rfl (fun h22 => ?_) (fun h22 => ?_)
 ·refine Wr (Pv ?_)
  have hb_x := x.toNat_lt
  refine T_shl rfl rfl rfl rfl rfl rfl (by omega) ?_
  refine T_gen8 (wk_wrap _) fun x23 => ?_
  have hb_x23 := x23.toNat_lt
  refine Pv ?_
  refine T_gen8 (wk_wrap _) fun x24 => (Pv (T_nil (W_ret ?_)))
  refine ⟨_, ⟨_, _, rfl, rfl, rfl⟩, B, (Bp.le.refl _), C0, ?_⟩
  exact ⟨(x24 : UInt8), rfl⟩
 refine W_skip (Wr (Pv ?_))
 have hb_x := x.toNat_lt
 refine T_shl rfl rfl rfl rfl rfl rfl (by omega) ?_
 refine T_gen8 (wk_wrap _) fun x25 => (Pv (T_nil (W_ret ?_)))
 refine ⟨_, ⟨_, _, rfl, rfl, rfl⟩, B, (Bp.le.refl _), C0, ?_⟩
 exact ⟨(x25 : UInt8), rfl⟩


theorem gadd_w {W : World} {H : Hp} {B : Bp} {w : World} (C0 : Wk W H B w) (x y : UInt8) :
  Calls Tryz.prog 165 #[bV x, bV y] w fun e w' => ∃ B', B.le B' ∧ Wk W H B' w' ∧ ∃ x : UInt8, e = .returned (bV x) := by
 refine enter2 _ Tryz.func165 rfl Tryz.ntmps165 Tryz.results165 rfl (Wr (Pv (Nr ?_)))
 iterate 2 refine Pv ?_
 have hb_x := x.toNat_lt
 have hb_y := y.toNat_lt
 refine Pv ?_
 refine T_gen8 (wk_wrap _) fun x21 => (Pv (T_nil (W_ret ?_)))
 refine ⟨_, ⟨_, _, rfl, rfl, rfl⟩, B, (Bp.le.refl _), C0, ?_⟩
 exact ⟨(x21 : UInt8), rfl⟩


theorem gnew_w {W : World} {H : Hp} {B : Bp} {w : World} (C0 : Wk W H B w)  :
  Calls Tryz.prog 134 #[] w fun e w' => ∃ B', B.le B' ∧ Wk W H B' w' ∧ ∃ b, e = .returned (.pointer (some ⟨b, 0, none⟩)) ∧ GfB B' b := by
 refine enter0 _ Tryz.func134 rfl Tryz.ntmps134 Tryz.results134 (Wr (Pv (Nr ?_)))
 refine T_buildS (cells := gfZ) rfl rfl rfl rfl rfl rfl (by kernel_rfl) rfl rfl rfl ?_
 refine T_boxK C0 (.gf 185) (fun _ => trivial) rfl rfl rfl rfl rfl rfl rfl gfZ_ok fun b21 w26 B23 hl24 hb22 C25 => ?_
 have hb22' : GfB B23 b21 := ⟨_, hb22⟩
 refine Pv (Nr ?_)
 refine Pv (T_nil (W_seq (Wr ?_)))
 refine Pv (T_nil (W_block ?_))
 refine W_loop (fun M ρ w' => ∃ (k : Nat) (x31 : UInt8) (B27 : Bp), M = 255 - k ∧ k ≤ 255 ∧ ρ = [(1, .pointer (some ⟨b21, 0, none⟩)), (2, bV x31), (6, .int .i64 (k : Int))] ∧ B23.le B27 ∧ Wk W H B27 w')
  (255 - 0) [(1, .pointer (some ⟨b21, 0, none⟩)), (2, .int .u8 1), (6, .int .i64 ((0 : Nat) : Int))] ⟨rfl, rfl, ciI, trivial⟩ ⟨0, 1, B23, rfl, (by exact Nat.zero_le _), rfl, Bp.le.refl _, C25⟩ ?_
 rintro M ρ w30 ⟨k, x31, B27, rfl, hp32, rfl, hl28, C29⟩
 refine Wr (Pv (T_nil (W_seq ?_)))
 refine Aa (fun h33 => ?_) (fun h33 => ?_)
 ·refine W_skip (W_seq (W_block (Wr ?_)))
  iterate 2 refine Pv ?_
  refine T_nil (W_seq (W_plan (planW Tryz.prog) rfl (by kernel_rfl) trivial ?_))
  have C34 := C29.drew
  iterate 4 refine Pv ?_
  refine Ar ?_
  iterate 3 refine Pv ?_
  refine Fl 0 ?_
  refine Ab ?_
  refine T_storeFPK (u := x31) C34 (hb22'.mono hl28) (fun _ => trivial) rfl rfl rfl rfl rfl rfl rfl rfl (by omega) fun w35 C36 => ?_
  refine Pv ?_
  refine Fl 0 ?_
  refine Ab ?_
  refine T_storeFPK (u := x31) C36 (hb22'.mono hl28) (fun _ => trivial) rfl rfl rfl rfl rfl rfl rfl rfl (by omega) fun w37 C38 => (Nr ?_)
  iterate 4 refine Pv ?_
  refine Fl 510 ?_
  have hb_x31 := x31.toNat_lt
  refine Ab ?_
  refine T_storeFLK (((x31.toNat : Int)).toNat) k C38 (hb22'.mono hl28) (fun _ => trivial) rfl rfl rfl rfl rfl rfl rfl rfl (by omega) (by omega) (by omega) (by omega) fun w39 C40 => (T_nil (W_region ?_))
  refine Pv ?_
  refine Cw g_aumbry_gf_twice ((gtwice_w C40 x31).mono ?_)
  rintro e w44 ⟨B41, hl42, C43, x45, rfl⟩
  refine ⟨_, rfl, ?_⟩
  refine Pv (T_nil (W_region ?_))
  refine Ar ?_
  refine Pv (T_nil ?_)
  exact ⟨255 - (k + 1), [(1, .pointer (some ⟨b21, 0, none⟩)), (2, bV x45), (6, .int .i64 ((k + 1 : Nat) : Int))], by omega, ⟨rfl, rfl, ciI, trivial⟩, k + 1, x45, B41, rfl, (by omega), rfl, (hl28.trans hl42), C43⟩
 refine W_exit (Wr ?_)
 iterate 2 refine Pv ?_
 refine T_nil (W_ret ?_)
 refine ⟨_, ⟨_, _, rfl, rfl, rfl⟩, B27, (hl24.trans hl28), C29, ?_⟩
 exact ⟨_, rfl, (hb22'.mono hl28)⟩


theorem gpow_w {W : World} {H : Hp} {B : Bp} {w : World} (C0 : Wk W H B w) {fb : Nat} (hf : GfB B fb) (x : UInt8) (k : Int) (hk : -9223372036854775808 ≤ k ∧ k ≤ 9223372036854775807) :
  Calls Tryz.prog 135 #[.pointer (some ⟨fb, 0, none⟩), bV x, .int .i64 k] w fun e w' => ∃ B', B.le B' ∧ Wk W H B' w' ∧ ∃ x : UInt8, e = .returned (bV x) := by
 refine enter3 _ Tryz.func135 rfl Tryz.ntmps135 Tryz.results135 rfl (Wr (Pv (T_nil (W_seq (W_block (Wr ?_))))))
 iterate 3 refine Pv ?_
 refine T_nil (Aa (fun h21 => ?_) (fun h21 => ?_))
 ·refine Wr (Pv (T_nil (W_ret ?_)))
  refine ⟨_, ⟨_, _, rfl, rfl, rfl⟩, B, (Bp.le.refl _), C0, ?_⟩
  exact ⟨(1 : UInt8), rfl⟩
 refine Wr ?_
 iterate 3 refine Pv ?_
 refine T_nil (Aa (fun h22 => ?_) (fun h22 => ?_))
 ·refine Wr (Pv (T_nil (W_ret ?_)))
  refine ⟨_, ⟨_, _, rfl, rfl, rfl⟩, B, (Bp.le.refl _), C0, ?_⟩
  exact ⟨(0 : UInt8), rfl⟩
 refine W_skip (W_seq (W_plan (planW Tryz.prog) rfl (by kernel_rfl) trivial ?_))
 have C23 := C0.drew
 iterate 4 refine Pv ?_
 refine Fl 510 ?_
 have hb_x := x.toNat_lt
 refine Ab ?_
 refine T_loadLK (((x.toNat : Int)).toNat) C23 hf rfl rfl rfl rfl rfl rfl rfl (by omega) (by omega) fun z24 hz25 => ?_
 refine Pv ?_
 refine T_rem rfl rfl rfl rfl rfl rfl (by omega) ?_
 have hm1 : (0 : Int) ≤ ((z24 : Nat) : Int) * (k % 255) := Int.mul_nonneg (by omega) (by omega)
 have hm2 : ((z24 : Nat) : Int) * (k % 255) ≤ 254 * 254 := Int.mul_le_mul (by omega) (by omega) (by omega) (by omega)
 refine Ar ?_
 refine T_rem rfl rfl rfl rfl rfl rfl (by omega) ?_
 refine Pv ?_
 refine Fl 0 ?_
 refine Ab ?_
 refine T_loadPK C23 hf rfl rfl rfl rfl rfl rfl rfl (by omega) fun x26 => ?_
 refine Pv (T_nil (W_ret ?_))
 refine ⟨_, ⟨_, _, rfl, rfl, rfl⟩, B, (Bp.le.refl _), C23, ?_⟩
 exact ⟨(x26 : UInt8), rfl⟩


theorem ginv_w {W : World} {H : Hp} {B : Bp} {w : World} (C0 : Wk W H B w) {fb : Nat} (hf : GfB B fb) (x : UInt8) :
  Calls Tryz.prog 143 #[.pointer (some ⟨fb, 0, none⟩), bV x] w fun e w' => ∃ B', B.le B' ∧ Wk W H B' w' ∧ ∃ x : UInt8, e = .returned (bV x) := by
 refine enter2 _ Tryz.func143 rfl Tryz.ntmps143 Tryz.results143 rfl (Wr (Pv (T_nil (W_seq (Wr ?_)))))
 iterate 2 refine Pv ?_
 refine T_nil (Aa (fun h21 => ?_) (fun h21 => ?_))
 ·refine Wr (Pv (T_nil (W_ret ?_)))
  refine ⟨_, ⟨_, _, rfl, rfl, rfl⟩, B, (Bp.le.refl _), C0, ?_⟩
  exact ⟨(0 : UInt8), rfl⟩
 refine W_skip (W_seq (W_plan (planW Tryz.prog) rfl (by kernel_rfl) trivial ?_))
 have C22 := C0.drew
 iterate 4 refine Pv ?_
 refine Fl 510 ?_
 have hb_x := x.toNat_lt
 refine Ab ?_
 refine T_loadLK (((x.toNat : Int)).toNat) C22 hf rfl rfl rfl rfl rfl rfl rfl (by omega) (by omega) fun z23 hz24 => ?_
 refine Ar ?_
 refine Pv ?_
 refine Fl 0 ?_
 refine Ab ?_
 refine T_loadPK C22 hf rfl rfl rfl rfl rfl rfl rfl (by omega) fun x25 => ?_
 refine Pv (T_nil (W_ret ?_))
 refine ⟨_, ⟨_, _, rfl, rfl, rfl⟩, B, (Bp.le.refl _), C22, ?_⟩
 exact ⟨(x25 : UInt8), rfl⟩


theorem gmul_w {W : World} {H : Hp} {B : Bp} {w : World} (C0 : Wk W H B w) {fb : Nat} (hf : GfB B fb) (x y : UInt8) :
  Calls Tryz.prog 142 #[.pointer (some ⟨fb, 0, none⟩), bV x, bV y] w fun e w' => ∃ B', B.le B' ∧ Wk W H B' w' ∧ ∃ x : UInt8, e = .returned (bV x) := by
 refine enter3 _ Tryz.func142 rfl Tryz.ntmps142 Tryz.results142 rfl (Wr (Pv (T_nil (W_seq (Wr ?_)))))
 iterate 3 refine Pv ?_
 refine Tp 9 (fun h21' => ?_) (fun h21' => ?_)
 ·have h21 := of_decide_eq_true h21'
  iterate 2 refine No ?_
  refine Pv (T_nil ?_)
  refine W_cond_true rfl (Wr (Pv (T_nil (W_ret ?_))))
  refine ⟨_, ⟨_, _, rfl, rfl, rfl⟩, B, (Bp.le.refl _), C0, ?_⟩
  exact ⟨(0 : UInt8), rfl⟩
 have h21 := of_decide_eq_false h21'
 iterate 2 (refine Ys ?_; refine Pv ?_)
 refine Pv (T_nil ?_)
 refine Aa (fun h22 => ?_) (fun h22 => ?_)
 ·refine Wr (Pv (T_nil (W_ret ?_)))
  refine ⟨_, ⟨_, _, rfl, rfl, rfl⟩, B, (Bp.le.refl _), C0, ?_⟩
  exact ⟨(0 : UInt8), rfl⟩
 refine W_skip (W_seq (W_plan (planW Tryz.prog) rfl (by kernel_rfl) trivial ?_))
 have C23 := C0.drew
 iterate 4 refine Pv ?_
 refine Fl 510 ?_
 have hb_x := x.toNat_lt
 refine Ab ?_
 refine T_loadLK (((x.toNat : Int)).toNat) C23 hf rfl rfl rfl rfl rfl rfl rfl (by omega) (by omega) fun z24 hz25 => ?_
 iterate 3 refine Pv ?_
 refine Fl 510 ?_
 have hb_y := y.toNat_lt
 refine Ab ?_
 refine T_loadLK (((y.toNat : Int)).toNat) C23 hf rfl rfl rfl rfl rfl rfl rfl (by omega) (by omega) fun z26 hz27 => ?_
 refine Ar ?_
 refine Pv ?_
 refine Fl 0 ?_
 refine Ab ?_
 refine T_loadPK C23 hf rfl rfl rfl rfl rfl rfl rfl (by omega) fun x28 => ?_
 refine Pv (T_nil (W_ret ?_))
 refine ⟨_, ⟨_, _, rfl, rfl, rfl⟩, B, (Bp.le.refl _), C23, ?_⟩
 exact ⟨(x28 : UInt8), rfl⟩


theorem gsum_w {W : World} {H : Hp} {B : Bp} {w : World} (C0 : Wk W H B w) {fv : Value} (hf : FnB Tryz.prog W H B fv ABB) {a1 : Option Addr} {n c1 : Nat} (h1 : SlB B (.slice a1 n c1) n) {a2 : Option Addr} {m c2 : Nat} (h2 : SlB B (.slice a2 m c2) m) (hn : n ≤ 1000) (hm : m ≤ 1000) :
  Calls Tryz.prog 166 #[fv, .slice a1 n c1, .slice a2 m c2] w fun e w' => ∃ B', B.le B' ∧ Wk W H B' w' ∧ ∃ x : UInt8, e = .returned (bV x) := by
 obtain ⟨fvf, fva, fvc, rfl⟩ := hf.shape
 refine enter3 _ Tryz.func166 rfl Tryz.ntmps166 Tryz.results166 rfl (Wr (Pv (Nr ?_)))
 refine Pv (T_nil (W_seq (Wr ?_)))
 iterate 6 refine Pv ?_
 refine T_nil (W_block ?_)
 refine W_loop (fun M ρ w' => ∃ (k : Nat) (x25 : UInt8) (B21 : Bp), M = (min n m) - k ∧ k ≤ (min n m) ∧ ρ = [(0, .func (.func fvf) fva fvc), (1, .slice a1 n c1), (2, .slice a2 m c2), (7, bV x25), (13, .int .i64 (min ((n : Nat) : Int) ((m : Nat) : Int))), (14, .int .i64 (k : Int))] ∧ B.le B21 ∧ Wk W H B21 w')
  ((min n m) - 0) [(0, .func (.func fvf) fva fvc), (1, .slice a1 n c1), (2, .slice a2 m c2), (7, .int .u8 0), (13, .int .i64 (min ((n : Nat) : Int) ((m : Nat) : Int))), (14, .int .i64 ((0 : Nat) : Int))] ⟨rfl, rfl, rfl, rfl, ciI, ciI, trivial⟩ ⟨0, 0, B, rfl, (by exact Nat.zero_le _), rfl, Bp.le.refl _, C0⟩ ?_
 rintro M ρ w24 ⟨k, x25, B21, rfl, hp26, rfl, hl22, C23⟩
 refine Wr (Pv (T_nil (W_seq ?_)))
 refine Aa (fun h27 => ?_) (fun h27 => ?_)
 ·refine W_skip (W_seq (W_block (Wr ?_)))
  iterate 2 refine Pv ?_
  refine T_nil (W_plan (planW Tryz.prog) rfl (by kernel_rfl) trivial ?_)
  have C28 := C23.drew
  iterate 4 refine Pv ?_
  refine Ao (h1.mono hl22) fun b29 o30 q31 hb32 hq33 => ?_
  refine An C28 hb32 fun x34 => ?_
  iterate 2 refine Pv ?_
  refine Ao (h2.mono hl22) fun b35 o36 q37 hb38 hq39 => ?_
  refine An C28 hb38 fun x40 => ?_
  refine T_callF C28 (hf.mono hl22) (fun _ => trivial) rfl rfl rfl ⟨x34, x40, rfl⟩ rfl rfl rfl rfl fun x41 w45 B42 hl43 C44 => (Cw g_aumbry_gf_Add ((gadd_w C44 x25 x41).mono ?_))
  rintro e w49 ⟨B46, hl47, C48, x50, rfl⟩
  refine ⟨_, rfl, ?_⟩
  refine Pv (T_nil (W_region ?_))
  refine Ar ?_
  refine Pv (T_nil ?_)
  exact ⟨(min n m) - (k + 1), [(0, .func (.func fvf) fva fvc), (1, .slice a1 n c1), (2, .slice a2 m c2), (7, bV x50), (13, .int .i64 (min ((n : Nat) : Int) ((m : Nat) : Int))), (14, .int .i64 ((k + 1 : Nat) : Int))], by omega, ⟨rfl, rfl, rfl, rfl, ciI, ciI, trivial⟩, k + 1, x50, B46, rfl, (by omega), rfl, (hl22.trans (hl43.trans hl47)), C48⟩
 refine W_exit (Wr ?_)
 iterate 2 refine Pv ?_
 refine T_nil (W_ret ?_)
 refine ⟨_, ⟨_, _, rfl, rfl, rfl⟩, B21, hl22, C23, ?_⟩
 exact ⟨(x25 : UInt8), rfl⟩


theorem gdot_w {W : World} {H : Hp} {B : Bp} {w : World} (C0 : Wk W H B w) {fb : Nat} (hf : GfB B fb) {a1 : Option Addr} {n c1 : Nat} (h1 : SlB B (.slice a1 n c1) n) {a2 : Option Addr} {m c2 : Nat} (h2 : SlB B (.slice a2 m c2) m) (hn : n ≤ 1000) (hm : m ≤ 1000) :
  Calls Tryz.prog 145 #[.pointer (some ⟨fb, 0, none⟩), .slice a1 n c1, .slice a2 m c2] w fun e w' => ∃ B', B.le B' ∧ Wk W H B' w' ∧ ∃ x : UInt8, e = .returned (bV x) := by
 refine enter3 _ Tryz.func145 rfl Tryz.ntmps145 Tryz.results145 rfl (Wr (Pv (Nr ?_)))
 refine Pv ?_
 refine T_makeF rfl rfl rfl rfl rfl rfl ?_
 have hf21 : FnB Tryz.prog W H B (.func (.func 142) #[.pointer (some ⟨fb, 0, none⟩)] #[]) ABB := ⟨_, [.pointer (some ⟨fb, 0, none⟩)], [], rfl, g_aumbry_gf_Field_Mul, fun B1 w1 hl C1 args hA => by obtain ⟨x, y, rfl⟩ := hA; exact gmul_w C1 (hf.mono hl) x y⟩
 iterate 2 refine Pv ?_
 refine Cw g_aumbry_gf_sum ((gsum_w C0 hf21 h1 h2 (by omega) (by omega)).mono ?_)
 rintro e w25 ⟨B22, hl23, C24, x26, rfl⟩
 refine ⟨_, rfl, ?_⟩
 refine Pv (T_nil (W_ret ?_))
 refine ⟨_, ⟨_, _, rfl, rfl, rfl⟩, B22, hl23, C24, ?_⟩
 exact ⟨(x26 : UInt8), rfl⟩


theorem min_w {W : World} {H : Hp} {B : Bp} {w : World} (C0 : Wk W H B w) (z : Int) :
  Calls Tryz.prog 133 #[.int .i64 z] w fun e w' => ∃ B', B.le B' ∧ Wk W H B' w' ∧ e = .returned (.bool (decide (1 ≤ z ∧ z ≤ 16))) := by
 refine enter1 _ Tryz.func133 rfl Tryz.ntmps133 Tryz.results133 rfl (Wr (Pv (Nr ?_)))
 iterate 3 refine Pv ?_
 refine Tp 5 (fun h21' => ?_) (fun h21' => ?_)
 ·have h21 := of_decide_eq_true h21'
  iterate 2 (refine Ys ?_; refine Pv ?_)
  iterate 2 refine Pv ?_
  refine T_nil (W_ret ?_)
  refine ⟨_, ⟨_, _, rfl, rfl, rfl⟩, B, (Bp.le.refl _), C0, ?_⟩
  first | exact congrArg (fun q => Ending.returned (Value.bool q)) (decide_eq_true (by omega)).symm | exact congrArg (fun q => Ending.returned (Value.bool q)) (decide_eq_false (by omega)).symm | exact congrArg (fun q => Ending.returned (Value.bool q)) (decide_eq_decide.2 (by omega))
 have h21 := of_decide_eq_false h21'
 iterate 2 refine No ?_
 iterate 2 refine Pv ?_
 refine T_nil (W_ret ?_)
 refine ⟨_, ⟨_, _, rfl, rfl, rfl⟩, B, (Bp.le.refl _), C0, ?_⟩
 first | exact congrArg (fun q => Ending.returned (Value.bool q)) (decide_eq_true (by omega)).symm | exact congrArg (fun q => Ending.returned (Value.bool q)) (decide_eq_false (by omega)).symm | exact congrArg (fun q => Ending.returned (Value.bool q)) (decide_eq_decide.2 (by omega))


theorem made_w {W : World} {H : Hp} {B : Bp} {w : World} (C0 : Wk W H B w) (n m : Nat) {fv : Value} (hf : FnB Tryz.prog W H B fv (AIJ n m)) (hn : n ≤ 16) (hm : m ≤ 16) :
  Calls Tryz.prog 136 #[.int .i64 ((n : Nat) : Int), .int .i64 ((m : Nat) : Int), fv] w fun e w' => ∃ B', B.le B' ∧ Wk W H B' w' ∧ ∃ a c, e = .returned (.slice a n c) ∧ RoB B' (.slice a n c) n m := by
 obtain ⟨fvf, fva, fvc, rfl⟩ := hf.shape
 refine enter3 _ Tryz.func136 rfl Tryz.ntmps136 Tryz.results136 rfl (Wr (Pv (Nr ?_)))
 refine Pv ?_
 refine T_makeKR C0 n m (fun _ => trivial) rfl rfl rfl rfl rfl rfl rfl rfl rfl rfl rfl (by omega) (by omega) (by show 24 * _ ≤ _; omega) (by unfold maxLen; omega) fun b21 w27 B24 hl25 hb22 C26 => ?_
 have hr23 : RpB B24 b21 n m (fun i => i < 0) := ⟨_, _, hb22, fun i hi => absurd hi (Nat.not_lt_zero _)⟩
 refine Pv (T_nil (W_seq (Wr ?_)))
 iterate 3 refine Pv ?_
 refine T_nil (W_block ?_)
 refine W_loop (fun M ρ w' => ∃ (k : Nat) (B28 : Bp), M = n - k ∧ k ≤ n ∧ ρ = [(1, .int .i64 ((m : Nat) : Int)), (2, .func (.func fvf) fva fvc), (7, .slice (some ⟨b21, 0, none⟩) n n), (13, .int .i64 ((n : Nat) : Int)), (14, .int .i64 (k : Int))] ∧ B24.le B28 ∧ Wk W H B28 w' ∧ RpB B28 b21 n m (fun i => i < k))
  (n - 0) [(1, .int .i64 ((m : Nat) : Int)), (2, .func (.func fvf) fva fvc), (7, .slice (some ⟨b21, 0, none⟩) n n), (13, .int .i64 ((n : Nat) : Int)), (14, .int .i64 ((0 : Nat) : Int))] ⟨ciI, rfl, rfl, ciI, ciI, trivial⟩ ⟨0, B24, rfl, (by exact Nat.zero_le _), rfl, Bp.le.refl _, C26, (RpB.sub hr23 (fun i hi => by omega))⟩ ?_
 rintro M ρ w31 ⟨k, B28, rfl, hp33, rfl, hl29, C30, hr32⟩
 refine Wr (Pv (T_nil (W_seq ?_)))
 refine Aa (fun h34 => ?_) (fun h34 => ?_)
 ·refine W_skip (W_seq (W_block (Wr ?_)))
  iterate 2 refine Pv ?_
  refine Nr ?_
  iterate 3 refine Pv ?_
  refine T_makeK C30 m (fun _ => trivial) rfl rfl rfl rfl rfl rfl rfl rfl rfl rfl rfl (by omega) (by omega) (by show 1 * _ ≤ _; omega) (by unfold maxLen; omega) fun b35 w40 B37 hl38 r36 C39 => ?_
  refine Ai (hm := by show 0 + Int.toNat _ * 1 = _; omega) k ?_
  refine T_storePK C39 (hr32.mono hl38) (r36).sl (fun _ => trivial) rfl rfl rfl rfl rfl rfl rfl rfl (by omega) fun w45 B42 hl43 hr41 C44 => (Nr ?_)
  iterate 2 refine Pv ?_
  refine Ai (hm := by show 0 + Int.toNat _ * 1 = _; omega) k ?_
  refine T_loadWK C44 ((hr41).at (i := k) (by omega) (by omega)) rfl rfl rfl rfl rfl rfl rfl fun a46 c47 r48 => ?_
  iterate 2 refine Pv ?_
  refine T_nil (W_block ?_)
  refine W_loop (fun M ρ w' => ∃ (j : Nat) (B49 : Bp), M = m - j ∧ j ≤ m ∧ ρ = [(1, .int .i64 ((m : Nat) : Int)), (2, .func (.func fvf) fva fvc), (7, .slice (some ⟨b21, 0, none⟩) n n), (8, .int .i64 (k : Int)), (13, .int .i64 ((n : Nat) : Int)), (14, .int .i64 (k : Int)), (26, .int .i64 ((m : Nat) : Int)), (27, .int .i64 (j : Int))] ∧ B42.le B49 ∧ Wk W H B49 w')
   (m - 0) [(1, .int .i64 ((m : Nat) : Int)), (2, .func (.func fvf) fva fvc), (7, .slice (some ⟨b21, 0, none⟩) n n), (8, .int .i64 (k : Int)), (13, .int .i64 ((n : Nat) : Int)), (14, .int .i64 (k : Int)), (26, .int .i64 ((m : Nat) : Int)), (27, .int .i64 ((0 : Nat) : Int))] ⟨ciI, rfl, rfl, ciI, ciI, ciI, ciI, ciI, trivial⟩ ⟨0, B42, rfl, (by exact Nat.zero_le _), rfl, Bp.le.refl _, C44⟩ ?_
  rintro M ρ w52 ⟨j, B49, rfl, hp53, rfl, hl50, C51⟩
  refine Wr (Pv (T_nil (W_seq ?_)))
  refine Aa (fun h54 => ?_) (fun h54 => ?_)
  ·refine W_skip (W_seq (W_block (Wr ?_)))
   iterate 2 refine Pv ?_
   refine T_nil (W_tree (planW Tryz.prog) (.step 0 (.step 1 (.step 2 (.step 4 (.step 5 (.step 6 (.step 7 (.fork 3 8 (.step 8 (.step 9 (.step 10 .done))) (.step 3 (.step 9 (.step 10 .done))))))))))) rfl (by kernel_rfl) trivial ?_)
   have C55 := C51.drew
   iterate 2 (refine TT_step rfl ?_; refine Pv ?_; refine T_nil ?_)
   refine TT_step rfl (Ai (hm := by show 0 + Int.toNat _ * 1 = _; omega) k ?_)
   iterate 4 (refine T_nil ?_; refine TT_step rfl ?_; refine Pv ?_)
   refine T_nil (TT_fork rfl rfl ?_ ?_)
   ·refine T_loadWK C55 (((hr41.mono hl50)).at (i := k) (by omega) (by omega)) rfl rfl rfl rfl rfl rfl rfl fun a56 c57 r58 => ?_
    refine Nt rfl (T_callF C55 (hf.mono (hl25.trans (hl29.trans (hl38.trans (hl43.trans hl50))))) (fun _ => trivial) rfl rfl rfl ⟨k, j, by omega, by omega, rfl⟩ rfl rfl rfl rfl fun x59 w63 B60 hl61 C62 => ?_)
    refine Nt rfl (Ao (r58.mono hl61) fun b64 o65 q66 hb67 hq68 => ?_)
    refine Nt rfl (T_store1K (u := x59) C62 hb67 (fun _ => trivial) rfl rfl rfl rfl rfl rfl rfl rfl (by omega) fun w69 C70 => (T_nil (TT_done (W_region ?_))))
    refine Ar ?_
    refine Pv (T_nil ?_)
    exact ⟨m - (j + 1), [(1, .int .i64 ((m : Nat) : Int)), (2, .func (.func fvf) fva fvc), (7, .slice (some ⟨b21, 0, none⟩) n n), (8, .int .i64 (k : Int)), (13, .int .i64 ((n : Nat) : Int)), (14, .int .i64 (k : Int)), (26, .int .i64 ((m : Nat) : Int)), (27, .int .i64 ((j + 1 : Nat) : Int))], by omega, ⟨ciI, rfl, rfl, ciI, ciI, ciI, ciI, ciI, trivial⟩, j + 1, B60, rfl, (by omega), rfl, (hl50.trans hl61), C70⟩
   refine T_callF C55 (hf.mono (hl25.trans (hl29.trans (hl38.trans (hl43.trans hl50))))) (fun _ => trivial) rfl rfl rfl ⟨k, j, by omega, by omega, rfl⟩ rfl rfl rfl rfl fun x71 w75 B72 hl73 C74 => ?_
   refine Nt rfl (T_loadWK C74 (((hr41.mono (hl50.trans hl73))).at (i := k) (by omega) (by omega)) rfl rfl rfl rfl rfl rfl rfl fun a76 c77 r78 => ?_)
   refine Nt rfl (Ao r78 fun b79 o80 q81 hb82 hq83 => ?_)
   refine Nt rfl (T_store1K (u := x71) C74 hb82 (fun _ => trivial) rfl rfl rfl rfl rfl rfl rfl rfl (by omega) fun w84 C85 => (T_nil (TT_done (W_region ?_))))
   refine Ar ?_
   refine Pv (T_nil ?_)
   exact ⟨m - (j + 1), [(1, .int .i64 ((m : Nat) : Int)), (2, .func (.func fvf) fva fvc), (7, .slice (some ⟨b21, 0, none⟩) n n), (8, .int .i64 (k : Int)), (13, .int .i64 ((n : Nat) : Int)), (14, .int .i64 (k : Int)), (26, .int .i64 ((m : Nat) : Int)), (27, .int .i64 ((j + 1 : Nat) : Int))], by omega, ⟨ciI, rfl, rfl, ciI, ciI, ciI, ciI, ciI, trivial⟩, j + 1, B72, rfl, (by omega), rfl, (hl50.trans hl73), C85⟩
  refine W_exit (W_region (Ar ?_))
  refine Pv (T_nil ?_)
  exact ⟨n - (k + 1), [(1, .int .i64 ((m : Nat) : Int)), (2, .func (.func fvf) fva fvc), (7, .slice (some ⟨b21, 0, none⟩) n n), (13, .int .i64 ((n : Nat) : Int)), (14, .int .i64 ((k + 1 : Nat) : Int))], by omega, ⟨ciI, rfl, rfl, ciI, ciI, trivial⟩, k + 1, B49, rfl, (by omega), rfl, (hl29.trans (hl38.trans (hl43.trans hl50))), C51, (RpB.sub (hr41.mono hl50) (fun i hi => by omega))⟩
 refine W_exit (Wr ?_)
 iterate 2 refine Pv ?_
 refine T_nil (W_ret ?_)
 refine ⟨_, ⟨_, _, rfl, rfl, rfl⟩, B28, (hl25.trans hl29), C30, ?_⟩
 exact ⟨_, _, rfl, (hr32).full (fun i hi => by omega)⟩


theorem vand1_w {W : World} {H : Hp} {B : Bp} {w : World} (C0 : Wk W H B w) (i j : Nat) {pb : Nat} {pv : Value} (hp : VaB B pb pv) (hf : FnB Tryz.prog W H B pv ABI) (hi : i < 16) (hj : j < 16) :
  Calls Tryz.prog 137 #[.int .i64 ((i : Nat) : Int), .int .i64 ((j : Nat) : Int), .pointer (some ⟨pb, 0, none⟩)] w fun e w' => ∃ B', B.le B' ∧ Wk W H B' w' ∧ ∃ x : UInt8, e = .returned (bV x) := by
 obtain ⟨pvf, pva, pvc, rfl⟩ := hf.shape
 refine enter3 _ Tryz.func137 rfl Tryz.ntmps137 Tryz.results137 rfl (Wr (Pv (Nr ?_)))
 refine T_loadVK C0 hp rfl rfl rfl rfl rfl rfl rfl ?_
 iterate 2 refine Pv ?_
 refine T_gen8 (wk_wrap _) fun x21 => (Pv ?_)
 refine T_callF C0 hf (fun _ => trivial) rfl rfl rfl ⟨x21, ((j : Nat) : Int), rfl, by omega, by omega⟩ rfl rfl rfl rfl fun x22 w26 B23 hl24 C25 => ?_
 refine Pv (T_nil (W_ret ?_))
 refine ⟨_, ⟨_, _, rfl, rfl, rfl⟩, B23, hl24, C25, ?_⟩
 exact ⟨(x22 : UInt8), rfl⟩


theorem vand_w {W : World} {H : Hp} {B : Bp} {w : World} (C0 : Wk W H B w) (n k : Nat) (hn : 1 ≤ n ∧ n ≤ 16) (hk : 1 ≤ k ∧ k ≤ 16) :
  Calls Tryz.prog 107 #[.int .i64 ((n : Nat) : Int), .int .i64 ((k : Nat) : Int)] w fun e w' => ∃ B', B.le B' ∧ Wk W H B' w' ∧ ∃ a c, e = .returned (.slice a n c) ∧ RoB B' (.slice a n c) n k := by
 refine enter2 _ Tryz.func107 rfl Tryz.ntmps107 Tryz.results107 rfl (Wr (Pv (T_nil (W_seq (Wr ?_)))))
 refine Pv ?_
 refine Cw g_aumbry_matrix_in ((min_w C0 ((n : Nat) : Int)).mono ?_)
 rintro e w24 ⟨B21, hl22, C23, rfl⟩
 refine ⟨_, rfl, ?_⟩
 iterate 2 refine Pv ?_
 refine T_bool 9 false rfl (ndec_f (by omega)) ?_
 refine Ys ?_
 refine Pv ?_
 refine Ys ?_
 refine Cw g_aumbry_matrix_in ((min_w C23 ((k : Nat) : Int)).mono ?_)
 rintro e w28 ⟨B25, hl26, C27, rfl⟩
 refine ⟨_, rfl, ?_⟩
 refine Ys ?_
 iterate 2 refine Pv ?_
 refine T_nil (W_bool 13 false rfl (ndec_f (by omega)) ?_)
 refine W_cond_false rfl (W_skip (Wr (Cw g_aumbry_gf_New ((gnew_w C27 ).mono ?_))))
 rintro e w32 ⟨B29, hl30, C31, b33, rfl, hg34⟩
 refine ⟨_, rfl, ?_⟩
 refine T_makeF rfl rfl rfl rfl rfl rfl ?_
 have hf35 : FnB Tryz.prog W H B29 (.func (.func 135) #[.pointer (some ⟨b33, 0, none⟩)] #[]) ABI := ⟨_, [.pointer (some ⟨b33, 0, none⟩)], [], rfl, g_aumbry_gf_Field_Pow, fun B1 w1 hl C1 args hA => by obtain ⟨x, z, rfl, hz⟩ := hA; exact gpow_w C1 (hg34.mono hl) x z hz⟩
 refine T_allocVK C31 (fun _ => trivial) rfl rfl rfl rfl rfl rfl rfl rfl fun b36 w41 B38 hl39 hb37 C40 => (T_storeVK C40 hb37 (fun _ => trivial) rfl rfl rfl rfl rfl rfl rfl rfl rfl rfl fun w46 B43 hl44 hv42 C45 => (Nr ?_))
 iterate 2 refine Pv ?_
 refine T_makeF rfl rfl rfl rfl rfl rfl ?_
 have hf47 : FnB Tryz.prog W H B43 (.func (.func 137) #[] #[.pointer (some ⟨b36, 0, none⟩)]) (AIJ n k) := ⟨_, [], [.pointer (some ⟨b36, 0, none⟩)], rfl, g_aumbry_matrix_Vandermonde_1, fun B1 w1 hl C1 args hA => by obtain ⟨i, j, hi, hj, rfl⟩ := hA; exact vand1_w C1 i j (hv42.mono hl) ((hf35.mono (hl39.trans hl44)).mono hl) (by omega) (by omega)⟩
 refine Cw g_aumbry_matrix_made ((made_w C45 n k hf47 (by omega) (by omega)).mono ?_)
 rintro e w51 ⟨B48, hl49, C50, a52, c53, rfl, r54⟩
 refine ⟨_, rfl, ?_⟩
 refine Pv (T_nil (W_ret ?_))
 refine ⟨_, ⟨_, _, rfl, rfl, rfl⟩, B48, (hl22.trans (hl26.trans (hl30.trans (hl39.trans (hl44.trans hl49))))), C50, ?_⟩
 exact ⟨_, _, rfl, r54⟩


theorem may_w {W : World} {H : Hp} {B : Bp} {w : World} (C0 : Wk W H B w) {a1 : Option Addr} {n m c1 : Nat} (h1 : RoB B (.slice a1 n c1) n m) (hn : n ≤ 16) (hm : m ≤ 16) :
  Calls Tryz.prog 138 #[.slice a1 n c1] w fun e w' => ∃ B', B.le B' ∧ Wk W H B' w' ∧ ∃ b : Bool, e = .returned (.bool b) ∧ (b = true → 1 ≤ n ∧ 1 ≤ m) := by
 refine enter1 _ Tryz.func138 rfl Tryz.ntmps138 Tryz.results138 rfl (Wr (Pv (T_nil (W_seq (Wr ?_)))))
 iterate 4 refine Pv ?_
 refine Tp 8 (fun h21' => ?_) (fun h21' => ?_)
 ·have h21 := of_decide_eq_true h21'
  iterate 3 refine No ?_
  iterate 2 refine Pv ?_
  iterate 5 refine No ?_
  iterate 2 refine Pv ?_
  iterate 5 refine No ?_
  refine Pv (T_nil ?_)
  refine W_cond_true rfl (Wr (Pv (T_nil (W_ret ?_))))
  refine ⟨_, ⟨_, _, rfl, rfl, rfl⟩, B, (Bp.le.refl _), C0, ?_⟩
  exact ⟨_, rfl, fun h => by first | (cases h; done) | omega⟩
 have h21 := of_decide_eq_false h21'
 iterate 3 (refine Ys ?_; refine Pv ?_)
 iterate 2 refine Pv ?_
 refine Tp 13 (fun h22' => ?_) (fun h22' => ?_)
 ·have h22 := of_decide_eq_true h22'
  iterate 5 refine No ?_
  iterate 2 refine Pv ?_
  iterate 5 refine No ?_
  refine Pv (T_nil ?_)
  refine W_cond_true rfl (Wr (Pv (T_nil (W_ret ?_))))
  refine ⟨_, ⟨_, _, rfl, rfl, rfl⟩, B, (Bp.le.refl _), C0, ?_⟩
  exact ⟨_, rfl, fun h => by first | (cases h; done) | omega⟩
 have h22 := of_decide_eq_false h22'
 refine Ys ?_
 refine Pv ?_
 refine Ys ?_
 refine Aq h1 fun b23 o24 t25 q26 f27 hb28 hq29 hf30 => ?_
 have hr31 : RwB B b23 o24 m := ⟨_, _, _, hb28, hq29, hf30⟩
 refine Ys ?_
 refine Ap C0 hr31 fun a32 c33 r34 => ?_
 iterate 2 (refine Ys ?_; refine Pv ?_)
 iterate 2 refine Pv ?_
 refine Tp 20 (fun h35' => ?_) (fun h35' => ?_)
 ·have h35 := of_decide_eq_true h35'
  iterate 5 refine No ?_
  refine Pv (T_nil ?_)
  refine W_cond_true rfl (Wr (Pv (T_nil (W_ret ?_))))
  refine ⟨_, ⟨_, _, rfl, rfl, rfl⟩, B, (Bp.le.refl _), C0, ?_⟩
  exact ⟨_, rfl, fun h => by first | (cases h; done) | omega⟩
 have h35 := of_decide_eq_false h35'
 refine Ys ?_
 refine Pv ?_
 refine Ys ?_
 refine Aq h1 fun b36 o37 t38 q39 f40 hb41 hq42 hf43 => ?_
 have hr44 : RwB B b36 o37 m := ⟨_, _, _, hb41, hq42, hf43⟩
 refine Ys ?_
 refine Ap C0 hr44 fun a45 c46 r47 => ?_
 iterate 2 (refine Ys ?_; refine Pv ?_)
 refine Pv (T_nil ?_)
 refine Aa (fun h48 => ?_) (fun h48 => ?_)
 ·refine Wr (Pv (T_nil (W_ret ?_)))
  refine ⟨_, ⟨_, _, rfl, rfl, rfl⟩, B, (Bp.le.refl _), C0, ?_⟩
  exact ⟨_, rfl, fun h => by first | (cases h; done) | omega⟩
 refine W_skip (W_seq (Wr ?_))
 iterate 3 refine Pv ?_
 refine T_nil (W_block ?_)
 refine W_loop (fun M ρ w' => ∃ (k : Nat) (B49 : Bp), M = n - k ∧ k ≤ n ∧ ρ = [(0, .slice a1 n c1), (27, .slice a1 n c1), (28, .int .i64 ((n : Nat) : Int)), (29, .int .i64 (k : Int))] ∧ B.le B49 ∧ Wk W H B49 w')
  (n - 0) [(0, .slice a1 n c1), (27, .slice a1 n c1), (28, .int .i64 ((n : Nat) : Int)), (29, .int .i64 ((0 : Nat) : Int))] ⟨rfl, rfl, ciI, ciI, trivial⟩ ⟨0, B, rfl, (by exact Nat.zero_le _), rfl, Bp.le.refl _, C0⟩ ?_
 rintro M ρ w52 ⟨k, B49, rfl, hp53, rfl, hl50, C51⟩
 refine Wr (Pv (T_nil (W_seq ?_)))
 refine Aa (fun h54 => ?_) (fun h54 => ?_)
 ·refine W_skip (W_seq (W_block (Wr (Aq (h1.mono hl50) fun b55 o56 t57 q58 f59 hb60 hq61 hf62 => ?_))))
  have hr63 : RwB B49 b55 o56 m := ⟨_, _, _, hb60, hq61, hf62⟩
  refine Ap C51 hr63 fun a64 c65 r66 => ?_
  refine Pv (Nr ?_)
  iterate 3 refine Pv ?_
  refine Aq (h1.mono hl50) fun b67 o68 t69 q70 f71 hb72 hq73 hf74 => ?_
  have hr75 : RwB B49 b67 o68 m := ⟨_, _, _, hb72, hq73, hf74⟩
  refine Ap C51 hr75 fun a76 c77 r78 => ?_
  iterate 2 refine Pv ?_
  refine T_nil (W_cond_not rfl (fun h79 => ?_) (fun h79 => ?_))
  ·refine Wr (Pv (T_nil (W_ret ?_)))
   refine ⟨_, ⟨_, _, rfl, rfl, rfl⟩, B49, hl50, C51, ?_⟩
   exact ⟨_, rfl, fun h => by first | (cases h; done) | omega⟩
  refine W_skip (W_region (Ar ?_))
  refine Pv (T_nil ?_)
  exact ⟨n - (k + 1), [(0, .slice a1 n c1), (27, .slice a1 n c1), (28, .int .i64 ((n : Nat) : Int)), (29, .int .i64 ((k + 1 : Nat) : Int))], by omega, ⟨rfl, rfl, ciI, ciI, trivial⟩, k + 1, B49, rfl, (by omega), rfl, hl50, C51⟩
 refine W_exit (Wr (Pv (T_nil (W_ret ?_))))
 refine ⟨_, ⟨_, _, rfl, rfl, rfl⟩, B49, hl50, C51, ?_⟩
 exact ⟨_, rfl, fun h => by first | (cases h; done) | omega⟩


theorem unit1_w {W : World} {H : Hp} {B : Bp} {w : World} (C0 : Wk W H B w) (i j : Nat) :
  Calls Tryz.prog 164 #[.int .i64 ((i : Nat) : Int), .int .i64 ((j : Nat) : Int)] w fun e w' => ∃ B', B.le B' ∧ Wk W H B' w' ∧ ∃ x : UInt8, e = .returned (bV x) := by
 refine enter2 _ Tryz.func164 rfl Tryz.ntmps164 Tryz.results164 rfl (Wr (Pv (T_nil (W_seq (Wr ?_)))))
 iterate 3 refine Pv ?_
 refine T_nil (Aa (fun h21 => ?_) (fun h21 => ?_))
 ·refine Wr (Pv (T_nil (W_ret ?_)))
  refine ⟨_, ⟨_, _, rfl, rfl, rfl⟩, B, (Bp.le.refl _), C0, ?_⟩
  exact ⟨(1 : UInt8), rfl⟩
 refine W_skip (Wr (Pv (T_nil (W_ret ?_))))
 refine ⟨_, ⟨_, _, rfl, rfl, rfl⟩, B, (Bp.le.refl _), C0, ?_⟩
 exact ⟨(0 : UInt8), rfl⟩


theorem unit_w {W : World} {H : Hp} {B : Bp} {w : World} (C0 : Wk W H B w) (n : Nat) (hn : 1 ≤ n ∧ n ≤ 16) :
  Calls Tryz.prog 140 #[.int .i64 ((n : Nat) : Int)] w fun e w' => ∃ B', B.le B' ∧ Wk W H B' w' ∧ ∃ a c, e = .returned (.slice a n c) ∧ RoB B' (.slice a n c) n n := by
 refine enter1 _ Tryz.func140 rfl Tryz.ntmps140 Tryz.results140 rfl (Wr (Pv (T_nil (W_seq (Wr ?_)))))
 refine Pv ?_
 refine Cw g_aumbry_matrix_in ((min_w C0 ((n : Nat) : Int)).mono ?_)
 rintro e w24 ⟨B21, hl22, C23, rfl⟩
 refine ⟨_, rfl, ?_⟩
 refine Pv (T_nil ?_)
 refine W_bool 5 false rfl (ndec_f (by omega)) ?_
 refine W_cond_false rfl (W_skip (Wr ?_))
 iterate 2 refine Pv ?_
 have hf25 : FnB Tryz.prog W H B21 (.func (.func 164) #[] #[]) (AIJ n n) := ⟨_, [], [], rfl, g_aumbry_matrix_Unit_1, fun B1 w1 hl C1 args hA => by obtain ⟨i, j, hi, hj, rfl⟩ := hA; exact unit1_w C1 i j⟩
 refine Cw g_aumbry_matrix_made ((made_w C23 n n hf25 (by omega) (by omega)).mono ?_)
 rintro e w29 ⟨B26, hl27, C28, a30, c31, rfl, r32⟩
 refine ⟨_, rfl, ?_⟩
 refine Pv (T_nil (W_ret ?_))
 refine ⟨_, ⟨_, _, rfl, rfl, rfl⟩, B26, (hl22.trans hl27), C28, ?_⟩
 exact ⟨_, _, rfl, r32⟩


theorem mcol_w {W : World} {H : Hp} {B : Bp} {w : World} (C0 : Wk W H B w) {a1 : Option Addr} {n m c1 : Nat} (h1 : RoB B (.slice a1 n c1) n m) (j : Nat) (hj : j < m) (hn : n ≤ 16) :
  Calls Tryz.prog 147 #[.slice a1 n c1, .int .i64 ((j : Nat) : Int)] w fun e w' => ∃ B', B.le B' ∧ Wk W H B' w' ∧ ∃ a c, e = .returned (.slice a n c) ∧ ApB 5 B' (.slice a n c) n := by
 refine enter2 _ Tryz.func147 rfl Tryz.ntmps147 Tryz.results147 rfl (Wr (Pv (Nr ?_)))
 iterate 2 refine Pv ?_
 refine T_makeK C0 n (fun _ => trivial) rfl rfl rfl rfl rfl rfl rfl rfl rfl rfl rfl (by omega) (by omega) (by show 1 * _ ≤ _; omega) (by unfold maxLen; omega) fun b21 w26 B23 hl24 r22 C25 => ?_
 refine Pv (T_nil (W_seq (Wr ?_)))
 iterate 3 refine Pv ?_
 refine T_nil (W_block ?_)
 refine W_loop (fun M ρ w' => ∃ (k : Nat) (B27 : Bp), M = n - k ∧ k ≤ n ∧ ρ = [(1, .int .i64 ((j : Nat) : Int)), (5, .slice (some ⟨b21, 0, none⟩) n n), (11, .slice a1 n c1), (12, .int .i64 ((n : Nat) : Int)), (13, .int .i64 (k : Int))] ∧ B23.le B27 ∧ Wk W H B27 w')
  (n - 0) [(1, .int .i64 ((j : Nat) : Int)), (5, .slice (some ⟨b21, 0, none⟩) n n), (11, .slice a1 n c1), (12, .int .i64 ((n : Nat) : Int)), (13, .int .i64 ((0 : Nat) : Int))] ⟨ciI, rfl, rfl, ciI, ciI, trivial⟩ ⟨0, B23, rfl, (by exact Nat.zero_le _), rfl, Bp.le.refl _, C25⟩ ?_
 rintro M ρ w30 ⟨k, B27, rfl, hp31, rfl, hl28, C29⟩
 refine Wr (Pv (T_nil (W_seq ?_)))
 refine Aa (fun h32 => ?_) (fun h32 => ?_)
 ·refine W_skip (W_seq (W_block (Wr (Pv ?_))))
  refine Aq (h1.mono (hl24.trans hl28)) fun b33 o34 t35 q36 f37 hb38 hq39 hf40 => ?_
  have hr41 : RwB B27 b33 o34 m := ⟨_, _, _, hb38, hq39, hf40⟩
  refine Ap C29 hr41 fun a42 c43 r44 => ?_
  iterate 2 refine Pv ?_
  refine T_nil (W_region ?_)
  iterate 4 refine Pv ?_
  refine Ao r44 fun b45 o46 q47 hb48 hq49 => ?_
  refine An C29 hb48 fun x50 => ?_
  refine Ao ((r22.mono hl28)).sl fun b51 o52 q53 hb54 hq55 => ?_
  refine T_store1K (u := x50) C29 hb54 (fun _ => trivial) rfl rfl rfl rfl rfl rfl rfl rfl (by omega) fun w56 C57 => (T_nil (W_region ?_))
  refine Ar ?_
  refine Pv (T_nil ?_)
  exact ⟨n - (k + 1), [(1, .int .i64 ((j : Nat) : Int)), (5, .slice (some ⟨b21, 0, none⟩) n n), (11, .slice a1 n c1), (12, .int .i64 ((n : Nat) : Int)), (13, .int .i64 ((k + 1 : Nat) : Int))], by omega, ⟨ciI, rfl, rfl, ciI, ciI, trivial⟩, k + 1, B27, rfl, (by omega), rfl, hl28, C57⟩
 refine W_exit (Wr ?_)
 iterate 2 refine Pv ?_
 refine T_nil (W_ret ?_)
 refine ⟨_, ⟨_, _, rfl, rfl, rfl⟩, B27, (hl24.trans hl28), C29, ?_⟩
 exact ⟨_, _, rfl, (r22.mono hl28)⟩


theorem scale_w {W : World} {H : Hp} {B : Bp} {w : World} (C0 : Wk W H B w) {fv : Value} (hf : FnB Tryz.prog W H B fv ABB) (x : UInt8) {a1 : Option Addr} {n m c1 : Nat} (h1 : RoB B (.slice a1 n c1) n m) (hn : n ≤ 16) (hm : m ≤ 16) :
  Calls Tryz.prog 141 #[fv, bV x, .slice a1 n c1] w fun e w' => ∃ B', B.le B' ∧ Wk W H B' w' ∧ e = .returned (.tuple #[]) := by
 obtain ⟨fvf, fva, fvc, rfl⟩ := hf.shape
 refine enter3 _ Tryz.func141 rfl Tryz.ntmps141 Tryz.results141 rfl (Wr ?_)
 iterate 3 refine Pv ?_
 refine T_nil (W_block ?_)
 refine W_loop (fun M ρ w' => ∃ (k : Nat) (B21 : Bp), M = n - k ∧ k ≤ n ∧ ρ = [(0, .func (.func fvf) fva fvc), (1, bV x), (9, .slice a1 n c1), (10, .int .i64 ((n : Nat) : Int)), (11, .int .i64 (k : Int))] ∧ B.le B21 ∧ Wk W H B21 w')
  (n - 0) [(0, .func (.func fvf) fva fvc), (1, bV x), (9, .slice a1 n c1), (10, .int .i64 ((n : Nat) : Int)), (11, .int .i64 ((0 : Nat) : Int))] ⟨rfl, rfl, rfl, ciI, ciI, trivial⟩ ⟨0, B, rfl, (by exact Nat.zero_le _), rfl, Bp.le.refl _, C0⟩ ?_
 rintro M ρ w24 ⟨k, B21, rfl, hp25, rfl, hl22, C23⟩
 refine Wr (Pv (T_nil (W_seq ?_)))
 refine Aa (fun h26 => ?_) (fun h26 => ?_)
 ·refine W_skip (W_seq (W_block (Wr (Aq (h1.mono hl22) fun b27 o28 t29 q30 f31 hb32 hq33 hf34 => ?_))))
  have hr35 : RwB B21 b27 o28 m := ⟨_, _, _, hb32, hq33, hf34⟩
  refine Ap C23 hr35 fun a36 c37 r38 => ?_
  refine Pv (Nr ?_)
  iterate 3 refine Pv ?_
  refine T_nil (W_block ?_)
  refine W_loop (fun M ρ w' => ∃ (j : Nat) (B39 : Bp), M = m - j ∧ j ≤ m ∧ ρ = [(0, .func (.func fvf) fva fvc), (1, bV x), (7, .slice a36 m c37), (9, .slice a1 n c1), (10, .int .i64 ((n : Nat) : Int)), (11, .int .i64 (k : Int)), (16, .int .i64 ((m : Nat) : Int)), (17, .int .i64 (j : Int))] ∧ B21.le B39 ∧ Wk W H B39 w')
   (m - 0) [(0, .func (.func fvf) fva fvc), (1, bV x), (7, .slice a36 m c37), (9, .slice a1 n c1), (10, .int .i64 ((n : Nat) : Int)), (11, .int .i64 (k : Int)), (16, .int .i64 ((m : Nat) : Int)), (17, .int .i64 ((0 : Nat) : Int))] ⟨rfl, rfl, rfl, rfl, ciI, ciI, ciI, ciI, trivial⟩ ⟨0, B21, rfl, (by exact Nat.zero_le _), rfl, Bp.le.refl _, C23⟩ ?_
  rintro M ρ w42 ⟨j, B39, rfl, hp43, rfl, hl40, C41⟩
  refine Wr (Pv (T_nil (W_seq ?_)))
  refine Aa (fun h44 => ?_) (fun h44 => ?_)
  ·refine W_skip (W_seq (W_block (Wr ?_)))
   iterate 2 refine Pv ?_
   refine T_nil (W_region ?_)
   iterate 5 refine Pv ?_
   refine Ao (r38.mono hl40) fun b45 o46 q47 hb48 hq49 => ?_
   refine An C41 hb48 fun x50 => ?_
   refine Pv ?_
   refine T_callF C41 (hf.mono (hl22.trans hl40)) (fun _ => trivial) rfl rfl rfl ⟨x50, x, rfl⟩ rfl rfl rfl rfl fun x51 w55 B52 hl53 C54 => (Ao (r38.mono (hl40.trans hl53)) fun b56 o57 q58 hb59 hq60 => ?_)
   refine T_store1K (u := x51) C54 hb59 (fun _ => trivial) rfl rfl rfl rfl rfl rfl rfl rfl (by omega) fun w61 C62 => (T_nil (W_region ?_))
   refine Ar ?_
   refine Pv (T_nil ?_)
   exact ⟨m - (j + 1), [(0, .func (.func fvf) fva fvc), (1, bV x), (7, .slice a36 m c37), (9, .slice a1 n c1), (10, .int .i64 ((n : Nat) : Int)), (11, .int .i64 (k : Int)), (16, .int .i64 ((m : Nat) : Int)), (17, .int .i64 ((j + 1 : Nat) : Int))], by omega, ⟨rfl, rfl, rfl, rfl, ciI, ciI, ciI, ciI, trivial⟩, j + 1, B52, rfl, (by omega), rfl, (hl40.trans hl53), C62⟩
  refine W_exit (W_region (Ar ?_))
  refine Pv (T_nil ?_)
  exact ⟨n - (k + 1), [(0, .func (.func fvf) fva fvc), (1, bV x), (9, .slice a1 n c1), (10, .int .i64 ((n : Nat) : Int)), (11, .int .i64 ((k + 1 : Nat) : Int))], by omega, ⟨rfl, rfl, rfl, ciI, ciI, trivial⟩, k + 1, B39, rfl, (by omega), rfl, (hl22.trans hl40), C41⟩
 refine W_exit ?_
 refine ⟨_, rfl, B21, hl22, C23, ?_⟩
 exact rfl


theorem take_w {W : World} {H : Hp} {B : Bp} {w : World} (C0 : Wk W H B w) {fv : Value} (hf : FnB Tryz.prog W H B fv ABB) (x : UInt8) {n : Nat} {a1 : Option Addr} {c1 : Nat} (h1 : SlB B (.slice a1 n c1) n) {a2 : Option Addr} {c2 : Nat} (h2 : SlB B (.slice a2 n c2) n) {a3 : Option Addr} {c3 : Nat} (h3 : SlB B (.slice a3 n c3) n) {a4 : Option Addr} {c4 : Nat} (h4 : SlB B (.slice a4 n c4) n) (hn : n ≤ 16) :
  Calls Tryz.prog 144 #[fv, bV x, .slice a1 n c1, .slice a2 n c2, .slice a3 n c3, .slice a4 n c4] w fun e w' => ∃ B', B.le B' ∧ Wk W H B' w' ∧ e = .returned (.tuple #[]) := by
 obtain ⟨fvf, fva, fvc, rfl⟩ := hf.shape
 refine enter6 _ Tryz.func144 rfl Tryz.ntmps144 Tryz.results144 rfl (Wr ?_)
 iterate 3 refine Pv ?_
 refine T_nil (W_block ?_)
 refine W_loop (fun M ρ w' => ∃ (k : Nat) (B21 : Bp), M = n - k ∧ k ≤ n ∧ ρ = [(0, .func (.func fvf) fva fvc), (1, bV x), (2, .slice a1 n c1), (3, .slice a2 n c2), (4, .slice a3 n c3), (5, .slice a4 n c4), (14, .int .i64 ((n : Nat) : Int)), (15, .int .i64 (k : Int))] ∧ B.le B21 ∧ Wk W H B21 w')
  (n - 0) [(0, .func (.func fvf) fva fvc), (1, bV x), (2, .slice a1 n c1), (3, .slice a2 n c2), (4, .slice a3 n c3), (5, .slice a4 n c4), (14, .int .i64 ((n : Nat) : Int)), (15, .int .i64 ((0 : Nat) : Int))] ⟨rfl, rfl, rfl, rfl, rfl, rfl, ciI, ciI, trivial⟩ ⟨0, B, rfl, (by exact Nat.zero_le _), rfl, Bp.le.refl _, C0⟩ ?_
 rintro M ρ w24 ⟨k, B21, rfl, hp25, rfl, hl22, C23⟩
 refine Wr (Pv (T_nil (W_seq ?_)))
 refine Aa (fun h26 => ?_) (fun h26 => ?_)
 ·refine W_skip (W_seq (W_block (Wr ?_)))
  iterate 2 refine Pv ?_
  refine T_nil (W_seq (W_tree (planW Tryz.prog) (.step 0 (.step 1 (.step 2 (.step 3 (.step 4 (.step 6 (.step 7 (.step 8 (.step 9 (.step 10 (.step 11 (.fork 5 12 (.step 12 (.step 13 (.step 14 (.step 15 .done)))) (.step 5 (.step 13 (.step 14 (.step 15 .done)))))))))))))))) rfl (by kernel_rfl) trivial ?_))
  have C27 := C23.drew
  iterate 4 (refine TT_step rfl ?_; refine Pv ?_; refine T_nil ?_)
  refine TT_step rfl (Ao (h1.mono hl22) fun b28 o29 q30 hb31 hq32 => ?_)
  iterate 4 (refine T_nil ?_; refine TT_step rfl ?_; refine Pv ?_)
  refine Nt rfl (Ao (h2.mono hl22) fun b33 o34 q35 hb36 hq37 => ?_)
  refine Nt rfl (An C27 hb36 fun x38 => (T_nil ?_))
  refine TT_fork rfl rfl ?_ ?_
  ·refine An C27 hb31 fun x39 => ?_
   refine Nt rfl (T_callF C27 (hf.mono hl22) (fun _ => trivial) rfl rfl rfl ⟨x, x38, rfl⟩ rfl rfl rfl rfl fun x40 w44 B41 hl42 C43 => (Nt rfl (Cw g_aumbry_gf_Add ((gadd_w C43 x39 x40).mono ?_))))
   rintro e w48 ⟨B45, hl46, C47, x49, rfl⟩
   refine ⟨_, rfl, ?_⟩
   refine Nt rfl (Ao (h1.mono (hl22.trans (hl42.trans hl46))) fun b50 o51 q52 hb53 hq54 => ?_)
   refine Nt rfl (T_store1K (u := x49) C47 hb53 (fun _ => trivial) rfl rfl rfl rfl rfl rfl rfl rfl (by omega) fun w55 C56 => (T_nil (TT_done ?_)))
   refine W_tree (planW Tryz.prog) (.step 0 (.step 1 (.step 2 (.step 3 (.step 4 (.step 6 (.step 7 (.step 8 (.step 9 (.step 10 (.step 11 (.fork 5 12 (.step 12 (.step 13 (.step 14 (.step 15 .done)))) (.step 5 (.step 13 (.step 14 (.step 15 .done)))))))))))))))) rfl (by kernel_rfl) trivial ?_
   have C57 := C56.drew
   iterate 4 (refine TT_step rfl ?_; refine Pv ?_; refine T_nil ?_)
   refine TT_step rfl (Ao (h3.mono (hl22.trans (hl42.trans hl46))) fun b58 o59 q60 hb61 hq62 => ?_)
   iterate 4 (refine T_nil ?_; refine TT_step rfl ?_; refine Pv ?_)
   refine Nt rfl (Ao (h4.mono (hl22.trans (hl42.trans hl46))) fun b63 o64 q65 hb66 hq67 => ?_)
   refine Nt rfl (An C57 hb66 fun x68 => (T_nil ?_))
   refine TT_fork rfl rfl ?_ ?_
   ·refine An C57 hb61 fun x69 => ?_
    refine Nt rfl (T_callF C57 (hf.mono (hl22.trans (hl42.trans hl46))) (fun _ => trivial) rfl rfl rfl ⟨x, x68, rfl⟩ rfl rfl rfl rfl fun x70 w74 B71 hl72 C73 => (Nt rfl (Cw g_aumbry_gf_Add ((gadd_w C73 x69 x70).mono ?_))))
    rintro e w78 ⟨B75, hl76, C77, x79, rfl⟩
    refine ⟨_, rfl, ?_⟩
    refine Nt rfl (Ao (h3.mono (hl22.trans (hl42.trans (hl46.trans (hl72.trans hl76))))) fun b80 o81 q82 hb83 hq84 => ?_)
    refine Nt rfl (T_store1K (u := x79) C77 hb83 (fun _ => trivial) rfl rfl rfl rfl rfl rfl rfl rfl (by omega) fun w85 C86 => (T_nil (TT_done (W_region ?_))))
    refine Ar ?_
    refine Pv (T_nil ?_)
    exact ⟨n - (k + 1), [(0, .func (.func fvf) fva fvc), (1, bV x), (2, .slice a1 n c1), (3, .slice a2 n c2), (4, .slice a3 n c3), (5, .slice a4 n c4), (14, .int .i64 ((n : Nat) : Int)), (15, .int .i64 ((k + 1 : Nat) : Int))], by omega, ⟨rfl, rfl, rfl, rfl, rfl, rfl, ciI, ciI, trivial⟩, k + 1, B75, rfl, (by omega), rfl, (hl22.trans (hl42.trans (hl46.trans (hl72.trans hl76)))), C86⟩
   refine T_callF C57 (hf.mono (hl22.trans (hl42.trans hl46))) (fun _ => trivial) rfl rfl rfl ⟨x, x68, rfl⟩ rfl rfl rfl rfl fun x87 w91 B88 hl89 C90 => (Nt rfl (An C90 (hb61.mono hl89) fun x92 => ?_))
   refine Nt rfl (Cw g_aumbry_gf_Add ((gadd_w C90 x92 x87).mono ?_))
   rintro e w96 ⟨B93, hl94, C95, x97, rfl⟩
   refine ⟨_, rfl, ?_⟩
   refine Nt rfl (Ao (h3.mono (hl22.trans (hl42.trans (hl46.trans (hl89.trans hl94))))) fun b98 o99 q100 hb101 hq102 => ?_)
   refine Nt rfl (T_store1K (u := x97) C95 hb101 (fun _ => trivial) rfl rfl rfl rfl rfl rfl rfl rfl (by omega) fun w103 C104 => (T_nil (TT_done (W_region ?_))))
   refine Ar ?_
   refine Pv (T_nil ?_)
   exact ⟨n - (k + 1), [(0, .func (.func fvf) fva fvc), (1, bV x), (2, .slice a1 n c1), (3, .slice a2 n c2), (4, .slice a3 n c3), (5, .slice a4 n c4), (14, .int .i64 ((n : Nat) : Int)), (15, .int .i64 ((k + 1 : Nat) : Int))], by omega, ⟨rfl, rfl, rfl, rfl, rfl, rfl, ciI, ciI, trivial⟩, k + 1, B93, rfl, (by omega), rfl, (hl22.trans (hl42.trans (hl46.trans (hl89.trans hl94)))), C104⟩
  refine T_callF C27 (hf.mono hl22) (fun _ => trivial) rfl rfl rfl ⟨x, x38, rfl⟩ rfl rfl rfl rfl fun x105 w109 B106 hl107 C108 => (Nt rfl (An C108 (hb31.mono hl107) fun x110 => ?_))
  refine Nt rfl (Cw g_aumbry_gf_Add ((gadd_w C108 x110 x105).mono ?_))
  rintro e w114 ⟨B111, hl112, C113, x115, rfl⟩
  refine ⟨_, rfl, ?_⟩
  refine Nt rfl (Ao (h1.mono (hl22.trans (hl107.trans hl112))) fun b116 o117 q118 hb119 hq120 => ?_)
  refine Nt rfl (T_store1K (u := x115) C113 hb119 (fun _ => trivial) rfl rfl rfl rfl rfl rfl rfl rfl (by omega) fun w121 C122 => (T_nil (TT_done ?_)))
  refine W_tree (planW Tryz.prog) (.step 0 (.step 1 (.step 2 (.step 3 (.step 4 (.step 6 (.step 7 (.step 8 (.step 9 (.step 10 (.step 11 (.fork 5 12 (.step 12 (.step 13 (.step 14 (.step 15 .done)))) (.step 5 (.step 13 (.step 14 (.step 15 .done)))))))))))))))) rfl (by kernel_rfl) trivial ?_
  have C123 := C122.drew
  iterate 4 (refine TT_step rfl ?_; refine Pv ?_; refine T_nil ?_)
  refine TT_step rfl (Ao (h3.mono (hl22.trans (hl107.trans hl112))) fun b124 o125 q126 hb127 hq128 => ?_)
  iterate 4 (refine T_nil ?_; refine TT_step rfl ?_; refine Pv ?_)
  refine Nt rfl (Ao (h4.mono (hl22.trans (hl107.trans hl112))) fun b129 o130 q131 hb132 hq133 => ?_)
  refine Nt rfl (An C123 hb132 fun x134 => (T_nil ?_))
  refine TT_fork rfl rfl ?_ ?_
  ·refine An C123 hb127 fun x135 => ?_
   refine Nt rfl (T_callF C123 (hf.mono (hl22.trans (hl107.trans hl112))) (fun _ => trivial) rfl rfl rfl ⟨x, x134, rfl⟩ rfl rfl rfl rfl fun x136 w140 B137 hl138 C139 => (Nt rfl (Cw g_aumbry_gf_Add ((gadd_w C139 x135 x136).mono ?_))))
   rintro e w144 ⟨B141, hl142, C143, x145, rfl⟩
   refine ⟨_, rfl, ?_⟩
   refine Nt rfl (Ao (h3.mono (hl22.trans (hl107.trans (hl112.trans (hl138.trans hl142))))) fun b146 o147 q148 hb149 hq150 => ?_)
   refine Nt rfl (T_store1K (u := x145) C143 hb149 (fun _ => trivial) rfl rfl rfl rfl rfl rfl rfl rfl (by omega) fun w151 C152 => (T_nil (TT_done (W_region ?_))))
   refine Ar ?_
   refine Pv (T_nil ?_)
   exact ⟨n - (k + 1), [(0, .func (.func fvf) fva fvc), (1, bV x), (2, .slice a1 n c1), (3, .slice a2 n c2), (4, .slice a3 n c3), (5, .slice a4 n c4), (14, .int .i64 ((n : Nat) : Int)), (15, .int .i64 ((k + 1 : Nat) : Int))], by omega, ⟨rfl, rfl, rfl, rfl, rfl, rfl, ciI, ciI, trivial⟩, k + 1, B141, rfl, (by omega), rfl, (hl22.trans (hl107.trans (hl112.trans (hl138.trans hl142)))), C152⟩
  refine T_callF C123 (hf.mono (hl22.trans (hl107.trans hl112))) (fun _ => trivial) rfl rfl rfl ⟨x, x134, rfl⟩ rfl rfl rfl rfl fun x153 w157 B154 hl155 C156 => (Nt rfl (An C156 (hb127.mono hl155) fun x158 => ?_))
  refine Nt rfl (Cw g_aumbry_gf_Add ((gadd_w C156 x158 x153).mono ?_))
  rintro e w162 ⟨B159, hl160, C161, x163, rfl⟩
  refine ⟨_, rfl, ?_⟩
  refine Nt rfl (Ao (h3.mono (hl22.trans (hl107.trans (hl112.trans (hl155.trans hl160))))) fun b164 o165 q166 hb167 hq168 => ?_)
  refine Nt rfl (T_store1K (u := x163) C161 hb167 (fun _ => trivial) rfl rfl rfl rfl rfl rfl rfl rfl (by omega) fun w169 C170 => (T_nil (TT_done (W_region ?_))))
  refine Ar ?_
  refine Pv (T_nil ?_)
  exact ⟨n - (k + 1), [(0, .func (.func fvf) fva fvc), (1, bV x), (2, .slice a1 n c1), (3, .slice a2 n c2), (4, .slice a3 n c3), (5, .slice a4 n c4), (14, .int .i64 ((n : Nat) : Int)), (15, .int .i64 ((k + 1 : Nat) : Int))], by omega, ⟨rfl, rfl, rfl, rfl, rfl, rfl, ciI, ciI, trivial⟩, k + 1, B159, rfl, (by omega), rfl, (hl22.trans (hl107.trans (hl112.trans (hl155.trans hl160)))), C170⟩
 refine W_exit ?_
 refine ⟨_, rfl, B21, hl22, C23, ?_⟩
 exact rfl

end Go.Proofs.YtmjmjjkigblbgaaGreatDoor
