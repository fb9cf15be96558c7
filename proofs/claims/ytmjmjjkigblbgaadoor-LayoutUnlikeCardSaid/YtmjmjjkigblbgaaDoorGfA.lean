/- The document's field. -/
import Derived.Test.YtmjmjjkigblbgaaDoorKeepN
import Derived.Test.YtmjmjjkigblbgaaDoorTab2
import Derived.Test.YtmjmjjkigblbgaaDoorFDoor
import Derived.Test.YtmjmjjkigblbgaaDoorAuDoor
set_option linter.unusedVariables false
set_option linter.unusedSimpArgs false
set_option maxRecDepth 8192

namespace Go.Proofs.YtmjmjjkigblbgaaDoor
open Go Go.F Go.RowKit
open Go.Au

theorem rmul_ok {H : Hp} {w : World} (hH : H.le (hw w)) (x y : UInt8) :
  Calls Tryd.prog 118 #[bV x, bV y] w fun e w' => e = .returned (bV (gmul x y)) ∧ w' = w := by
 have hx8 := x.toNat_lt
 have hy8 := y.toNat_lt
 have hA0 : mA x.toNat 0 = x.toNat := rfl
 have hP0 : mP x.toNat y.toNat 0 = 0 := rfl
 refine enter2 _ Tryd.func118 rfl Tryd.ntmps118 Tryd.results118 rfl ?_
 have S0 := St.start w hH
 refine Wr (Pv (Nr ?_))
 refine Pv ?_
 refine T_b2i rfl rfl rfl rfl rfl rfl rfl ?_
 iterate 2 refine Pv ?_
 refine T_nil (W_seq (Wr (Pv (T_nil (W_block ?_)))))
 refine W_loop (fun M ρ w' => ∃ (k : Nat) (G1 : Hp), M = 8 - k ∧ k ≤ 8 ∧ w' = w ∧ ρ = [(1, bV y), (5, .int .i64 ((mA x.toNat k : Nat) : Int)), (6, .int .i64 ((mP x.toNat y.toNat k : Nat) : Int)), (7, .int .i64 (k : Int))] ∧ H.le G1 ∧ St w H G1 [] w')
  (8 - 0) [(1, bV y), (5, .int .i64 ((mA x.toNat 0 : Nat) : Int)), (6, .int .i64 ((mP x.toNat y.toNat 0 : Nat) : Int)), (7, .int .i64 ((0 : Nat) : Int))] ⟨rfl, ciI, ciI, ciI, trivial⟩ ⟨0, H, rfl, (by omega), (by rfl), rfl, Hp.le.refl _, S0⟩ ?_
 rintro M ρ w3 ⟨k, G1, rfl, hp5, hq, rfl, hl2, S4⟩
 refine W_seq (Wr ?_)
 iterate 2 refine Pv ?_
 refine T_nil (Aa (fun h7 => ?_) (fun h7 => ?_))
 ·refine W_skip (W_seq (W_block (W_seq (Wr ?_))))
  have hma := mA_lt (x := x.toNat) (by omega) k
  have hmp := mP_lt (x := x.toNat) (by omega) y.toNat k
  have hyk := Nat.div_le_self y.toNat (2 ^ k)
  iterate 3 refine Pv ?_
  refine T_re (v' := .int .u64 ((k : Nat) : Int)) (congrArg (Value.int .u64) (by rw [IntKind.wrap_u64]; omega)) ?_
  refine T_shr rfl rfl rfl rfl rfl rfl (by omega) ?_
  refine T_re (v' := .int .u8 ((y.toNat / 2 ^ k : Nat) : Int)) (congrArg (Value.int .u8) (shr8 (by omega))) ?_
  refine Pv ?_
  refine T_re (v' := .int .u8 ((y.toNat / 2 ^ k % 2 : Nat) : Int)) (congrArg (Value.int .u8) (and8 (by omega))) ?_
  refine Pv (T_nil ?_)
  refine Aa (fun h8 => ?_) (fun h8 => ?_)
  ·refine W_region ?_
   iterate 3 refine Pv ?_
   refine T_re (v' := .int .i64 ((mP x.toNat y.toNat k ^^^ mA x.toNat k : Nat) : Int)) (congrArg (Value.int .i64) (xor64 (by omega) (by omega))) ?_
   refine Pv (Nr ?_)
   refine Pv ?_
   refine T_shl rfl rfl rfl rfl rfl rfl (by omega) ?_
   refine T_re (v' := .int .i64 ((2 * mA x.toNat k : Nat) : Int)) (congrArg (Value.int .i64) (dbl64 hma)) (Pv (Nr ?_))
   iterate 2 refine Pv ?_
   refine T_nil (Aa (fun h9 => ?_) (fun h9 => ?_))
   ·refine W_region ?_
    iterate 2 refine Pv ?_
    refine T_re (v' := .int .i64 (((2 * mA x.toNat k) ^^^ 285 : Nat) : Int)) (congrArg (Value.int .i64) (xor64 (a := 2 * mA x.toNat k) (b := 285) (by omega) (by omega))) ?_
    refine Pv (T_nil (W_region ?_))
    refine Pv ?_
    refine Ar ?_
    refine Pv (T_nil ?_)
    have HA := mA_step x.toNat k
    have HP := mP_step x.toNat y.toNat k
    first | rw [if_pos (by omega)] at HA | rw [if_neg (by omega)] at HA
    first | rw [if_pos (by omega)] at HP | rw [if_neg (by omega)] at HP
    exact ⟨8 - (k + 1), [(1, bV y), (5, .int .i64 ((mA x.toNat (k + 1) : Nat) : Int)), (6, .int .i64 ((mP x.toNat y.toNat (k + 1) : Nat) : Int)), (7, .int .i64 ((k + 1 : Nat) : Int))], by omega, ⟨rfl, ciI, ciI, ciI, trivial⟩, k + 1, G1, rfl, (by omega), (by exact hq), rfl, hl2, S4⟩
   refine W_skip (W_region (Pv ?_))
   refine Ar ?_
   refine Pv (T_nil ?_)
   have HA := mA_step x.toNat k
   have HP := mP_step x.toNat y.toNat k
   first | rw [if_pos (by omega)] at HA | rw [if_neg (by omega)] at HA
   first | rw [if_pos (by omega)] at HP | rw [if_neg (by omega)] at HP
   exact ⟨8 - (k + 1), [(1, bV y), (5, .int .i64 ((mA x.toNat (k + 1) : Nat) : Int)), (6, .int .i64 ((mP x.toNat y.toNat (k + 1) : Nat) : Int)), (7, .int .i64 ((k + 1 : Nat) : Int))], by omega, ⟨rfl, ciI, ciI, ciI, trivial⟩, k + 1, G1, rfl, (by omega), (by exact hq), rfl, hl2, S4⟩
  refine W_skip (Wr (Pv ?_))
  refine T_shl rfl rfl rfl rfl rfl rfl (by omega) ?_
  refine T_re (v' := .int .i64 ((2 * mA x.toNat k : Nat) : Int)) (congrArg (Value.int .i64) (dbl64 hma)) (Pv (Nr ?_))
  iterate 2 refine Pv ?_
  refine T_nil (Aa (fun h10 => ?_) (fun h10 => ?_))
  ·refine W_region ?_
   iterate 2 refine Pv ?_
   refine T_re (v' := .int .i64 (((2 * mA x.toNat k) ^^^ 285 : Nat) : Int)) (congrArg (Value.int .i64) (xor64 (a := 2 * mA x.toNat k) (b := 285) (by omega) (by omega))) ?_
   refine Pv (T_nil (W_region ?_))
   refine Pv ?_
   refine Ar ?_
   refine Pv (T_nil ?_)
   have HA := mA_step x.toNat k
   have HP := mP_step x.toNat y.toNat k
   first | rw [if_pos (by omega)] at HA | rw [if_neg (by omega)] at HA
   first | rw [if_pos (by omega)] at HP | rw [if_neg (by omega)] at HP
   exact ⟨8 - (k + 1), [(1, bV y), (5, .int .i64 ((mA x.toNat (k + 1) : Nat) : Int)), (6, .int .i64 ((mP x.toNat y.toNat (k + 1) : Nat) : Int)), (7, .int .i64 ((k + 1 : Nat) : Int))], by omega, ⟨rfl, ciI, ciI, ciI, trivial⟩, k + 1, G1, rfl, (by omega), (by exact hq), rfl, hl2, S4⟩
  refine W_skip (W_region (Pv ?_))
  refine Ar ?_
  refine Pv (T_nil ?_)
  have HA := mA_step x.toNat k
  have HP := mP_step x.toNat y.toNat k
  first | rw [if_pos (by omega)] at HA | rw [if_neg (by omega)] at HA
  first | rw [if_pos (by omega)] at HP | rw [if_neg (by omega)] at HP
  exact ⟨8 - (k + 1), [(1, bV y), (5, .int .i64 ((mA x.toNat (k + 1) : Nat) : Int)), (6, .int .i64 ((mP x.toNat y.toNat (k + 1) : Nat) : Int)), (7, .int .i64 ((k + 1 : Nat) : Int))], by omega, ⟨rfl, ciI, ciI, ciI, trivial⟩, k + 1, G1, rfl, (by omega), (by exact hq), rfl, hl2, S4⟩
 refine W_exit (Wr (Pv ?_))
 refine T_i2b (mP x.toNat y.toNat k) (by omega) rfl rfl rfl rfl rfl rfl rfl ?_
 refine T_re (v' := bV (UInt8.ofNat (mP x.toNat y.toNat k))) (congrArg (Value.int .u8) (conv8 _)) (Pv (T_nil (W_ret ?_)))
 refine ⟨_, ⟨_, _, rfl, rfl, rfl⟩, ?_⟩
 obtain rfl : k = 8 := by omega
 exact ⟨rfl, hq⟩


theorem rmul_b {H : Hp} {w : World} (hH : H.le (hw w)) (x y : UInt8) :
  Calls Tryd.prog 118 #[bV x, bV y] w fun e w' => e = .returned (bV (gmul x y)) ∧ Below w.heap.size w w' :=
 (rmul_ok hH x y).mono fun e w' h => ⟨h.1, by rw [h.2]; exact below_refl _⟩

theorem rpow_ok {H : Hp} {w : World} (hH : H.le (hw w)) (x : UInt8) (m : Nat) (hm : m ≤ 255) :
  Calls Tryd.prog 132 #[bV x, .int .i64 ((m : Nat) : Int)] w fun e w' => e = .returned (bV (gpow x m)) ∧ Below w.heap.size w w' := by
 refine enter2 _ Tryd.func132 rfl Tryd.ntmps132 Tryd.results132 rfl ?_
 have S0 := St.start w hH
 refine Wr (Pv (Nr ?_))
 refine Pv (T_nil (W_seq (Wr ?_)))
 iterate 2 refine Pv ?_
 refine T_nil (W_bool 8 false rfl (decide_eq_false (by omega)) ?_)
 refine W_cond_false rfl (W_skip (W_seq (Wr (Pv (T_nil (W_block ?_))))))
 refine W_loop (fun M ρ w' => ∃ (k : Nat) (G1 : Hp), M = m - k ∧ k ≤ m ∧ ρ = [(0, bV x), (1, .int .i64 ((m : Nat) : Int)), (5, bV (gpow x k)), (6, .int .i64 (k : Int))] ∧ H.le G1 ∧ St w H G1 [] w')
  (m - 0) [(0, bV x), (1, .int .i64 ((m : Nat) : Int)), (5, bV (gpow x 0)), (6, .int .i64 ((0 : Nat) : Int))] ⟨rfl, ciI, rfl, ciI, trivial⟩ ⟨0, H, rfl, (by omega), rfl, Hp.le.refl _, S0⟩ ?_
 rintro M ρ w3 ⟨k, G1, rfl, hp5, rfl, hl2, S4⟩
 refine W_seq (Wr ?_)
 iterate 3 refine Pv ?_
 refine T_nil (Aa (fun h6 => ?_) (fun h6 => ?_))
 ·refine W_skip (W_seq (W_block (W_region ?_)))
  iterate 2 refine Pv ?_
  refine Cs g_aumbry_aumbryref04_Mul ((rmul_b S4.le (gpow x k) x ).mono ?_)
  rintro e w8 ⟨rfl, hB7⟩
  have S9 := S4.call hB7
  refine ⟨_, rfl, trivial, ?_⟩
  refine Pv (T_nil (W_region ?_))
  refine Pv ?_
  refine Ar ?_
  refine Pv (T_nil ?_)
  exact ⟨m - (k + 1), [(0, bV x), (1, .int .i64 ((m : Nat) : Int)), (5, bV (gpow x (k + 1))), (6, .int .i64 ((k + 1 : Nat) : Int))], by omega, ⟨rfl, ciI, rfl, ciI, trivial⟩, k + 1, G1, rfl, (by omega), rfl, hl2, S9⟩
 refine W_exit (Wr ?_)
 iterate 2 refine Pv ?_
 refine T_nil (W_ret ?_)
 refine ⟨_, ⟨_, _, rfl, rfl, rfl⟩, ?_⟩
 obtain rfl : k = m := by omega
 exact ⟨rfl, S4.below⟩


theorem rinv_ok {H : Hp} {w : World} (hH : H.le (hw w)) (x : UInt8) :
  Calls Tryd.prog 134 #[bV x] w fun e w' => e = .returned (bV (ginv x)) ∧ Below w.heap.size w w' := by
 have hi0 : ginv x = ginvFrom x (256 - 1) 1 := rfl
 refine enter1 _ Tryd.func134 rfl Tryd.ntmps134 Tryd.results134 rfl ?_
 have S0 := St.start w hH
 refine Wr (Pv (T_nil (W_seq (Wr ?_))))
 refine Pv (T_nil (W_block ?_))
 refine W_loop (fun M ρ w' => ∃ (k : Nat) (G1 : Hp), M = 256 - k ∧ 1 ≤ k ∧ k ≤ 256 ∧ ginv x = ginvFrom x (256 - k) k ∧ ρ = [(0, bV x), (3, .int .i64 (k : Int))] ∧ H.le G1 ∧ St w H G1 [] w')
  (256 - 1) [(0, bV x), (3, .int .i64 ((1 : Nat) : Int))] ⟨rfl, ciI, trivial⟩ ⟨1, H, rfl, (by omega), (by omega), (by exact hi0), rfl, Hp.le.refl _, S0⟩ ?_
 rintro M ρ w3 ⟨k, G1, rfl, hp5, hp6, hq, rfl, hl2, S4⟩
 refine W_seq (Wr ?_)
 iterate 2 refine Pv ?_
 refine T_nil (Aa (fun h8 => ?_) (fun h8 => ?_))
 ·refine W_skip (W_seq (W_block (Wr ?_)))
  iterate 2 refine Pv ?_
  refine T_i2b k (by omega) rfl rfl rfl rfl rfl rfl rfl ?_
  refine T_re (v' := bV (UInt8.ofNat k)) (congrArg (Value.int .u8) (conv8 _)) (Cs g_aumbry_aumbryref04_Mul ((rmul_b S4.le x (UInt8.ofNat k) ).mono ?_))
  rintro e w10 ⟨rfl, hB9⟩
  have S11 := S4.call hB9
  refine ⟨_, rfl, trivial, ?_⟩
  refine Pv (T_nil ?_)
  refine Aa (fun h12 => ?_) (fun h12 => ?_)
  ·refine Wr (Pv ?_)
   refine T_i2b k (by omega) rfl rfl rfl rfl rfl rfl rfl ?_
   refine T_re (v' := bV (UInt8.ofNat k)) (congrArg (Value.int .u8) (conv8 _)) (Pv (T_nil (W_ret ?_)))
   refine ⟨_, ⟨_, _, rfl, rfl, rfl⟩, ?_⟩
   exact ⟨by rw [hq, ginv_yes (by omega) (u8_one h12)]; rfl, S11.below⟩
  refine W_skip (W_region (Pv ?_))
  refine Ar ?_
  refine Pv (T_nil ?_)
  have HNE := h12
  exact ⟨256 - (k + 1), [(0, bV x), (3, .int .i64 ((k + 1 : Nat) : Int))], by omega, ⟨rfl, ciI, trivial⟩, k + 1, G1, rfl, (by omega), (by omega), (by exact hq.trans (ginv_no (by omega) (fun e => HNE (by rw [e]; rfl)))), rfl, hl2, S11⟩
 refine W_exit (Wr (Pv (T_nil (W_ret ?_))))
 refine ⟨_, ⟨_, _, rfl, rfl, rfl⟩, ?_⟩
 obtain rfl : k = 256 := by omega
 exact ⟨by rw [hq]; rfl, S4.below⟩


theorem rvand_ok {H : Hp} {w : World} (hH : H.le (hw w)) (n k : Nat) (hn : 1 ≤ n ∧ n ≤ 16) (hk : 1 ≤ k ∧ k ≤ 16) :
  Calls Tryd.prog 125 #[.int .i64 ((n : Nat) : Int), .int .i64 ((k : Nat) : Int)] w fun e w' => ∃ a c, e = .returned (.slice a n c) ∧ RdL (F.ext H w.heap.size w') (.slice a n c) (vand k n) ∧ Below w.heap.size w w' := by
 refine enter2 _ Tryd.func125 rfl Tryd.ntmps125 Tryd.results125 rfl ?_
 have S0 := St.start w hH
 refine Wr (Pv (T_nil (W_seq (Wr ?_))))
 iterate 3 refine Pv ?_
 refine T_bool 11 false rfl (decide_eq_false (by omega)) ?_
 iterate 2 (refine Ys ?_; refine Pv ?_)
 iterate 2 refine Pv ?_
 refine T_bool 15 false rfl (decide_eq_false (by omega)) ?_
 iterate 2 (refine Ys ?_; refine Pv ?_)
 iterate 2 refine Pv ?_
 refine T_bool 19 false rfl (decide_eq_false (by omega)) ?_
 iterate 2 (refine Ys ?_; refine Pv ?_)
 refine Pv (T_nil ?_)
 refine W_bool 22 false rfl (decide_eq_false (by omega)) ?_
 refine W_cond_false rfl (W_skip (Wr (Pv (T_nil (W_seq (Wr ?_))))))
 refine Pv (T_nil (W_block ?_))
 have S1 := S0.nilRow 26 1
 have rs2 := Rds.nil H
 refine W_loop (fun M ρ w' => ∃ (i : Nat) (a5 : Option Addr) (c6 : Nat) (hs8 : List Value) (G3 : Hp), M = n - i ∧ i ≤ n ∧ ρ = [(0, .int .i64 ((n : Nat) : Int)), (1, .int .i64 ((k : Nat) : Int)), (5, .slice a5 i c6), (6, .int .i64 (i : Int))] ∧ H.le G3 ∧ St w H G3 [.row 26 1 (.slice a5 i c6) i hs8] w' ∧ Rds G3 hs8 (vand k i) ∧ i ≤ c6)
  (n - 0) [(0, .int .i64 ((n : Nat) : Int)), (1, .int .i64 ((k : Nat) : Int)), (5, .slice none 0 0), (6, .int .i64 ((0 : Nat) : Int))] ⟨ciI, ciI, rfl, ciI, trivial⟩ ⟨0, none, 0, _, H, rfl, (by exact Nat.zero_le _), rfl, Hp.le.refl _, S1, rs2, (Nat.le_refl _)⟩ ?_
 rintro M ρ w10 ⟨i, a5, c6, hs8, G3, rfl, hp12, rfl, hl4, S11, rs9, hc7⟩
 refine W_seq (Wr ?_)
 iterate 3 refine Pv ?_
 refine T_nil (Aa (fun h13 => ?_) (fun h13 => ?_))
 ·refine W_skip (W_seq (W_block (Wr (Pv (T_nil (W_seq (Wr ?_)))))))
  refine Pv (T_nil (W_block ?_))
  have S14 := S11.nilRow 5 1
  refine W_loop (fun M ρ w' => ∃ (j : Nat) (a17 : Option Addr) (c18 : Nat) (hs20 : List Value) (a22 : Option Addr) (c23 : Nat) (G15 : Hp), M = k - j ∧ j ≤ k ∧ ρ = [(0, .int .i64 ((n : Nat) : Int)), (1, .int .i64 ((k : Nat) : Int)), (5, .slice a17 i c18), (6, .int .i64 (i : Int)), (7, .slice a22 j c23), (8, .int .i64 (j : Int))] ∧ G3.le G15 ∧ St w H G15 [.row 5 1 (.slice a22 j c23) j ((vrow i j).map bV), .row 26 1 (.slice a17 i c18) i hs20] w' ∧ Rds G15 hs20 (vand k i) ∧ i ≤ c18 ∧ j ≤ c23)
   (k - 0) [(0, .int .i64 ((n : Nat) : Int)), (1, .int .i64 ((k : Nat) : Int)), (5, .slice a5 i c6), (6, .int .i64 (i : Int)), (7, .slice none 0 0), (8, .int .i64 ((0 : Nat) : Int))] ⟨ciI, ciI, rfl, ciI, rfl, ciI, trivial⟩ ⟨0, a5, c6, _, none, 0, G3, rfl, (by exact Nat.zero_le _), rfl, Hp.le.refl _, S14, rs9, hc7, (Nat.le_refl _)⟩ ?_
  rintro M ρ w25 ⟨j, a17, c18, hs20, a22, c23, G15, rfl, hp27, rfl, hl16, S26, rs21, hc19, hc24⟩
  refine W_seq (Wr ?_)
  iterate 3 refine Pv ?_
  refine T_nil (Aa (fun h28 => ?_) (fun h28 => ?_))
  ·refine W_skip (W_seq (W_block (W_region ?_)))
   iterate 2 refine Pv ?_
   refine T_i2b i (by omega) rfl rfl rfl rfl rfl rfl rfl ?_
   refine T_re (v' := bV (UInt8.ofNat i)) (congrArg (Value.int .u8) (conv8 _)) (Pv ?_)
   refine Cs g_aumbry_aumbryref04_Pow ((rpow_ok S26.le (UInt8.ofNat i) j (by omega)).mono ?_)
   rintro e w30 ⟨rfl, hB29⟩
   have S31 := S26.call hB29
   refine ⟨_, rfl, trivial, ?_⟩
   refine Af (hone := by simp [Value.cells]; rfl) ([((gpow (UInt8.ofNat i) j) : UInt8)].map bV) fun a32 w33 hB34 ho35 => ?_
   have S36 := S31.own hB34 ho35
   refine ⟨trivial, ?_⟩
   have hD37 : (vrow i j ++ [((gpow (UInt8.ofNat i) j) : UInt8)]) = vrow i (j + 1) := (vrow_snoc i j)
   refine Ag (h1 := by exact one_bV _) (hn' := by first | rfl | (simp; done) | (simp; omega) | omega) (hx' := by rw [← hD37]; simp) (hbytes := by show _ * 1 ≤ _; omega) 1 (j + 1) ((vrow i (j + 1)).map bV) S36 (S36.rd 0 rfl) fun a38 c39 w40 hc41 S42 => ?_
   refine Pv (T_nil (W_region ?_))
   refine Pv ?_
   refine Ar ?_
   refine Pv (T_nil ?_)
   have S43 := S42.drop 0
   exact ⟨k - (j + 1), [(0, .int .i64 ((n : Nat) : Int)), (1, .int .i64 ((k : Nat) : Int)), (5, .slice a17 i c18), (6, .int .i64 (i : Int)), (7, .slice a38 (j + 1) c39), (8, .int .i64 ((j + 1 : Nat) : Int))], by omega, ⟨ciI, ciI, rfl, ciI, rfl, ciI, trivial⟩, j + 1, a17, c18, _, a38, c39, G15, rfl, (by omega), rfl, hl16, S43, rs21, hc19, hc41⟩
  refine W_exit (W_region ?_)
  iterate 2 refine Pv ?_
  obtain ⟨G49, hl50, S48, r51⟩ := S26.stillRow 0 rfl
  have rs52 : Rds G49 [.slice a22 j c23] [vrow i j] := Rds.cons (Rd.canonB r51) (Rds.nil _)
  refine Af (hone := by simp [Value.cells]; rfl) [.slice a22 j c23] fun a44 w45 hB46 ho47 => ?_
  have S53 := S48.own hB46 ho47
  refine ⟨trivial, ?_⟩
  have hD54 : (vand k i ++ [vrow i j]) = vand k (i + 1) := (by rw [show j = k by omega]; exact vand_snoc k i)
  refine T_appendS 1 (i + 1) _ S53 (fun _ _ => trivial) rfl rfl rfl rfl rfl rfl rfl rfl rfl rfl rfl rfl rfl rfl (S53.rd 0 rfl) rs52.one (by first | rfl | (simp; done) | (simp; omega) | omega) rfl (by unfold maxLen; omega) (by show _ * 24 ≤ _; omega) fun a55 c56 w57 hc58 S59 => ?_
  have rs60 := Rds.append (rs21.mono hl50) rs52
  rw [hD54] at rs60
  refine Pv (T_nil (W_region ?_))
  refine Pv ?_
  refine Ar ?_
  refine Pv (T_nil ?_)
  have S61 := S59.drop 0
  exact ⟨n - (i + 1), [(0, .int .i64 ((n : Nat) : Int)), (1, .int .i64 ((k : Nat) : Int)), (5, .slice a55 (i + 1) c56), (6, .int .i64 ((i + 1 : Nat) : Int))], by omega, ⟨ciI, ciI, rfl, ciI, trivial⟩, i + 1, a55, c56, _, G49, rfl, (by omega), rfl, (hl4.trans (hl16.trans hl50)), S61, rs60, hc58⟩
 refine W_exit (Wr ?_)
 iterate 2 refine Pv ?_
 refine T_nil (W_ret ?_)
 refine ⟨_, ⟨_, _, rfl, rfl, rfl⟩, ?_⟩
 obtain ⟨G63, hl64, S62, r65⟩ := S11.stillRow 0 rfl
 have r66 := RdL.mk r65 (rs9.mono hl64)
 obtain rfl : i = n := by omega
 exact ⟨_, _, rfl, (r66).mono S62.fin, S62.below⟩


theorem runit_ok {H : Hp} {w : World} (hH : H.le (hw w)) (n : Nat) (hn : 1 ≤ n ∧ n ≤ 16) :
  Calls Tryd.prog 133 #[.int .i64 ((n : Nat) : Int)] w fun e w' => ∃ a c, e = .returned (.slice a n c) ∧ RdL (F.ext H w.heap.size w') (.slice a n c) (unitM n n) ∧ Below w.heap.size w w' := by
 refine enter1 _ Tryd.func133 rfl Tryd.ntmps133 Tryd.results133 rfl ?_
 have S0 := St.start w hH
 refine Wr (Pv (Nr ?_))
 refine Pv (T_nil (W_seq (Wr ?_)))
 refine Pv (T_nil (W_block ?_))
 have S1 := S0.nilRow 26 1
 have rs2 := Rds.nil H
 refine W_loop (fun M ρ w' => ∃ (i : Nat) (a5 : Option Addr) (c6 : Nat) (hs8 : List Value) (G3 : Hp), M = n - i ∧ i ≤ n ∧ ρ = [(0, .int .i64 ((n : Nat) : Int)), (3, .slice a5 i c6), (4, .int .i64 (i : Int))] ∧ H.le G3 ∧ St w H G3 [.row 26 1 (.slice a5 i c6) i hs8] w' ∧ Rds G3 hs8 (unitM n i) ∧ i ≤ c6)
  (n - 0) [(0, .int .i64 ((n : Nat) : Int)), (3, .slice none 0 0), (4, .int .i64 ((0 : Nat) : Int))] ⟨ciI, rfl, ciI, trivial⟩ ⟨0, none, 0, _, H, rfl, (by exact Nat.zero_le _), rfl, Hp.le.refl _, S1, rs2, (Nat.le_refl _)⟩ ?_
 rintro M ρ w10 ⟨i, a5, c6, hs8, G3, rfl, hp12, rfl, hl4, S11, rs9, hc7⟩
 refine W_seq (Wr ?_)
 iterate 4 refine Pv ?_
 refine Tp 9 (fun h13' => ?_) (fun h13' => ?_)
 ·have h13 := of_decide_eq_true h13'
  iterate 2 (refine Ys ?_; refine Pv ?_)
  refine Pv (T_nil ?_)
  refine Aa (fun h14 => ?_) (fun h14 => ?_)
  ·refine W_skip (W_seq (W_block (Wr (Pv ?_))))
   refine T_makeS n S11 (fun _ _ => trivial) rfl rfl rfl rfl rfl rfl rfl rfl rfl rfl (by omega) (by omega) (by show 1 * _ ≤ _; omega) (by unfold maxLen; omega) fun b15 w16 S17 => ?_
   have S18 := S17.toRow (size := 1) (m := n) (xs := (List.replicate n (0 : UInt8)).map bV) 0 rfl (made_b rfl) (by rw [List.length_map, List.length_replicate, Nat.mul_one]) (by unfold maxLen; omega)
   refine Pv (Nr ?_)
   iterate 2 refine Pv ?_
   refine Ai (hm := by show 0 + Int.toNat _ * 1 = _; omega) (i * 1) ?_
   refine T_storeRow 0 (((List.replicate n (0 : UInt8)).set i 1).map bV) S18 (fun _ _ => trivial) rfl rfl rfl rfl rfl rfl rfl rfl rfl (by show _ + 1 ≤ _ * 1; omega) (one_bV1 (b := 1)) (set_bytes (l := (List.replicate n (0 : UInt8))) (q := i) (x := 1) (by rw [List.length_replicate]; omega)) fun w19 S20 => ?_
   have hD21 : ((List.replicate n (0 : UInt8)).set i 1) = urow n i := rfl
   rw [hD21] at S20
   refine T_nil (W_region ?_)
   iterate 2 refine Pv ?_
   obtain ⟨G27, hl28, S26, r29⟩ := S20.stillRow 0 rfl
   have rs30 : Rds G27 [.slice (some ⟨b15, 0, none⟩) n n] [urow n i] := Rds.cons (Rd.canonB r29) (Rds.nil _)
   refine Af (hone := by simp [Value.cells]; rfl) [.slice (some ⟨b15, 0, none⟩) n n] fun a22 w23 hB24 ho25 => ?_
   have S31 := S26.own hB24 ho25
   refine ⟨trivial, ?_⟩
   have hD32 : (unitM n i ++ [urow n i]) = unitM n (i + 1) := (unitM_snoc n i)
   refine T_appendS 1 (i + 1) _ S31 (fun _ _ => trivial) rfl rfl rfl rfl rfl rfl rfl rfl rfl rfl rfl rfl rfl rfl (S31.rd 0 rfl) rs30.one (by first | rfl | (simp; done) | (simp; omega) | omega) rfl (by unfold maxLen; omega) (by show _ * 24 ≤ _; omega) fun a33 c34 w35 hc36 S37 => ?_
   have rs38 := Rds.append (rs9.mono hl28) rs30
   rw [hD32] at rs38
   refine Pv (T_nil (W_region ?_))
   refine Pv ?_
   refine Ar ?_
   refine Pv (T_nil ?_)
   have S39 := S37.drop 0
   exact ⟨n - (i + 1), [(0, .int .i64 ((n : Nat) : Int)), (3, .slice a33 (i + 1) c34), (4, .int .i64 ((i + 1 : Nat) : Int))], by omega, ⟨ciI, rfl, ciI, trivial⟩, i + 1, a33, c34, _, G27, rfl, (by omega), rfl, (hl4.trans hl28), S39, rs38, hc36⟩
  refine W_exit (Wr ?_)
  iterate 2 refine Pv ?_
  refine T_nil (W_ret ?_)
  refine ⟨_, ⟨_, _, rfl, rfl, rfl⟩, ?_⟩
  obtain ⟨G41, hl42, S40, r43⟩ := S11.stillRow 0 rfl
  have r44 := RdL.mk r43 (rs9.mono hl42)
  obtain rfl : i = n := by omega
  exact ⟨_, _, rfl, (r44).mono S40.fin, S40.below⟩
 have h13 := of_decide_eq_false h13'
 iterate 2 refine No ?_
 refine Pv (T_nil ?_)
 refine W_cond_false rfl (W_exit (Wr ?_))
 iterate 2 refine Pv ?_
 refine T_nil (W_ret ?_)
 refine ⟨_, ⟨_, _, rfl, rfl, rfl⟩, ?_⟩
 obtain ⟨G46, hl47, S45, r48⟩ := S11.stillRow 0 rfl
 have r49 := RdL.mk r48 (rs9.mono hl47)
 obtain rfl : i = n := by omega
 exact ⟨_, _, rfl, (r49).mono S45.fin, S45.below⟩

end Go.Proofs.YtmjmjjkigblbgaaDoor
